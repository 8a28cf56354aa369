/- The contracts of the methods int, length and text of codec.decoder, by hand: each hands back its value and moves the decoder's place, or panics with the fault's error. Conditions: those written at each. -/
import Derived.Test.YtdgdabgbdephnaaQ0
import Derived.WalkLawsBesides
set_option linter.unusedVariables false
set_option linter.unusedSimpArgs false
namespace Go.Proofs.Ytdgdabgbdephnaa.Q
open Go.RowKit Go.Proofs.YtdgdabgbdephnaaW.PrintWords Go.Proofs.YtdgdabgbdephnaaW.PrintLast Go.Proofs.YtdgdabgbdephnaaW.PrintMore

/-- The number behind the zigzag. -/
def decFin (z : Int) : Int := Go.bits .xor .i64 (wrap64 (z / 2)) (wrap64 (-(wrap64 (Go.bits .and .u64 z 1))))
def decNext (z c i : Int) : Int := Go.bits .or .u64 z (IntKind.u64.wrap (IntKind.u64.wrap (Go.bits .and .u8 c 127) * 2 ^ (7 * i).toNat))
def decL (l : List Int) : Nat → Int → Int → Int → Option (Except Int (Int × Int))
  | 0, _, _, _ => none
  | k + 1, z, i, p =>
    if (l.length : Int) ≤ p then some (.error 28) else
    if i = 9 ∧ rd l p ≠ 1 then some (.error 6) else
    if 0 < i ∧ rd l p = 0 then some (.error 6) else
    if rd l p < 128 then some (.ok (decFin (decNext z (rd l p) i), p + 1)) else decL l k (decNext z (rd l p) i) (i + 1) (p + 1)
def decI (l : List Int) (p : Int) : Option (Except Int (Int × Int)) :=
  if 0 ≤ p ∧ l.length < 9223372036854775807 then decL l 10 0 0 p else none

abbrev decBlk (A : Option Addr) (n c : Nat) (p : Int) : Obj := .cells #[.slice A n c, .int .i64 p] 64 (0, 0)
/-- Only block g is turned, of those that stood. -/
structure Bel (g : Nat) (w w1 : World) : Prop where
  below : Below g w w1
  keep : ∀ k, k < w.heap.size → k ≠ g → w1.heap[k]? = w.heap[k]?
theorem Bel.refl (g : Nat) (w : World) : Bel g w w := ⟨Below.refl g w, fun _ _ _ => rfl⟩
theorem Bel.drewN {g : Nat} {w w1 : World} (h : Bel g w w1) (m : Nat) : Bel g w (w1.drewN m) := ⟨pw_below_drewN h.below m, fun k hk hg => ((pw_below_drewN (Below.refl (k + 1) w1) m).block k (Nat.lt_succ_self k)).trans (h.keep k hk hg)⟩
theorem Bel.put {g : Nat} {w w1 : World} (h : Bel g w w1) (i : Nat) (u : Value) : Bel g w (w1.setCell ⟨g, i, none⟩ u) := ⟨h.below.setCell (Nat.le_refl _) _, fun k hk hg => (Below.heap_setCell _ _ _ _ hg).trans (h.keep k hk hg)⟩
/-- What a decoder's method leaves. -/
def DecEnd {α : Type} (f : α → Value) (w0 w : World) (A : Option Addr) (n c g : Nat) (r : Except Int (α × Int)) (e : Ending) (w' : World) : Prop :=
  match r with
  | .ok (x, p) => e = .returned (f x) ∧ w'.heap[g]? = some (decBlk A n c p) ∧ Bel g w w'
  | .error x => (∃ p, w'.heap[g]? = some (decBlk A n c p)) ∧ e = .panicked [{ v := .iface 71 (.agg #[.int .i64 x]), recovered := false }] ∧ Bel g w w'

set_option maxHeartbeats 4000000 in
set_option maxRecDepth 100000 in
theorem codec_decoder_int.calls (w0 : World) (A : Option Addr) (c g : Nat) (l : List Int) (p : Int) (r : Except Int (Int × Int)) (w : World)
    (hC : Kd.C (Kd.int .u8) w0 A l.length l) (hc : l.length ≤ c) (hb : Below w0.heap.size w0 w) (hg : w0.heap.size ≤ g)
    (hB : w.heap[g]? = some (decBlk A l.length c p)) (h : decI l p = some r) :
    Calls Try.prog 34 #[.pointer (some ⟨g, 0, none⟩)] w (DecEnd (.int .i64 ·) w0 w A l.length c g r) := by
  unfold decI at h
  have hr : 0 ≤ p ∧ l.length < 9223372036854775807 := by
    by_cases c : 0 ≤ p ∧ l.length < 9223372036854775807
    · exact c
    · rw [if_neg c] at h
      exact absurd h (by simp)
  rw [if_pos hr] at h
  have H' := Aside0.mk h
  have HL := Aside0.mk hr.2
  have HP := Aside0.mk hr.1
  have HC := Aside0.mk hC
  have BK := Aside0.mk hB
  have HB := Aside0.mk (Bel.refl g w)
  have HW := Aside0.mk hb
  have HG := Aside0.mk hg
  have Hc := Aside0.mk hc
  clear h hr hC hB hb hg hc
  go_enter Try.func34, Try.ntmps34
  go_wp2
  go_loopg [3, 4] 10 (fun kq v3 v4 wr => ∃ (z i p : Int), v3 = .int .u64 z ∧ v4 = .int .i64 i ∧ Aside0 (decL l kq z i p = some r) ∧ Aside0 (0 ≤ i ∧ i + kq ≤ 10) ∧ Aside0 (0 ≤ p) ∧ Aside0 (wr.heap[g]? = some (decBlk A l.length c p)) ∧ Aside0 (Bel g w wr))
  case atStart => exact ⟨0, 0, p, rfl, rfl, H', ⟨by omega⟩, HP, BK, HB⟩
  case round =>
    clear H' BK HB HP
    obtain ⟨z, i, p, rfl, rfl, HA, HI, HP, BK, HB⟩ := hrel
    cases gk with
    | zero => exact absurd HA.out (by simp [decL])
    | succ k1 =>
      have H := HA.out
      clear HA
      simp only [decL] at H
      have hx0 : wr.cell? ⟨g, 0, none⟩ = some (.slice A l.length c) := (blk_cell BK.out 0).trans rfl
      have hx1 : wr.cell? ⟨g, 1, none⟩ = some (.int .i64 p) := (blk_cell BK.out 1).trans rfl
      by_cases c1 : (l.length : Int) ≤ p
      · rw [if_pos c1] at H
        have c1b : decide ((l.length : Int) ≤ p) = true := decide_eq_true c1
        obtain rfl := Option.some.inj H
        go_wp2
        go_quiet (fail)
        go_wp2
        exact ⟨rfl, ⟨p, blk_drewN BK.out _⟩, rfl, Bel.drewN HB.out _⟩
      · rw [if_neg c1] at H
        have c1b : decide ((l.length : Int) ≤ p) = false := decide_eq_false c1
        have hp0 := HP.out
        have hp1 : p < (l.length : Int) := by omega
        have hW : Below w0.heap.size w0 wr := HW.out.trans (HB.out.below.mono HG.out)
        obtain ⟨ad, rfl, hx2⟩ := Kd.at_int (Kd.C_below HC.out hW) p hp0 hp1
        clear hW
        have c2 : decide (p < (l.length : Int)) = true := decide_eq_true hp1
        have c3 : decide (0 ≤ p) = true := decide_eq_true hp0
        have hI := HI.out
        have hI := HI.out
        have hL := HL.out
        have hwp : wrap64 (p + 1) = p + 1 := by unfold wrap64; omega
        have hfz : wr.frozen? ⟨g, 1, none⟩ = false := blk_frozen BK.out 1
        have hwi : wrap64 (i + 1) = i + 1 := by unfold wrap64; omega
        have hw7 : wrap64 (7 * i) = 7 * i := by unfold wrap64; omega
        have BK2 : ∀ m, ((wr.drewN m).setCell ⟨g, 1, none⟩ (.int .i64 (p + 1))).heap[g]? = some (decBlk (some ad) l.length c (p + 1)) := fun m => blk_put (blk_drewN BK.out m) 1 _ rfl
        have HB2 : ∀ m, Bel g w ((wr.drewN m).setCell ⟨g, 1, none⟩ (.int .i64 (p + 1))) := fun m => (Bel.drewN HB.out m).put _ _
        by_cases c4 : i = 9
        · have c4b : (i == 9) = true := beq_iff_eq.mpr c4
          by_cases c5 : rd l p = 1
          · have c5b : (rd l p != 1) = false := bne_eq_false_iff_eq.mpr c5
            have c6b : decide (0 < i) = true := decide_eq_true (by omega)
            have c7b : (rd l p == 0) = false := beq_eq_false_iff_ne.mpr (by omega)
            rw [if_neg (by omega), if_neg (by omega)] at H
            have c8 : rd l p < 128 := by omega
            have c8b : decide (rd l p < 128) = true := decide_eq_true c8
            rw [if_pos c8] at H
            clear c4 c5
            obtain rfl := Option.some.inj H
            go_wp2
            go_quiet (fail)
            go_wp2
            go_quiet (fail)
            go_wp2
            go_ret
            exact ⟨rfl, BK2 _, HB2 _⟩
          · have c5b : (rd l p != 1) = true := bne_iff_ne.mpr c5
            rw [if_pos ⟨c4, c5⟩] at H
            obtain rfl := Option.some.inj H
            go_wp2
            go_quiet (fail)
            go_wp2
            go_quiet (fail)
            go_wp2
            exact ⟨rfl, ⟨p, blk_drewN BK.out _⟩, rfl, Bel.drewN HB.out _⟩
        · have c4b : (i == 9) = false := beq_eq_false_iff_ne.mpr c4
          rw [if_neg (by omega)] at H
          by_cases c6 : 0 < i
          · have c6b : decide (0 < i) = true := decide_eq_true c6
            by_cases c7 : rd l p = 0
            · have c7b : (rd l p == 0) = true := beq_iff_eq.mpr c7
              rw [if_pos ⟨c6, c7⟩] at H
              obtain rfl := Option.some.inj H
              go_wp2
              go_quiet (fail)
              go_wp2
              go_quiet (fail)
              go_wp2
              exact ⟨rfl, ⟨p, blk_drewN BK.out _⟩, rfl, Bel.drewN HB.out _⟩
            · have c7b : (rd l p == 0) = false := beq_eq_false_iff_ne.mpr c7
              rw [if_neg (by omega)] at H
              by_cases c8 : rd l p < 128
              · have c8b : decide (rd l p < 128) = true := decide_eq_true c8
                rw [if_pos c8] at H
                obtain rfl := Option.some.inj H
                go_wp2
                go_quiet (fail)
                go_wp2
                go_quiet (fail)
                go_wp2
                go_ret
                exact ⟨rfl, BK2 _, HB2 _⟩
              · have c8b : decide (rd l p < 128) = false := decide_eq_false c8
                rw [if_neg c8] at H
                go_wp2
                go_quiet (fail)
                go_wp2
                go_quiet (fail)
                go_wp2
                go_roundg k1
                case measure => omega
                case rel => exact ⟨_, i + 1, p + 1, rfl, (by first | rfl | simp [hwi]), ⟨H⟩, ⟨by omega⟩, ⟨by omega⟩, ⟨BK2 _⟩, ⟨HB2 _⟩⟩
          · have c6b : decide (0 < i) = false := decide_eq_false c6
            rw [if_neg (by omega)] at H
            by_cases c8 : rd l p < 128
            · have c8b : decide (rd l p < 128) = true := decide_eq_true c8
              rw [if_pos c8] at H
              obtain rfl := Option.some.inj H
              go_wp2
              go_quiet (fail)
              go_wp2
              go_quiet (fail)
              go_wp2
              go_ret
              exact ⟨rfl, BK2 _, HB2 _⟩
            · have c8b : decide (rd l p < 128) = false := decide_eq_false c8
              rw [if_neg c8] at H
              go_wp2
              go_quiet (fail)
              go_wp2
              go_quiet (fail)
              go_wp2
              go_roundg k1
              case measure => omega
              case rel => exact ⟨_, i + 1, p + 1, rfl, (by first | rfl | simp [hwi]), ⟨H⟩, ⟨by omega⟩, ⟨by omega⟩, ⟨BK2 _⟩, ⟨HB2 _⟩⟩

/-! ### length -/
def decLen (l : List Int) (p : Int) : Option (Except Int (Int × Int)) :=
  (decI l p).bind fun r => match r with
    | .ok x => if x.1 < 0 then some (.error 6) else some (.ok x)
    | .error e => some (.error e)
set_option maxHeartbeats 4000000 in
set_option maxRecDepth 100000 in
theorem codec_decoder_length.calls (w0 : World) (A : Option Addr) (c g : Nat) (l : List Int) (p : Int) (r : Except Int (Int × Int)) (w : World)
    (hC : Kd.C (Kd.int .u8) w0 A l.length l) (hc : l.length ≤ c) (hb : Below w0.heap.size w0 w) (hg : w0.heap.size ≤ g)
    (hB : w.heap[g]? = some (decBlk A l.length c p)) (h : decLen l p = some r) :
    Calls Try.prog 36 #[.pointer (some ⟨g, 0, none⟩)] w (DecEnd (.int .i64 ·) w0 w A l.length c g r) := by
  have H := h
  unfold decLen at H
  obtain ⟨r1, A1, H⟩ := Option.bind_eq_some_iff.mp H
  have A1 := Aside0.mk A1
  have HC := Aside0.mk hC
  have BK := Aside0.mk hB
  have HW := Aside0.mk hb
  have HG := Aside0.mk hg
  have Hc := Aside0.mk hc
  clear h hC hB hb hg hc
  go_enter Try.func36, Try.ntmps36
  cases r1 with
  | error x =>
    obtain rfl := Option.some.inj H
    clear H
    go_wp2_with (go_at_call 34; refine (codec_decoder_int.calls w0 A c g l p (.error x) _ HC.out Hc.out HW.out HG.out BK.out A1.out).mono ?_; rintro e w' ⟨⟨q, hq⟩, rfl, hb⟩)
    exact ⟨rfl, ⟨q, hq⟩, rfl, hb⟩
  | ok x =>
    obtain ⟨n, q⟩ := x
    simp only at H
    by_cases c1 : n < 0
    · rw [if_pos c1] at H
      have c1b : decide (n < 0) = true := decide_eq_true c1
      clear c1
      obtain rfl := Option.some.inj H
      clear H
      go_wp2_with (go_at_call 34; refine (codec_decoder_int.calls w0 A c g l p (.ok (n, q)) _ HC.out Hc.out HW.out HG.out BK.out A1.out).mono ?_; rintro e w' ⟨rfl, hq, hb⟩)
      exact ⟨rfl, ⟨q, hq⟩, rfl, hb⟩
    · rw [if_neg c1] at H
      have c1b : decide (n < 0) = false := decide_eq_false c1
      clear c1
      obtain rfl := Option.some.inj H
      clear H
      go_wp2_with (go_at_call 34; refine (codec_decoder_int.calls w0 A c g l p (.ok (n, q)) _ HC.out Hc.out HW.out HG.out BK.out A1.out).mono ?_; rintro e w' ⟨rfl, hq, hb⟩)
      go_ret
      exact ⟨rfl, hq, hb⟩

/-! ### text -/
def decText (l : List Int) (p : Int) : Option (Except Int (ByteArray × Int)) :=
  (decLen l p).bind fun r => match r with
    | .ok x => if 0 ≤ x.2 ∧ x.2 ≤ l.length then (if (l.length : Int) - x.2 < x.1 then some (.error 28) else some (.ok (strOfNums ((l.take (x.2 + x.1).toNat).drop x.2.toNat), x.2 + x.1))) else none
    | .error e => some (.error e)
theorem decLen_small {l : List Int} {p : Int} {r : Except Int (Int × Int)} (h : decLen l p = some r) : l.length < 9223372036854775807 := by
  unfold decLen decI at h
  by_cases c : 0 ≤ p ∧ l.length < 9223372036854775807
  · exact c.2
  · rw [if_neg c] at h
    exact absurd h (by simp)
theorem decLen_nonneg {l : List Int} {p n q : Int} (h : decLen l p = some (.ok (n, q))) : 0 ≤ n := by
  unfold decLen at h
  obtain ⟨r, _, h⟩ := Option.bind_eq_some_iff.mp h
  cases r with
  | error x => exact absurd h (by simp)
  | ok x =>
    simp only at h
    by_cases c : x.1 < 0
    · rw [if_pos c] at h
      exact absurd h (by simp)
    · rw [if_neg c] at h
      simp only [Option.some.injEq, Except.ok.injEq] at h
      subst h
      omega
set_option maxHeartbeats 4000000 in
set_option maxRecDepth 100000 in
theorem codec_decoder_text.calls (w0 : World) (A : Option Addr) (c g : Nat) (l : List Int) (p : Int) (r : Except Int (ByteArray × Int)) (w : World)
    (hC : Kd.C (Kd.int .u8) w0 A l.length l) (hc : l.length ≤ c) (hb : Below w0.heap.size w0 w) (hg : w0.heap.size ≤ g)
    (hB : w.heap[g]? = some (decBlk A l.length c p)) (h : decText l p = some r) :
    Calls Try.prog 35 #[.pointer (some ⟨g, 0, none⟩)] w (DecEnd (.string ·) w0 w A l.length c g r) := by
  have H := h
  unfold decText at H
  obtain ⟨r1, A1, H⟩ := Option.bind_eq_some_iff.mp H
  have A1 := Aside0.mk A1
  have HC := Aside0.mk hC
  have BK := Aside0.mk hB
  have HW := Aside0.mk hb
  have HG := Aside0.mk hg
  have Hc := Aside0.mk hc
  clear h hC hB hb hg hc
  go_enter Try.func35, Try.ntmps35
  cases r1 with
  | error x =>
    obtain rfl := Option.some.inj H
    clear H
    go_wp2_with (go_at_call 36; refine (codec_decoder_length.calls w0 A c g l p (.error x) _ HC.out Hc.out HW.out HG.out BK.out A1.out).mono ?_; rintro e w' ⟨⟨q, hq⟩, rfl, hb⟩)
    exact ⟨rfl, ⟨q, hq⟩, rfl, hb⟩
  | ok x =>
    obtain ⟨n, q⟩ := x
    simp only at H
    have hn := decLen_nonneg A1.out
    have hL := decLen_small A1.out
    by_cases c0 : 0 ≤ q ∧ q ≤ l.length
    · rw [if_pos c0] at H
      have hw : wrap64 ((l.length : Int) - q) = (l.length : Int) - q := by unfold wrap64; omega
      by_cases c1 : (l.length : Int) - q < n
      · rw [if_pos c1] at H
        have c1b : decide ((l.length : Int) - q < n) = true := decide_eq_true c1
        obtain rfl := Option.some.inj H
        clear H
        go_wp2_with (go_at_call 36; refine (codec_decoder_length.calls w0 A c g l p (.ok (n, q)) _ HC.out Hc.out HW.out HG.out BK.out A1.out).mono ?_; rintro e w' ⟨rfl, hq, hb⟩; have hx0 : w'.cell? ⟨g, 0, none⟩ = some (.slice A l.length c) := (blk_cell hq 0).trans rfl; have hx1 : w'.cell? ⟨g, 1, none⟩ = some (.int .i64 q) := (blk_cell hq 1).trans rfl)
        go_quiet (fail)
        go_wp2
        exact ⟨rfl, ⟨q, blk_drewN hq _⟩, rfl, Bel.drewN hb _⟩
      · rw [if_neg c1] at H
        have c1b : decide ((l.length : Int) - q < n) = false := decide_eq_false c1
        obtain rfl := Option.some.inj H
        clear H
        have hwa : wrap64 (q + n) = q + n := by unfold wrap64; omega
        have hwb : wrap64 (q + n - n) = q := by unfold wrap64; omega
        obtain ⟨i09, hi09, _, hsz9, _⟩ := info_parts info5
        obtain ⟨A9, hcut9, hA9, hC9⟩ := print_mid_of (P := Try.prog) (Value.int .u8) 0 22 5 .i64 .i64 Try.underlying22 hi09 hsz9 A c l q (q + n) c0.1 (by omega) (by omega) Hc.out
        have hln : ((l.take (q + n).toNat).drop q.toNat).length = (q + n).toNat - q.toNat := by rw [List.length_drop, List.length_take]; omega
        go_wp2_with (go_at_call 36; refine (codec_decoder_length.calls w0 A c g l p (.ok (n, q)) _ HC.out Hc.out HW.out HG.out BK.out A1.out).mono ?_; rintro e w' ⟨rfl, hq, hb⟩; have hx0 : w'.cell? ⟨g, 0, none⟩ = some (.slice A l.length c) := (blk_cell hq 0).trans rfl; have hx1 : w'.cell? ⟨g, 1, none⟩ = some (.int .i64 q) := (blk_cell hq 1).trans rfl; have hfz : w'.frozen? ⟨g, 1, none⟩ = false := blk_frozen hq 1)
        go_quiet (fail)
        go_wp2
        obtain ⟨W1, hW1⟩ : ∃ W1, W1 = (w'.drewN nq).setCell ⟨g, 1, none⟩ (.int .i64 (q + n)) := ⟨_, rfl⟩
        rw [← hW1]
        have hq1 : W1.heap[g]? = some (decBlk A l.length c (q + n)) := by rw [hW1]; exact blk_put (blk_drewN hq _) 1 _ rfl
        have hb1 : Bel g w W1 := by rw [hW1]; exact (Bel.drewN hb _).put _ _
        clear hW1 hx0 hx1 hfz hb hq
        have hx0 : W1.cell? ⟨g, 0, none⟩ = some (.slice A l.length c) := (blk_cell hq1 0).trans rfl
        have hx1 : W1.cell? ⟨g, 1, none⟩ = some (.int .i64 (q + n)) := (blk_cell hq1 1).trans rfl
        have hCW : (Kd.int .u8).C W1 A9 _ _ := Kd.C_of_reads (h1 := fun _ => rfl) (hA9 _ (Kd.reads_of_C (Kd.C_below HC.out (HW.out.trans (hb1.below.mono HG.out)))))
        have hcv : ∀ m, (convert 22 9 (.slice A9 ((q + n).toNat - q.toNat) (c - q.toNat))).run Try.prog (W1.drewN m) = .ok (.string (strOfNums ((l.take (q + n).toNat).drop q.toNat))) (W1.drewN m) := fun m => by
          have := Kd.C_string (P := Try.prog) (A := A9) (c := c - q.toNat) Try.underlying22 Try.underlying5 Try.underlying9 (Kd.C_drewN hCW m)
          rw [hln] at this
          exact this
        rw [hln] at hcut9
        have hwq : wrap64 q = q := by unfold wrap64; omega
        have hbn : ∀ m, Bel g w (W1.drewN m) := fun m => Bel.drewN hb1 m
        have hqn : ∀ m, (W1.drewN m).heap[g]? = some (decBlk A l.length c (q + n)) := fun m => blk_drewN hq1 m
        clear hCW hA9 hC9 hln
        go_quiet (fail)
        go_wp2
        go_ret
        exact ⟨rfl, hqn _, hbn _⟩
    · rw [if_neg c0] at H
      exact absurd H (by simp)
end Go.Proofs.Ytdgdabgbdephnaa.Q
