/- The contract of codec.TakeTexts, by hand. Conditions: those written at it. -/
import Derived.Test.YtdgdabgbdephnaaGTake
import Derived.Laws.MakeOwn
set_option linter.unusedVariables false
set_option linter.unusedSimpArgs false
namespace Go.Proofs.Ytdgdabgbdephnaa.Q
open Go.RowKit Go.Proofs.YtdgdabgbdephnaaW.PrintWords Go.Proofs.YtdgdabgbdephnaaW.PrintLast Go.Proofs.YtdgdabgbdephnaaW.PrintMore

def textsL (l : List Int) : Nat → Int → List ByteArray → Option (List ByteArray × Int × Int)
  | 0, p, acc => some (acc, p, 0)
  | n + 1, p, acc => (decText l p).bind fun r => match r with
    | .ok x => textsL l n x.2 (acc ++ [x.1])
    | .error e => some ([], 0, e)
def codec_TakeTexts.f (l : List Int) : Option (List ByteArray × Int × Int) :=
  (decLen l 0).bind fun r => match r with
    | .ok x => if 0 ≤ x.2 ∧ x.2 ≤ l.length then (if (l.length : Int) - x.2 < x.1 then some ([], 0, 28) else if x.1 < 1000000000 then textsL l x.1.toNat x.2 [] else none) else none
    | .error e => some ([], 0, e)

/-- make of an empty row with room. -/
theorem R_room {w : World} {base m : Nat} (hb : base ≤ w.heap.size) (hm : m ≤ 1000000000) :
    Kd.R Kd.string 9 (w.alloc (.cells (madeCells #[Value.string ⟨#[]⟩] m) 9)) base (fun _ => True) (.slice (some ⟨w.heap.size, 0, none⟩) 0 m) [] := by
  refine ⟨fun _ _ => trivial, [], ⟨rfl, .inr ⟨w.heap.size, m, _, rfl, hb, blk_new _ _, Nat.zero_le _, ?_, ?_, rfl⟩⟩, ⟨rfl, fun j p hj => by simp at hj⟩⟩
  · simp [maxLen]; omega
  · simp [size_madeCells]; exact (Nat.mul_one m).symm
/-- A row behind the decoder's block stands while the decoder's block is turned. -/
theorem R_bel {w w1 : World} {g base : Nat} {v : Value} {xs : List ByteArray} (h : Kd.R Kd.string 9 w base (fun _ => True) v xs) (hb : Bel g w w1) (hg : g < base) : Kd.R Kd.string 9 w1 base (fun _ => True) v xs :=
  Kd.R_mono (Kd.R_move (Kd.R_bound h) (fun k hk => hb.keep k hk.2.2.1 (by have := hk.2.1; omega))) (fun _ _ => trivial)

set_option maxHeartbeats 8000000 in
set_option maxRecDepth 100000 in
theorem codec_TakeTexts.calls (A0 : Option Addr) (c0 : Nat) (l0 : List Int) (r1 : List ByteArray) (r2 : Int) (r3 : Int) (w : World) (hr0 : Kd.C (Kd.int .u8) w A0 l0.length l0) (hc0 : l0.length ≤ c0) (h : codec_TakeTexts.f l0 = some (r1, r2, r3)) :
    Calls Try.prog 21 #[.slice A0 l0.length c0] w fun e w' => ∃ v0_ : Value, e = .returned (.tuple #[v0_, .int .i64 r2, .int .i64 r3]) ∧ Kd.R Kd.string 9 w' w.heap.size (fun _ => True) v0_ r1 ∧ Below w.heap.size w w' := by
  have H := h
  unfold codec_TakeTexts.f at H
  obtain ⟨r, A1, H⟩ := Option.bind_eq_some_iff.mp H
  have A1 := Aside0.mk A1
  have HC := Aside0.mk hr0
  have Hc := Aside0.mk hc0
  clear h hr0 hc0
  obtain ⟨W, hW⟩ : ∃ W, W = (w.alloc (.cells #[.int .i64 0] 25)).alloc (decBlk A0 l0.length c0 0) := ⟨_, rfl⟩
  have hsz : (w.alloc (.cells #[.int .i64 0] 25)).heap.size = w.heap.size + 1 := by show (w.heap.push _).size = _; exact Array.size_push _
  have hszW : W.heap.size = w.heap.size + 2 := by rw [hW]; show (Array.push _ _).size = _; rw [Array.size_push, hsz]
  have hBE : W.heap[w.heap.size]? = some (.cells #[.int .i64 0] 25 (0, 0)) := by rw [hW]; exact blk_alloc (blk_new w _) _
  have hBD : W.heap[w.heap.size + 1]? = some (decBlk A0 l0.length c0 0) := by rw [hW, ← hsz]; exact blk_new _ _
  have hBW : Below w.heap.size w W := by rw [hW]; exact below_alloc (below_alloc (Below.refl _ _) _) _
  go_enter_defers Try.func21, Try.ntmps21
  cases r with
  | error x =>
    simp only [Option.some.injEq, Prod.mk.injEq] at H
    obtain ⟨rfl, rfl, rfl⟩ := H
    go_wp2_with (go_at_call 36; rw [← hW]; refine (codec_decoder_length.calls w A0 c0 (w.heap.size + 1) l0 0 (.error x) W HC.out Hc.out hBW (by omega) hBD A1.out).mono ?_; rintro e w' ⟨⟨q, hq⟩, rfl, ⟨hb, _⟩⟩)
    have hbe := (hb.block w.heap.size (by omega)).trans hBE
    refine leaves_cons (f := 33) (args := #[.pointer (some ⟨w.heap.size, 0, none⟩)]) (by simp) (by simp [go_sem]) ?_
    refine (caught_panicking w.heap.size 0 x w' hbe).mono ?_
    rintro e u' w'' ⟨rfl, rfl, hq2, hb2⟩
    have hx0 : w''.cell? ⟨w.heap.size, 0, none⟩ = some (.int .i64 x) := (blk_cell hq2 0).trans rfl
    have hbb : Below w.heap.size w w'' := hBW.trans ((hb.mono (by omega)).trans hb2)
    simp [Leaves, settle, results, Try.results21, go_sem, hx0]
    exact ⟨Kd.R_nil _ _ _ _ _, hbb⟩
  | ok x =>
    obtain ⟨n, q⟩ := x
    simp only at H
    have hn := decLen_nonneg A1.out
    have hL := decLen_small A1.out
    by_cases cq : 0 ≤ q ∧ q ≤ l0.length
    case neg => rw [if_neg cq] at H; exact absurd H (by simp)
    rw [if_pos cq] at H
    have hw : wrap64 ((l0.length : Int) - q) = (l0.length : Int) - q := by unfold wrap64; omega
    by_cases c1 : (l0.length : Int) - q < n
    · rw [if_pos c1] at H
      have c1b : decide ((l0.length : Int) - q < n) = true := decide_eq_true c1
      simp only [Option.some.injEq, Prod.mk.injEq] at H
      obtain ⟨rfl, rfl, rfl⟩ := H
      go_wp2_with (go_at_call 36; rw [← hW]; refine (codec_decoder_length.calls w A0 c0 (w.heap.size + 1) l0 0 (.ok (n, q)) W HC.out Hc.out hBW (by omega) hBD A1.out).mono ?_; rintro e w' ⟨rfl, hq, ⟨hb, _⟩⟩; have hbe := (hb.block w.heap.size (by omega)).trans hBE; have hx0 : w'.cell? ⟨w.heap.size + 1, 0, none⟩ = some (.slice A0 l0.length c0) := (blk_cell hq 0).trans rfl; have hx1 : w'.cell? ⟨w.heap.size + 1, 1, none⟩ = some (.int .i64 q) := (blk_cell hq 1).trans rfl; have hfe : w'.frozen? ⟨w.heap.size, 0, none⟩ = false := blk_frozen hbe 0; have hxe : w'.cell? ⟨w.heap.size, 0, none⟩ = some (.int .i64 0) := (blk_cell hbe 0).trans rfl)
      obtain ⟨W2, hW2⟩ : ∃ W2, W2 = w'.setCell ⟨w.heap.size, 0, none⟩ (.int .i64 28) := ⟨_, rfl⟩
      rw [← hW2]
      have hx2 : W2.cell? ⟨w.heap.size, 0, none⟩ = some (.int .i64 28) := by rw [hW2]; exact (blk_cell (blk_put hbe 0 _ rfl) 0).trans rfl
      have hbb : Below w.heap.size w W2 := by rw [hW2]; exact hBW.trans ((hb.mono (by omega)).trans (Below.setCell (p := ⟨w.heap.size, 0, none⟩) (Below.refl w.heap.size w') (Nat.le_refl _) _))
      clear hW2
      refine leaves_cons (f := 33) (args := #[.pointer (some ⟨w.heap.size, 0, none⟩)]) (by simp) (by simp [go_sem]) ?_
      refine (caught_idle ⟨w.heap.size, 0, none⟩ W2).mono ?_
      rintro e u' w'' ⟨rfl, rfl, rfl⟩
      simp [Leaves, settle, results, Try.results21, go_sem, hx2]
      exact ⟨Kd.R_nil _ _ _ _ _, hbb⟩
    · rw [if_neg c1] at H
      have c1b : decide ((l0.length : Int) - q < n) = false := decide_eq_false c1
      by_cases c2 : n < 1000000000
      case neg => rw [if_neg c2] at H; exact absurd H (by simp)
      rw [if_pos c2] at H
      obtain ⟨i09, hi09, hz9, hsz9, hby9⟩ := info_parts info9
      have hmk : ∀ w', (Instr.makeSlice 38 (.int .i64 0) (.int .i64 n)).run Try.prog w' = .ok (.slice (some ⟨w'.heap.size, 0, none⟩) 0 n.toNat) (w'.alloc (.cells (madeCells #[Value.string ⟨#[]⟩] n.toNat) 9)) := fun w' => by
        have h9 := run_make (P := Try.prog) w' 38 9 i09 (.string ⟨#[]⟩) Try.underlying38 hi09 hz9 .i64 .i64 0 n (by omega) hn (by rw [hby9]; omega) (by omega)
        rw [hsz9, Nat.mul_one] at h9
        exact h9
      have H' := Aside0.mk H
      clear H
      have HN := Aside0.mk c2
      have HN0 := Aside0.mk hn
      go_wp2_with (go_at_call 36; rw [← hW]; refine (codec_decoder_length.calls w A0 c0 (w.heap.size + 1) l0 0 (.ok (n, q)) W HC.out Hc.out hBW (by omega) hBD A1.out).mono ?_; rintro e w' ⟨rfl, hq, ⟨hb, _⟩⟩; have hbe := (hb.block w.heap.size (by omega)).trans hBE; have hx0 : w'.cell? ⟨w.heap.size + 1, 0, none⟩ = some (.slice A0 l0.length c0) := (blk_cell hq 0).trans rfl; have hx1 : w'.cell? ⟨w.heap.size + 1, 1, none⟩ = some (.int .i64 q) := (blk_cell hq 1).trans rfl)
      have BG := Aside0.mk hq
      have BE := Aside0.mk hbe
      have HB := Aside0.mk (hBW.trans (hb.mono (by omega)))
      have hsz2 : w.heap.size + 2 ≤ w'.heap.size := hszW ▸ hb.size
      clear hq hbe hb hx0 hx1
      obtain ⟨W1, hW1⟩ : ∃ W1, W1 = w'.alloc (.cells (madeCells #[Value.string ⟨#[]⟩] n.toNat) 9) := ⟨_, rfl⟩
      rw [← hW1]
      have HR := Aside0.mk (R_room (w := w') (base := w.heap.size + 2) (m := n.toNat) hsz2 (by omega))
      replace BG := Aside0.mk (blk_alloc BG.out (.cells (madeCells #[Value.string ⟨#[]⟩] n.toNat) 9))
      replace BE := Aside0.mk (blk_alloc BE.out (.cells (madeCells #[Value.string ⟨#[]⟩] n.toNat) 9))
      replace HB := Aside0.mk (below_alloc HB.out (.cells (madeCells #[Value.string ⟨#[]⟩] n.toNat) 9))
      rw [← hW1] at BG BE HB HR
      clear hW1 hmk
      go_loopg [7, 21] n.toNat (fun kq v7 v21 wr => ∃ (i : Nat) (p : Int) (acc : List ByteArray), v21 = .int .i64 i ∧ Aside0 (textsL l0 kq p acc = some (r1, r2, r3)) ∧ Aside0 (i + kq = n.toNat) ∧ Aside0 (acc.length = i) ∧ Aside0 (wr.heap[w.heap.size + 1]? = some (decBlk A0 l0.length c0 p)) ∧ Aside0 (wr.heap[w.heap.size]? = some (.cells #[.int .i64 0] 25 (0, 0))) ∧ Aside0 (Below w.heap.size w wr) ∧ Aside0 (Kd.R Kd.string 9 wr (w.heap.size + 2) (fun _ => True) v7 acc))
      case atStart => exact ⟨0, q, [], rfl, H', ⟨by omega⟩, ⟨rfl⟩, BG, BE, HB, HR⟩
      case round =>
        clear H' BG BE HB HR
        obtain ⟨i, p, acc, rfl, HA, HI, HL, BG, BE, HB, HR⟩ := hrel
        cases gk with
        | zero =>
          have H := HA.out
          clear HA
          simp only [textsL, Option.some.injEq, Prod.mk.injEq] at H
          obtain ⟨rfl, rfl, rfl⟩ := H
          have c3b : decide ((i : Int) < n) = false := decide_eq_false (by have := HI.out; have := HN0.out; omega)
          have hx1 : wr.cell? ⟨w.heap.size + 1, 1, none⟩ = some (.int .i64 p) := (blk_cell BG.out 1).trans rfl
          have hfe : wr.frozen? ⟨w.heap.size, 0, none⟩ = false := blk_frozen BE.out 0
          have hxe : wr.cell? ⟨w.heap.size, 0, none⟩ = some (.int .i64 0) := (blk_cell BE.out 0).trans rfl
          go_wp2
          go_region
          go_wp2
          obtain ⟨W2, hW2⟩ : ∃ W2, W2 = (wr.setCell ⟨w.heap.size, 0, none⟩ (.int .i64 0)).drew := ⟨_, rfl⟩
          rw [← hW2]
          have hx0 : W2.cell? ⟨w.heap.size, 0, none⟩ = some (.int .i64 0) := by rw [hW2]; exact (blk_cell (blk_drew (blk_put BE.out 0 _ rfl)) 0).trans rfl
          have hbb : Below w.heap.size w W2 := by rw [hW2]; exact (HB.out.setCell (p := ⟨w.heap.size, 0, none⟩) (Nat.le_refl _) _).drew
          have hRR : Kd.R Kd.string 9 W2 w.heap.size (fun _ => True) u7 acc := by
            rw [hW2]
            refine Kd.R_drew (Kd.R_lower (Kd.R_mono (Kd.R_move (Kd.R_bound HR.out) (fun k hk => Below.heap_setCell _ _ _ _ ?_)) (fun _ _ => trivial)) (Nat.le_add_right _ 2))
            have := hk.2.1
            show k ≠ w.heap.size
            omega
          clear hW2
          refine leaves_cons (f := 33) (args := #[.pointer (some ⟨w.heap.size, 0, none⟩)]) (by simp) (by simp [go_sem]) ?_
          refine (caught_idle ⟨w.heap.size, 0, none⟩ W2).mono ?_
          rintro e u' w'' ⟨rfl, rfl, rfl⟩
          simp [Leaves, settle, results, Try.results21, go_sem, hx0]
          exact ⟨hRR, hbb⟩
        | succ k1 =>
          have H := HA.out
          clear HA
          simp only [textsL] at H
          obtain ⟨r, A2, H⟩ := Option.bind_eq_some_iff.mp H
          have A2 := Aside0.mk A2
          have c3b : decide ((i : Int) < n) = true := decide_eq_true (by have := HI.out; have := HN0.out; omega)
          have hwi : wrap64 ((i : Int) + 1) = ((i + 1 : Nat) : Int) := by have := HI.out; have := HN.out; unfold wrap64; omega
          cases r with
          | error x =>
            simp only [Option.some.injEq, Prod.mk.injEq] at H
            obtain ⟨rfl, rfl, rfl⟩ := H
            go_wp2_with (go_at_call 35; refine (codec_decoder_text.calls w A0 c0 (w.heap.size + 1) l0 p (.error x) _ HC.out Hc.out HB.out (by omega) BG.out A2.out).mono ?_; rintro e w' ⟨⟨q, hq⟩, rfl, hb⟩)
            have hbe := (hb.below.block w.heap.size (by omega)).trans BE.out
            refine leaves_cons (f := 33) (args := #[.pointer (some ⟨w.heap.size, 0, none⟩)]) (by simp) (by simp [go_sem]) ?_
            refine (caught_panicking w.heap.size 0 x w' hbe).mono ?_
            rintro e u' w'' ⟨rfl, rfl, hq2, hb2⟩
            have hx0 : w''.cell? ⟨w.heap.size, 0, none⟩ = some (.int .i64 x) := (blk_cell hq2 0).trans rfl
            have hbb : Below w.heap.size w w'' := HB.out.trans ((hb.below.mono (by omega)).trans hb2)
            simp [Leaves, settle, results, Try.results21, go_sem, hx0]
            exact ⟨Kd.R_nil _ _ _ _ _, hbb⟩
          | ok x =>
            obtain ⟨s, p2⟩ := x
            simp only at H
            have H' := Aside0.mk H
            clear H
            have hal : (acc.length + 1) * 16 ≤ 140737488355328 := by have := HI.out; have := HL.out; have := HN.out; omega
            have HAL := Aside0.mk hal
            clear hal
            go_wp2_with (first | (go_at_call 35; refine (codec_decoder_text.calls w A0 c0 (w.heap.size + 1) l0 p (.ok (s, p2)) _ HC.out Hc.out HB.out (by omega) BG.out A2.out).mono ?_; rintro e w' ⟨rfl, hq, hb⟩; have n1_ := Aside0.mk (R_bel HR.out hb (by omega)); have n2_ := Aside0.mk ((hb.below.block w.heap.size (by omega)).trans BE.out); have n3_ := Aside0.mk (HB.out.trans (hb.below.mono (by omega))); have n4_ := Aside0.mk hq; have n5_ := Aside0.mk (Nat.lt_of_lt_of_le (blk_lt BG.out) hb.below.size); clear hq hb HR BE HB BG; have HR := n1_; have BE := n2_; have HB := n3_; have BG := n4_; have HSZ := n5_; have HX := Aside0.mk (Below.refl (w.heap.size + 2) w'); clear n1_ n2_ n3_ n4_ n5_) | ((with_reducible refine gate_builtin (b := .append) (xs := #[.tmp 23, .tmp 25]) rfl ?_); at_builtin; refine Kd.R_append Kd.string (w0 := w') (w.heap.size + 2) rfl (.tmp 23) (.tmp 25) 38 9 (.string ⟨#[]⟩) 16 rfl Try.underlying38 info9 rfl (by decide) (by omega) u7 acc s [.string s] (fun _ => True) (fun _ => False) rfl rfl ?aP (fun _ hk => hk.elim) ?aF ?aO ?aB ?aS ?aL ?_; (case aP => exact rfl); (case aB => exact (by repeat (first | exact HX.out | apply pw_below_drewN | apply below_drew1))); (case aF => exact (fun _ _ => trivial)); (case aO => exact (by (with_reducible repeat (first | apply Kd.R_alloc | apply Kd.R_drewN | apply Kd.R_drew)); exact HR.out)); (case aS => exact HSZ.out); (case aL => exact HAL.out); intro v26 w13 ho hb hg hat; have n1_ := Aside0.mk ho; have n2_ := Aside0.mk ((hb.block w.heap.size (by omega)).trans BE.out); have n3_ := Aside0.mk (HB.out.trans (hb.mono (by omega))); have n4_ := Aside0.mk ((hb.block (w.heap.size + 1) (by omega)).trans BG.out); clear HR BE HB BG HX ho hb hg hat; have HR := n1_; have BE := n2_; have HB := n3_; have BG := n4_; clear n1_ n2_ n3_ n4_))
            go_roundg k1
            case measure => omega
            case rel => exact ⟨i + 1, p2, acc ++ [s], (by rw [← hwi]), H', ⟨by have := HI.out; omega⟩, ⟨by rw [List.length_append, List.length_singleton, HL.out]⟩, BG, BE, HB, HR⟩
end Go.Proofs.Ytdgdabgbdephnaa.Q
