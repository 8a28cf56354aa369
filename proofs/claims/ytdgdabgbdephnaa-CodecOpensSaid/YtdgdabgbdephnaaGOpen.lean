/- The contract of codec.Open, by hand. Conditions: those written at it. -/
import Derived.Test.YtdgdabgbdephnaaGTake
import Derived.Test.YtdgdabgbdephnaaGSeal
import Derived.Deep.RegionLaw
import Derived.Test.YtdgdabgbdephnaaGEq
set_option linter.unusedVariables false
set_option linter.unusedSimpArgs false
namespace Go.Proofs.Ytdgdabgbdephnaa.Q
open Go.RowKit Go.Proofs.YtdgdabgbdephnaaW.PrintWords Go.Proofs.YtdgdabgbdephnaaW.PrintLast Go.Proofs.YtdgdabgbdephnaaW.PrintMore

def codec_Open.f (l : List Int) : Option (Int × List Int × Int × Int) :=
  if l.length = 0 then some (0, [], 0, 28) else
  (decLen l 1).bind fun r => match r with
    | .ok x => if 0 ≤ x.2 ∧ x.2 ≤ l.length ∧ l.length < 1000000000 then
        (if (l.length : Int) - x.2 < 4 then some (0, [], 0, 28) else
         if (l.length : Int) - x.2 - 4 < x.1 then some (0, [], 0, 28) else
         (codec_Sum.f (20 * l.length + 300) (l.take (x.2 + x.1).toNat)).bind fun n =>
           if four_ n = (l.take (x.2 + x.1 + 4).toNat).drop (x.2 + x.1).toNat then some (wrap64 (rd l 0), (l.take (x.2 + x.1).toNat).drop x.2.toNat, x.2 + x.1 + 4, 0) else some (0, [], 0, 29)) else none
    | .error e => some (0, [], 0, e)

theorem arrayAt_4 (ad : Addr) (c : Nat) (W : World) : (Instr.arrayAt 68 (.slice (some ad) 4 c)).run Try.prog W = .ok (.pointer (some ad)) W := by
  simp [Instr.arrayAt, run_underlying Try.underlying68]
theorem add_0 (ad : Addr) : ad.add (Int.toNat 0) = ad := by simp [Addr.add]
theorem add_1 (ad : Addr) : ad.add (Int.toNat 1) = ⟨ad.block, ad.off + 1, none⟩ := by simp [Addr.add]
theorem add_2 (ad : Addr) : ad.add (Int.toNat 2) = ⟨ad.block, ad.off + 2, none⟩ := by simp [Addr.add]
theorem add_3 (ad : Addr) : ad.add (Int.toNat 3) = ⟨ad.block, ad.off + 3, none⟩ := by simp [Addr.add]
/-- No panic. -/
def NoPanic (Q : Exit → Act → World → Prop) : Exit → Act → World → Prop
  | .panic _, _, _ => False
  | e, a, w => Q e a w
theorem wp_nopanic {c : Code} {Q : Exit → Act → World → Prop} {a : Act} {w : World} (h : Code.wp Try.prog c (NoPanic Q) a w) : Code.wp Try.prog c Q a w :=
  Code.wp_mono (fun e a w h => by
    cases e <;> first | exact h.elim | exact h) h

set_option maxHeartbeats 8000000 in
set_option maxRecDepth 100000 in
theorem codec_Open.calls (A0 : Option Addr) (c0 : Nat) (l0 : List Int) (r1 : Int) (r2 : List Int) (r3 : Int) (r4 : Int) (w : World) (hr0 : Kd.C (Kd.int .u8) w A0 l0.length l0) (hc0 : l0.length ≤ c0) (h : codec_Open.f l0 = some (r1, r2, r3, r4)) :
    Calls Try.prog 26 #[.slice A0 l0.length c0] w fun e w' => ∃ v1_ : Value, e = .returned (.tuple #[.int .i64 r1, v1_, .int .i64 r3, .int .i64 r4]) ∧ Kd.R (Kd.int .u8) 5 w' w.heap.size (fun _ => True) v1_ r2 ∧ Below w.heap.size w w' := by
  have H := h
  unfold codec_Open.f at H
  have HC := Aside0.mk hr0
  have Hc := Aside0.mk hc0
  clear h hr0 hc0
  have hBE0 : (w.alloc (.cells #[.int .i64 0] 25)).heap[w.heap.size]? = some (.cells #[.int .i64 0] 25 (0, 0)) := blk_new w _
  have hB0 : Below w.heap.size w (w.alloc (.cells #[.int .i64 0] 25)) := below_alloc (Below.refl _ _) _
  by_cases cz : l0.length = 0
  · rw [if_pos cz] at H
    have czb : ((l0.length : Int) == 0) = true := beq_iff_eq.mpr (by omega)
    simp only [Option.some.injEq, Prod.mk.injEq] at H
    obtain ⟨rfl, rfl, rfl, rfl⟩ := H
    go_enter_defers Try.func26, Try.ntmps26
    go_wp2
    obtain ⟨W2, hW2⟩ : ∃ W2, W2 = w.alloc (.cells #[.int .i64 28] 25) := ⟨_, rfl⟩
    rw [← hW2]
    have hx2 : W2.cell? ⟨w.heap.size, 0, none⟩ = some (.int .i64 28) := by rw [hW2]; exact (blk_cell (blk_new w _) 0).trans rfl
    have hbb : Below w.heap.size w W2 := by rw [hW2]; exact below_alloc (Below.refl _ _) _
    clear hW2
    refine leaves_cons (f := 33) (args := #[.pointer (some ⟨w.heap.size, 0, none⟩)]) (by simp) (by simp [go_sem]) ?_
    refine (caught_idle ⟨w.heap.size, 0, none⟩ W2).mono ?_
    rintro e u' w'' ⟨rfl, rfl, rfl⟩
    simp [Leaves, settle, results, Try.results26, go_sem, hx2]
    exact ⟨Kd.R_nil _ _ _ _ _, hbb⟩
  rw [if_neg cz] at H
  have czb : ((l0.length : Int) == 0) = false := beq_eq_false_iff_ne.mpr (by omega)
  obtain ⟨r, A1, H⟩ := Option.bind_eq_some_iff.mp H
  have A1 := Aside0.mk A1
  obtain ⟨W, hW⟩ : ∃ W, W = (w.alloc (.cells #[.int .i64 0] 25)).alloc (decBlk A0 l0.length c0 1) := ⟨_, rfl⟩
  have hsz : (w.alloc (.cells #[.int .i64 0] 25)).heap.size = w.heap.size + 1 := by show (w.heap.push _).size = _; exact Array.size_push _
  have hBE : W.heap[w.heap.size]? = some (.cells #[.int .i64 0] 25 (0, 0)) := by rw [hW]; exact blk_alloc hBE0 _
  have hBD : W.heap[w.heap.size + 1]? = some (decBlk A0 l0.length c0 1) := by rw [hW, ← hsz]; exact blk_new _ _
  have hBW : Below w.heap.size w W := by rw [hW]; exact below_alloc hB0 _
  have hszW : W.heap.size = w.heap.size + 2 := by rw [hW]; show (Array.push _ _).size = _; rw [Array.size_push, hsz]
  clear hBE0 hB0
  go_enter_defers Try.func26, Try.ntmps26
  cases r with
  | error x =>
    simp only [Option.some.injEq, Prod.mk.injEq] at H
    obtain ⟨rfl, rfl, rfl, rfl⟩ := H
    go_wp2_with (go_at_call 36; rw [← hW]; refine (codec_decoder_length.calls w A0 c0 (w.heap.size + 1) l0 1 (.error x) W HC.out Hc.out hBW (by omega) hBD A1.out).mono ?_; rintro e w' ⟨⟨q, hq⟩, rfl, ⟨hb, _⟩⟩)
    have hbe := (hb.block w.heap.size (by omega)).trans hBE
    refine leaves_cons (f := 33) (args := #[.pointer (some ⟨w.heap.size, 0, none⟩)]) (by simp) (by simp [go_sem]) ?_
    refine (caught_panicking w.heap.size 0 x w' hbe).mono ?_
    rintro e u' w'' ⟨rfl, rfl, hq2, hb2⟩
    have hx0 : w''.cell? ⟨w.heap.size, 0, none⟩ = some (.int .i64 x) := (blk_cell hq2 0).trans rfl
    have hbb : Below w.heap.size w w'' := hBW.trans ((hb.mono (by omega)).trans hb2)
    simp [Leaves, settle, results, Try.results26, go_sem, hx0]
    exact ⟨Kd.R_nil _ _ _ _ _, hbb⟩
  | ok x =>
    obtain ⟨n, q⟩ := x
    simp only at H
    have hn := decLen_nonneg A1.out
    by_cases cq : 0 ≤ q ∧ q ≤ l0.length ∧ l0.length < 1000000000
    case neg => rw [if_neg cq] at H; exact absurd H (by simp)
    rw [if_pos cq] at H
    obtain ⟨cq0, cq1, cq2⟩ := cq
    have hw : wrap64 ((l0.length : Int) - q) = (l0.length : Int) - q := by unfold wrap64; omega
    have hw4 : wrap64 ((l0.length : Int) - q - 4) = (l0.length : Int) - q - 4 := by unfold wrap64; omega
    by_cases c1 : (l0.length : Int) - q < 4
    · rw [if_pos c1] at H
      have c1b : decide ((l0.length : Int) - q < 4) = true := decide_eq_true c1
      simp only [Option.some.injEq, Prod.mk.injEq] at H
      obtain ⟨rfl, rfl, rfl, rfl⟩ := H
      go_wp2_with (go_at_call 36; rw [← hW]; refine (codec_decoder_length.calls w A0 c0 (w.heap.size + 1) l0 1 (.ok (n, q)) W HC.out Hc.out hBW (by omega) hBD A1.out).mono ?_; rintro e w' ⟨rfl, hq, ⟨hb, _⟩⟩; have hbe := (hb.block w.heap.size (by omega)).trans hBE; have hx0 : w'.cell? ⟨w.heap.size + 1, 0, none⟩ = some (.slice A0 l0.length c0) := (blk_cell hq 0).trans rfl; have hx1 : w'.cell? ⟨w.heap.size + 1, 1, none⟩ = some (.int .i64 q) := (blk_cell hq 1).trans rfl; have hfe : w'.frozen? ⟨w.heap.size, 0, none⟩ = false := blk_frozen hbe 0; have hxe : w'.cell? ⟨w.heap.size, 0, none⟩ = some (.int .i64 0) := (blk_cell hbe 0).trans rfl)
      obtain ⟨W2, hW2⟩ : ∃ W2, W2 = w'.setCell ⟨w.heap.size, 0, none⟩ (.int .i64 28) := ⟨_, rfl⟩
      rw [← hW2]
      have hx2 : W2.cell? ⟨w.heap.size, 0, none⟩ = some (.int .i64 28) := by rw [hW2]; exact (blk_cell (blk_put hbe 0 _ rfl) 0).trans rfl
      have hbb : Below w.heap.size w W2 := by rw [hW2]; exact hBW.trans ((hb.mono (by omega)).trans (Below.setCell (p := ⟨w.heap.size, 0, none⟩) (Below.refl w.heap.size w') (Nat.le_refl _) _))
      clear hW2
      refine leaves_cons (f := 33) (args := #[.pointer (some ⟨w.heap.size, 0, none⟩)]) (by simp) (by simp [go_sem]) ?_
      refine (caught_idle ⟨w.heap.size, 0, none⟩ W2).mono ?_
      rintro e u' w'' ⟨rfl, rfl, rfl⟩
      simp [Leaves, settle, results, Try.results26, go_sem, hx2]
      exact ⟨Kd.R_nil _ _ _ _ _, hbb⟩
    rw [if_neg c1] at H
    have c1b : decide ((l0.length : Int) - q < 4) = false := decide_eq_false c1
    by_cases c2 : (l0.length : Int) - q - 4 < n
    · rw [if_pos c2] at H
      have c2b : decide ((l0.length : Int) - q - 4 < n) = true := decide_eq_true c2
      simp only [Option.some.injEq, Prod.mk.injEq] at H
      obtain ⟨rfl, rfl, rfl, rfl⟩ := H
      go_wp2_with (go_at_call 36; rw [← hW]; refine (codec_decoder_length.calls w A0 c0 (w.heap.size + 1) l0 1 (.ok (n, q)) W HC.out Hc.out hBW (by omega) hBD A1.out).mono ?_; rintro e w' ⟨rfl, hq, ⟨hb, _⟩⟩; have hbe := (hb.block w.heap.size (by omega)).trans hBE; have hx0 : w'.cell? ⟨w.heap.size + 1, 0, none⟩ = some (.slice A0 l0.length c0) := (blk_cell hq 0).trans rfl; have hx1 : w'.cell? ⟨w.heap.size + 1, 1, none⟩ = some (.int .i64 q) := (blk_cell hq 1).trans rfl; have hfe : w'.frozen? ⟨w.heap.size, 0, none⟩ = false := blk_frozen hbe 0; have hxe : w'.cell? ⟨w.heap.size, 0, none⟩ = some (.int .i64 0) := (blk_cell hbe 0).trans rfl)
      obtain ⟨W2, hW2⟩ : ∃ W2, W2 = w'.setCell ⟨w.heap.size, 0, none⟩ (.int .i64 28) := ⟨_, rfl⟩
      rw [← hW2]
      have hx2 : W2.cell? ⟨w.heap.size, 0, none⟩ = some (.int .i64 28) := by rw [hW2]; exact (blk_cell (blk_put hbe 0 _ rfl) 0).trans rfl
      have hbb : Below w.heap.size w W2 := by rw [hW2]; exact hBW.trans ((hb.mono (by omega)).trans (Below.setCell (p := ⟨w.heap.size, 0, none⟩) (Below.refl w.heap.size w') (Nat.le_refl _) _))
      clear hW2
      refine leaves_cons (f := 33) (args := #[.pointer (some ⟨w.heap.size, 0, none⟩)]) (by simp) (by simp [go_sem]) ?_
      refine (caught_idle ⟨w.heap.size, 0, none⟩ W2).mono ?_
      rintro e u' w'' ⟨rfl, rfl, rfl⟩
      simp [Leaves, settle, results, Try.results26, go_sem, hx2]
      exact ⟨Kd.R_nil _ _ _ _ _, hbb⟩
    rw [if_neg c2] at H
    have c2b : decide ((l0.length : Int) - q - 4 < n) = false := decide_eq_false c2
    obtain ⟨s, A2, H⟩ := Option.bind_eq_some_iff.mp H
    have A2 := Aside0.mk A2
    have hwe : wrap64 (q + n) = q + n := by unfold wrap64; omega
    have hwf : wrap64 (q + n + 4) = q + n + 4 := by unfold wrap64; omega
    have hwg : IntKind.i64.wrap (q + n + 4) = q + n + 4 := by rw [i64_w]; exact hwf
    obtain ⟨i09, hi09, _, hsz9, _⟩ := info_parts info5
    have hpre := cut_to (P := Try.prog) 22 5 .i64 Try.underlying22 hi09 A0 l0.length c0 (q + n) (by omega) (by omega) Hc.out
    obtain ⟨A9, hcut9, hA9, hC9⟩ := print_mid_of (P := Try.prog) (Value.int .u8) 0 22 5 .i64 .i64 Try.underlying22 hi09 hsz9 A0 c0 l0 (q + n) (q + n + 4) (by omega) (by omega) (by omega) Hc.out
    go_wp2_with (first | (go_at_call 36; rw [← hW]; refine (codec_decoder_length.calls w A0 c0 (w.heap.size + 1) l0 1 (.ok (n, q)) W HC.out Hc.out hBW (by omega) hBD A1.out).mono ?_; rintro e w' ⟨rfl, hq, ⟨hb, _⟩⟩; have hbe := (hb.block w.heap.size (by omega)).trans hBE; have hx0 : w'.cell? ⟨w.heap.size + 1, 0, none⟩ = some (.slice A0 l0.length c0) := (blk_cell hq 0).trans rfl; have hx1 : w'.cell? ⟨w.heap.size + 1, 1, none⟩ = some (.int .i64 q) := (blk_cell hq 1).trans rfl))
    have hl4 : ((l0.take (q + n + 4).toNat).drop (q + n).toNat).length = 4 := by rw [List.length_drop, List.length_take]; omega
    have hW1 : Below w.heap.size w w' := hBW.trans (hb.mono (by omega))
    have hC1 := Kd.C_below HC.out hW1
    have hCp := Kd.C_take hC1 (m := (q + n).toNat) (by omega)
    have hlp : (l0.take (q + n).toNat).length = (q + n).toNat := by rw [List.length_take]; omega
    have hnp := Hc.out
    obtain ⟨yp, hyp⟩ : ∃ y, y = l0.take (q + n).toNat := ⟨_, rfl⟩
    rw [← hyp] at hlp hCp H
    replace A2 : Aside0 (codec_Sum.f (20 * l0.length + 300) yp = some s) := by rw [hyp]; exact A2
    rw [← hlp] at hpre
    have HCP := Aside0.mk hCp
    have HYP := Aside0.mk hyp
    have HLP := Aside0.mk (show yp.length ≤ c0 by omega)
    obtain ⟨y4, hy4⟩ : ∃ y, y = (l0.take (q + n + 4).toNat).drop (q + n).toNat := ⟨_, rfl⟩
    rw [← hy4] at hl4 H
    have hC4 : (Kd.int .u8).C w' A9 y4.length y4 := by rw [hy4]; exact Kd.C_of_reads (h1 := fun _ => rfl) (hA9 _ (Kd.reads_of_C hC1))
    rw [← hy4, hl4] at hcut9
    rw [hl4] at hC4
    obtain ⟨ad, rfl, hx4⟩ := Kd.at_int hC4 0 (by omega) (by omega)
    obtain ⟨_, e5, hx5⟩ := Kd.at_int hC4 1 (by omega) (by omega)
    obtain rfl := Option.some.inj e5
    obtain ⟨_, e6, hx6⟩ := Kd.at_int hC4 2 (by omega) (by omega)
    obtain rfl := Option.some.inj e6
    obtain ⟨_, e7, hx7⟩ := Kd.at_int hC4 3 (by omega) (by omega)
    obtain rfl := Option.some.inj e7
    clear e5 e6 e7 hA9 hC9 hCp hC1 hy4 hC4 hW1 hlp hyp hnp
    rw [add_0] at hx4
    rw [add_1] at hx5
    rw [add_2] at hx6
    rw [add_3] at hx7
    have harr := arrayAt_4 ad (c0 - (q + n).toNat)
    have heq := fun W => eq4_four (s := s) hl4 W
    have hsz' : w.heap.size + 2 ≤ w'.heap.size := hszW ▸ hb.size
    have HB' := Aside0.mk (hBW.trans (hb.mono (by omega)))
    have BE' := Aside0.mk hbe
    have BG' := Aside0.mk hq
    clear hbe hq hb hx0 hx1
    obtain ⟨A1', hcut1, hA1, hC1'⟩ := print_mid_of (P := Try.prog) (Value.int .u8) 0 22 5 .i64 .i64 Try.underlying22 hi09 hsz9 A0 c0 l0 q (q + n) (by omega) (by omega) (by omega) Hc.out
    obtain ⟨yc, hyc⟩ : ∃ y, y = (l0.take (q + n).toNat).drop q.toNat := ⟨_, rfl⟩
    have hycl : yc.length ≤ l0.length := by rw [hyc, List.length_drop, List.length_take]; omega
    rw [← hyc] at hcut1 hA1
    have HA1 := Aside0.mk hA1
    have HYC := Aside0.mk (show yp.drop q.toNat = yc by rw [HYP.out]; exact hyc.symm)
    have HYL := Aside0.mk (show (0 + yc.length) * 1 ≤ 140737488355328 by omega)
    clear hA1 hC1' hyc hycl
    by_cases c3 : four_ s = y4
    · rw [if_pos c3] at H
      rw [decide_eq_true c3] at heq
      clear c3
      simp only [Option.some.injEq, Prod.mk.injEq] at H
      obtain ⟨rfl, rfl, rfl, rfl⟩ := H
      refine wp_nopanic ?_
      go_region_with (go_at_call 37; refine (codec_sealed.calls (20 * l0.length + 300) A0 c0 yp s _ (Kd.C_drew HCP.out) HLP.out A2.out).mono ?_; rintro e w'' ⟨rfl, hbs⟩; have k4 := pw_cell_below hbs hx4; have k5 := pw_cell_below hbs hx5; have k6 := pw_cell_below hbs hx6; have k7 := pw_cell_below hbs hx7; have n1_ := Aside0.mk ((hbs.block w.heap.size (by show w.heap.size < w'.heap.size; omega)).trans BE'.out); have n2_ := Aside0.mk ((hbs.block (w.heap.size + 1) (by show w.heap.size + 1 < w'.heap.size; omega)).trans BG'.out); have n3_ := Aside0.mk (HB'.out.trans (Below.trans (Below.drew (Below.refl w.heap.size w')) (hbs.mono (by show w.heap.size ≤ w'.heap.size; omega)))); have n4_ := hbs.size; clear hbs)
      all_goals simp only [NoPanic]
      all_goals go_wp2
      all_goals
        have hC2 := Kd.C_below HC.out n3_.out
        obtain ⟨a0, rfl, hzw⟩ := Kd.at_int HC.out 0 (by omega) (by omega)
        rw [add_0] at hzw
        have hz0 := pw_cell_below n3_.out hzw
        have HZW := Aside0.mk hzw
        clear hzw
        have hCR : (Kd.int .u8).C w'' A1' yc.length yc := Kd.C_of_reads (h1 := fun _ => rfl) (HA1.out _ (Kd.reads_of_C hC2))
        have HCR := Aside0.mk hCR
        have hx1 : w''.cell? ⟨w.heap.size + 1, 1, none⟩ = some (.int .i64 q) := (blk_cell n2_.out 1).trans rfl
        have hfe := blk_frozen n1_.out 0
        have hxe : w''.cell? ⟨w.heap.size, 0, none⟩ = some (.int .i64 0) := (blk_cell n1_.out 0).trans rfl
        have hl0 : (0 : Int) < (l0.length : Int) := by omega
        have hl0b : decide ((0 : Int) < (l0.length : Int)) = true := decide_eq_true hl0
        have hlz : 0 < l0.length := by omega
        have hSZ : w.heap.size + 2 ≤ w''.heap.size := Nat.le_trans hsz' (n4_ : w'.heap.size ≤ w''.heap.size)
        clear hC2 hCR
        refine wp_nopanic ?_
        go_region_law (refine Kd.R_append_rows_step (Kd.int .u8) (w0 := w'') (w.heap.size + 2) (by rfl) (.const (.slice none 0 0)) (.tmp 53) 22 5 (.int .u8 0) 1 rfl Try.underlying22 info5 rfl (by decide) (by omega) (.slice none 0 0) ([] : List Int) yc A1' _ _ (fun _ => True) (fun _ => False) rfl rfl (Kd.R_nil _ _ _ _ _) ?aR (fun _ _ h => h) (fun _ h => h.elim) (fun _ _ => trivial) ?aB ?aS ?aL ?_; (case aR => exact Kd.C_drew HCR.out); (case aB => exact Below.drew (Below.refl _ _)); (case aS => exact hSZ); (case aL => exact HYL.out); intro v54 w13 ho hb hg hat; have hz1 := pw_cell_below (n3_.out.trans (hb.mono (Nat.le_add_right _ 2))) HZW.out; have m1_ := Aside0.mk ((hb.block w.heap.size (by omega)).trans n1_.out); have hfe1 := blk_frozen m1_.out 0; have hxe1 : w13.cell? ⟨w.heap.size, 0, none⟩ = some (.int .i64 0) := (blk_cell m1_.out 0).trans rfl; have m2_ := Aside0.mk (n3_.out.trans (hb.mono (Nat.le_add_right _ 2))); have m3_ := Aside0.mk ho; clear ho hb hg hat)
        all_goals simp only [NoPanic]
        all_goals go_wp2
        all_goals
          obtain ⟨W2, hW2⟩ : ∃ W2, W2 = w13.setCell ⟨w.heap.size, 0, none⟩ (.int .i64 0) := ⟨_, rfl⟩
          rw [← hW2]
          have hx9 : W2.cell? ⟨w.heap.size, 0, none⟩ = some (.int .i64 0) := by rw [hW2]; exact (blk_cell (blk_put m1_.out 0 _ rfl) 0).trans rfl
          have hbb : Below w.heap.size w W2 := by rw [hW2]; exact m2_.out.setCell (p := ⟨w.heap.size, 0, none⟩) (Nat.le_refl _) _
          have hRR : Kd.R (Kd.int .u8) 5 W2 w.heap.size (fun _ => True) v54 (yp.drop q.toNat) := by
            rw [hW2, HYC.out]
            refine Kd.R_lower (Kd.R_mono (Kd.R_move (Kd.R_bound m3_.out) (fun k hk => Below.heap_setCell _ _ _ _ ?_)) (fun _ _ => trivial)) (Nat.le_add_right _ 2)
            have := hk.2.1
            show k ≠ w.heap.size
            omega
          clear hW2
          refine leaves_cons (f := 33) (args := #[.pointer (some ⟨w.heap.size, 0, none⟩)]) (by simp) (by simp [go_sem]) ?_
          refine (caught_idle ⟨w.heap.size, 0, none⟩ W2).mono ?_
          rintro e u' w3 ⟨rfl, rfl, rfl⟩
          simp [Leaves, settle, results, Try.results26, go_sem, hx9, i64_w]
          exact ⟨hRR, hbb⟩
    · rw [if_neg c3] at H
      rw [decide_eq_false c3] at heq
      clear c3
      simp only [Option.some.injEq, Prod.mk.injEq] at H
      obtain ⟨rfl, rfl, rfl, rfl⟩ := H
      refine wp_nopanic ?_
      go_region_with (go_at_call 37; refine (codec_sealed.calls (20 * l0.length + 300) A0 c0 yp s _ (Kd.C_drew HCP.out) HLP.out A2.out).mono ?_; rintro e w'' ⟨rfl, hbs⟩; have k4 := pw_cell_below hbs hx4; have k5 := pw_cell_below hbs hx5; have k6 := pw_cell_below hbs hx6; have k7 := pw_cell_below hbs hx7; have n1_ := Aside0.mk ((hbs.block w.heap.size (by show w.heap.size < w'.heap.size; omega)).trans BE'.out); have n2_ := Aside0.mk ((hbs.block (w.heap.size + 1) (by show w.heap.size + 1 < w'.heap.size; omega)).trans BG'.out); have n3_ := Aside0.mk (HB'.out.trans (Below.trans (Below.drew (Below.refl w.heap.size w')) (hbs.mono (by show w.heap.size ≤ w'.heap.size; omega)))); have n4_ := hbs.size; clear hbs)
      all_goals simp only [NoPanic]
      all_goals have hxe := (blk_cell n1_.out 0).trans rfl
      all_goals have hfe := blk_frozen n1_.out 0
      all_goals go_wp2
      all_goals
        obtain ⟨W2, hW2⟩ : ∃ W2, W2 = w''.setCell ⟨w.heap.size, 0, none⟩ (.int .i64 29) := ⟨_, rfl⟩
        rw [← hW2]
        have hx9 : W2.cell? ⟨w.heap.size, 0, none⟩ = some (.int .i64 29) := by rw [hW2]; exact (blk_cell (blk_put n1_.out 0 _ rfl) 0).trans rfl
        have hbb : Below w.heap.size w W2 := by rw [hW2]; exact n3_.out.setCell (p := ⟨w.heap.size, 0, none⟩) (Nat.le_refl _) _
        clear hW2
        refine leaves_cons (f := 33) (args := #[.pointer (some ⟨w.heap.size, 0, none⟩)]) (by simp) (by simp [go_sem]) ?_
        refine (caught_idle ⟨w.heap.size, 0, none⟩ W2).mono ?_
        rintro e u' w3 ⟨rfl, rfl, rfl⟩
        simp [Leaves, settle, results, Try.results26, go_sem, hx9]
        exact ⟨Kd.R_nil _ _ _ _ _, hbb⟩
end Go.Proofs.Ytdgdabgbdephnaa.Q
