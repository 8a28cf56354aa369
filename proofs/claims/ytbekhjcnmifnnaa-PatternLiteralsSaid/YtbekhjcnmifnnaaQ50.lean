import Derived.Test.YtbekhjcnmifnnaaQ0
import Derived.Test.YtbekhjcnmifnnaaQ41
set_option linter.unusedVariables false
set_option linter.unusedSimpArgs false
namespace Go.Proofs.Ytbekhjcnmifnnaa.Q
open Go.RowKit Go.Proofs.YtbekhjcnmifnnaaW.PrintWords Go.Proofs.YtbekhjcnmifnnaaW.PrintLast Go.Proofs.YtbekhjcnmifnnaaW.PrintMore
attribute [local go_sem] max2_int min2_int max_two min_two max_three min_three max_four min_four
def jobshellref04_Literal.l0 : Nat → List (S35) → ByteArray → Int → Option (ByteArray × Bool)
 | 0, _, _, _ => none
 | k + 1, x0, x4, x5 => if x5 < (x0.length : Int) then (if 0 ≤ x5 then (if ((rd_T35 x0 x5).f0) = 1 then (if x4.size + ((rd_T35 x0 x5).f1).size ≤ 9223372036854775807 then (jobshellref04_Literal.l0 k x0 (x4 ++ ((rd_T35 x0 x5).f1)) (wrap64 (x5 + 1))) else (none)) else (some ((⟨#[]⟩ : ByteArray), false))) else (none)) else ((jobshellref04_Valid.f k x0).bind fun t584 => (if t584 = true then (some (x4, true)) else (some ((⟨#[]⟩ : ByteArray), false))))
def jobshellref04_Literal.f (k : Nat) (l0 : List (S35)) : Option (ByteArray × Bool) := jobshellref04_Literal.l0 k l0 (⟨#[]⟩ : ByteArray) 0
theorem jobshellref04_Literal.mono_l : ∀ k, (∀ y0 y1 y2, LeO (jobshellref04_Literal.l0 k y0 y1 y2) (jobshellref04_Literal.l0 (k + 1) y0 y1 y2))
 | 0 => fun _ _ _ r h => by simp [jobshellref04_Literal.l0] at h
 | k + 1 => by
  have ih0 := jobshellref04_Literal.mono_l k
  ·
   intro y0 y1 y2
   unfold jobshellref04_Literal.l0
   repeat' first
   | (with_reducible exact ih0 _ _ _)
   | (with_reducible exact jobshellref04_Valid.mono _ _)
   | (with_reducible exact LeO.refl _)
   | (with_reducible exact LeO.none _)
   | (with_reducible refine LeO.ite ?_ ?_)
   | (with_reducible refine LeO.bind ?_ (fun _ => ?_))
theorem jobshellref04_Literal.mono : ∀ a0 k, LeO (jobshellref04_Literal.f k a0) (jobshellref04_Literal.f (k + 1) a0) := by
 intro a0 k
 have ih0 := jobshellref04_Literal.mono_l k
 unfold jobshellref04_Literal.f
 repeat' first
  | (with_reducible exact ih0 _ _ _)
  | (with_reducible exact jobshellref04_Valid.mono _ _)
  | (with_reducible exact LeO.refl _)
  | (with_reducible exact LeO.none _)
  | (with_reducible refine LeO.ite ?_ ?_)
  | (with_reducible refine LeO.bind ?_ (fun _ => ?_))
set_option maxHeartbeats 8000000 in
set_option maxRecDepth 100000 in
theorem jobshellref04_Literal.calls (k : Nat) (A0 : Option Addr) (c0 : Nat) (l0 : List (S35)) (r1 : ByteArray) (r2 : Bool) (w : World) (hr0 : Kd.C k35 w A0 l0.length l0) (hc0 : l0.length ≤ c0) (h : jobshellref04_Literal.f k l0 = some (r1, r2)) :
 Calls Try.prog 28 #[.slice A0 l0.length c0] w fun e w' => e = .returned (.tuple #[.string r1, .bool r2]) ∧ Below w.heap.size w w' := by
 have HR0 := m_ hr0
 have HC0 := m_ hc0
 clear hr0 hc0
 have HB := m_ (Below.refl w.heap.size w)
 have H : (jobshellref04_Literal.l0 k l0 (⟨#[]⟩ : ByteArray) 0) = some (r1, r2) := h
 clear h
 have H' := m_ H
 clear H
 go_enter Try.func28, Try.ntmps28
 go_wp2
 go_loopg [4, 5] k (fun kq v4 v5 w' => ∃ (x4_1 : ByteArray) (x5_1 : Int), v4 = .string x4_1 ∧ v5 = .int .i64 x5_1 ∧ Aside0 (jobshellref04_Literal.l0 kq l0 x4_1 x5_1 = some (r1, r2)) ∧ Aside0 (kq ≤ k) ∧ Aside0 (Below w.heap.size w w'))
 case atStart => exact ⟨((⟨#[]⟩ : ByteArray)), (0), (by first | rfl | (simp; done) | (simp [*]; done)), (by first | rfl | (simp; done) | (simp [*]; done)), H', ⟨Nat.le_refl _⟩, ⟨by repeat (with_reducible first | exact HB.out | apply l1_ | apply l2_ | apply l3_)⟩⟩
 case round =>
  clear H'
  obtain ⟨x4_1, x5_1, rfl, rfl, HA, HK1, HB⟩ := hrel
  cases gk with
  | zero => exact absurd HA.out (by simp [jobshellref04_Literal.l0])
  | succ k1 =>
   have H := HA.out
   clear HA
   simp only [jobshellref04_Literal.l0] at H
   by_cases c2 : x5_1 < (l0.length : Int)
   ·
    rw [if_pos c2] at H
    have c2b0 : decide (x5_1 < (l0.length : Int)) = true := decide_eq_true c2
    clear c2
    by_cases c3 : 0 ≤ x5_1
    ·
     rw [if_pos c3] at H
     have c3b0 : decide (0 ≤ x5_1) = true := decide_eq_true c3
     clear c3
     by_cases c4 : ((rd_T35 l0 x5_1).f0) = 1
     ·
      rw [if_pos c4] at H
      have c4b0 : (((rd_T35 l0 x5_1).f0) == 1) = true := beq_iff_eq.mpr c4
      have c4b1 : (((rd_T35 l0 x5_1).f0) != 1) = false := bne_eq_false_iff_eq.mpr c4
      clear c4
      by_cases c5 : x4_1.size + ((rd_T35 l0 x5_1).f1).size ≤ 9223372036854775807
      ·
       rw [if_pos c5] at H
       have c5b0 := eq_true c5
       have c5b1 : decide (x4_1.size + ((rd_T35 l0 x5_1).f1).size ≤ 9223372036854775807) = true := decide_eq_true c5
       try have c5b2 : (9223372036854775807 < x4_1.size + ((rd_T35 l0 x5_1).f1).size) = False := eq_false (Nat.not_lt.2 c5)
       have H' := m_ H
       clear H
       have p582 : 0 ≤ (x5_1 : Int) := o1_ (by with_reducible assumption)
       have q582 : x5_1 < (l0.length : Int) := o1_ (by with_reducible assumption)
       obtain ⟨ad582, A582_3, c582_3, e582, hx582_0, hx582_1, hx582_2, hx582_3, hl582_3, hi582_3⟩ := at_T35 HR0.out x5_1 p582 q582
       cases e582
       replace hx582_0 := (HB.out.cell (c1_ w _ hx582_0)).trans hx582_0
       replace hx582_1 := (HB.out.cell (c1_ w _ hx582_1)).trans hx582_1
       replace hx582_2 := (HB.out.cell (c1_ w _ hx582_2)).trans hx582_2
       replace hx582_3 := (HB.out.cell (c1_ w _ hx582_3)).trans hx582_3
       have HR582_3 := m_ hi582_3
       have HC582_3 := m_ hl582_3
       clear hi582_3 hl582_3
       replace p582 := eq_true p582
       replace q582 := eq_true q582
       have p583 : 0 ≤ (x5_1 : Int) := o1_ (by with_reducible assumption)
       have q583 : x5_1 < (l0.length : Int) := o1_ (by with_reducible assumption)
       obtain ⟨ad583, A583_3, c583_3, e583, hx583_0, hx583_1, hx583_2, hx583_3, hl583_3, hi583_3⟩ := at_T35 HR0.out x5_1 p583 q583
       obtain rfl : ad582 = ad583 := (by injection e583)
       replace hx583_0 := (HB.out.cell (c1_ w _ hx583_0)).trans hx583_0
       replace hx583_1 := (HB.out.cell (c1_ w _ hx583_1)).trans hx583_1
       replace hx583_2 := (HB.out.cell (c1_ w _ hx583_2)).trans hx583_2
       replace hx583_3 := (HB.out.cell (c1_ w _ hx583_3)).trans hx583_3
       have HR583_3 := m_ hi583_3
       have HC583_3 := m_ hl583_3
       clear hi583_3 hl583_3
       replace p583 := eq_true p583
       replace q583 := eq_true q583
       have ea_ := Option.some.inj (hx582_3.symm.trans hx583_3)
       injection ea_ with ea_ en_ ec_
       subst ea_
       subst ec_
       clear en_
       go_wp2
       go_roundg k1
       case measure => have := HK1.out; omega
       case rel => exact ⟨(x4_1 ++ ((rd_T35 l0 x5_1).f1)), (wrap64 (x5_1 + 1)), (by first | rfl | (simp; done) | (simp [*]; done)), (by first | rfl | (simp; done) | (simp [*]; done)), H', ⟨by have := HK1.out; omega⟩, ⟨by repeat (with_reducible first | exact HB.out | apply l1_ | apply l2_ | apply l3_)⟩⟩
      rw [if_neg c5] at H
      exact absurd H (by simp)
     rw [if_neg c4] at H
     have c4b0 : (((rd_T35 l0 x5_1).f0) == 1) = false := beq_eq_false_iff_ne.mpr c4
     have c4b1 : (((rd_T35 l0 x5_1).f0) != 1) = true := bne_iff_ne.mpr c4
     simp only [Option.some.injEq, Prod.mk.injEq] at H
     obtain ⟨rfl, rfl⟩ := H
     have p582 : 0 ≤ (x5_1 : Int) := o1_ (by with_reducible assumption)
     have q582 : x5_1 < (l0.length : Int) := o1_ (by with_reducible assumption)
     obtain ⟨ad582, A582_3, c582_3, e582, hx582_0, hx582_1, hx582_2, hx582_3, hl582_3, hi582_3⟩ := at_T35 HR0.out x5_1 p582 q582
     cases e582
     replace hx582_0 := (HB.out.cell (c1_ w _ hx582_0)).trans hx582_0
     replace hx582_1 := (HB.out.cell (c1_ w _ hx582_1)).trans hx582_1
     replace hx582_2 := (HB.out.cell (c1_ w _ hx582_2)).trans hx582_2
     replace hx582_3 := (HB.out.cell (c1_ w _ hx582_3)).trans hx582_3
     have HR582_3 := m_ hi582_3
     have HC582_3 := m_ hl582_3
     clear hi582_3 hl582_3
     replace p582 := eq_true p582
     replace q582 := eq_true q582
     go_wp2
     go_ret2
     exact ⟨by first | rfl | (simp [errW_none, errW_some] <;> rfl) | (simp [*, errW_none, errW_some] <;> rfl), by repeat (with_reducible first | exact HB.out | apply l1_ | apply l2_ | apply l3_)⟩
    rw [if_neg c3] at H
    exact absurd H (by simp)
   rw [if_neg c2] at H
   have c2b0 : decide (x5_1 < (l0.length : Int)) = false := decide_eq_false c2
   clear c2
   replace H := Option.bind_eq_some_iff.mp H
   obtain ⟨t584, A60, H⟩ := H
   try dsimp -simprocs only at H
   have A6 := m_ A60
   clear A60
   by_cases c7 : t584 = true
   ·
    subst c7
    rw [if_pos rfl] at H
    simp only [Option.some.injEq, Prod.mk.injEq] at H
    obtain ⟨rfl, rfl⟩ := H
    go_wp2_with (first | ((with_reducible refine gate_callee (f := 22) rfl ?_); refine goesL_ (some 26) rfl rfl Try.func22 (by kernel_rfl) rfl #[.slice A0 l0.length c0] rfl (by (try simp only [List.map_toArray, List.map_cons, List.map_nil]); first | done | rfl | (simp only [List.length_drop, List.length_take]; rfl)) ?_; (with_reducible refine (jobshellref04_Valid.calls k1 _ _ l0 true _ ?side1 ?side2 A6.out).mono ?_); (case side1 => repeat (first | exact (Kd.C_below HR0.out HB.out) | (with_reducible refine Kd.C_alloc ?_ _) | (with_reducible refine Kd.C_drewN ?_ _) | (with_reducible refine Kd.C_drew ?_))); (case side2 => exact HC0.out); rintro e w8 ⟨rfl, hb⟩; refine ⟨_, rfl, ?_⟩; replace HB := m_ (l5_ (by repeat (with_reducible first | exact HB.out | apply l1_ | apply l2_ | apply l3_)) hb); (try clear hb)))
    go_ret2
    exact ⟨by first | rfl | (simp [errW_none, errW_some] <;> rfl) | (simp [*, errW_none, errW_some] <;> rfl), by repeat (with_reducible first | exact HB.out | apply l1_ | apply l2_ | apply l3_)⟩
   ·
    replace c7 := Bool.eq_false_iff.mpr c7
    subst c7
    rw [if_neg (show ¬ (false = true) by decide)] at H
    simp only [Option.some.injEq, Prod.mk.injEq] at H
    obtain ⟨rfl, rfl⟩ := H
    go_wp2_with (first | ((with_reducible refine gate_callee (f := 22) rfl ?_); refine goesL_ (some 26) rfl rfl Try.func22 (by kernel_rfl) rfl #[.slice A0 l0.length c0] rfl (by (try simp only [List.map_toArray, List.map_cons, List.map_nil]); first | done | rfl | (simp only [List.length_drop, List.length_take]; rfl)) ?_; (with_reducible refine (jobshellref04_Valid.calls k1 _ _ l0 false _ ?side1 ?side2 A6.out).mono ?_); (case side1 => repeat (first | exact (Kd.C_below HR0.out HB.out) | (with_reducible refine Kd.C_alloc ?_ _) | (with_reducible refine Kd.C_drewN ?_ _) | (with_reducible refine Kd.C_drew ?_))); (case side2 => exact HC0.out); rintro e w9 ⟨rfl, hb⟩; refine ⟨_, rfl, ?_⟩; replace HB := m_ (l5_ (by repeat (with_reducible first | exact HB.out | apply l1_ | apply l2_ | apply l3_)) hb); (try clear hb)))
    go_ret2
    exact ⟨by first | rfl | (simp [errW_none, errW_some] <;> rfl) | (simp [*, errW_none, errW_some] <;> rfl), by repeat (with_reducible first | exact HB.out | apply l1_ | apply l2_ | apply l3_)⟩
end Go.Proofs.Ytbekhjcnmifnnaa.Q
