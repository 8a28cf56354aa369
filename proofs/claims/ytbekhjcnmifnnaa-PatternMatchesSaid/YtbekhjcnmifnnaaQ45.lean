-- Written by a program of this session's (wip/fork/fprint.py over the kit's print.py). Not trusted: Lean checks it.
import Derived.Test.YtbekhjcnmifnnaaQ0
import Derived.Test.YtbekhjcnmifnnaaQ41
import Derived.Test.YtbekhjcnmifnnaaQ44
namespace Go.Proofs.Ytbekhjcnmifnnaa.Q
open Go.RowKit Go.Proofs.YtbekhjcnmifnnaaW.PrintWords Go.Proofs.YtbekhjcnmifnnaaW.PrintLast Go.Proofs.YtbekhjcnmifnnaaW.PrintMore
attribute [local go_sem] max2_int min2_int max_two min_two max_three min_three max_four min_four   -- for this text's walks alone
set_option linter.unusedVariables false
set_option linter.unusedSimpArgs false

/-! ### jobshellref04_Match: function 23 -/
def jobshellref04_Match.f (k : Nat) (l0 : List (S35)) (a1 : ByteArray) : Option (Bool) := (jobshellref04_Valid.f k l0).bind fun t554 => (if t554 = true then ((jobshellref04_ends.f k l0 a1).bind fun t555 => (if 0 ≤ (a1.size : Int) then (if (a1.size : Int) < (t555.length : Int) then (some (rdOf false t555 (a1.size : Int))) else (none)) else (none))) else (some false))
theorem jobshellref04_Match.mono : ∀ a0 a1 k, LeO (jobshellref04_Match.f k a0 a1) (jobshellref04_Match.f (k + 1) a0 a1) := by
 intro a0 a1 k
 unfold jobshellref04_Match.f
 repeat' first
  | (with_reducible exact jobshellref04_Valid.mono _ _)
  | (with_reducible exact jobshellref04_ends.mono _ _ _)
  | (with_reducible exact LeO.refl _)
  | (with_reducible exact LeO.none _)
  | (with_reducible refine LeO.ite ?_ ?_)
  | (with_reducible refine LeO.bind ?_ (fun _ => ?_))
  | exact jobshellref04_Valid.mono _ _
  | exact jobshellref04_ends.mono _ _ _
  | exact LeO.none _
  | refine LeO.ite ?_ ?_
  | refine LeO.bind ?_ (fun _ => ?_)
set_option maxHeartbeats 8000000 in
set_option maxRecDepth 100000 in
theorem jobshellref04_Match.calls (k : Nat) (A0 : Option Addr) (c0 : Nat) (l0 : List (S35)) (a1 : ByteArray) (r : Bool) (w : World) (hr0 : Kd.C k35 w A0 l0.length l0) (hc0 : l0.length ≤ c0) (h : jobshellref04_Match.f k l0 a1 = some r) :
 Calls Try.prog 23 #[.slice A0 l0.length c0, .string a1] w fun e w' => e = .returned (.bool r) ∧ Below w.heap.size w w' := by
 have HR0 := Aside0.mk hr0
 have HC0 := Aside0.mk hc0
 clear hr0 hc0
 have HB := Aside0.mk (Below.refl w.heap.size w)
 have H : ((jobshellref04_Valid.f k l0).bind fun t554 => (if t554 = true then ((jobshellref04_ends.f k l0 a1).bind fun t555 => (if 0 ≤ (a1.size : Int) then (if (a1.size : Int) < (t555.length : Int) then (some (rdOf false t555 (a1.size : Int))) else (none)) else (none))) else (some false))) = some r := h
 clear h
 replace H := Option.bind_eq_some_iff.mp H
 obtain ⟨t554, A30, H⟩ := H
 try dsimp -simprocs only at H
 have A3 := Aside0.mk A30
 clear A30
 by_cases c4 : t554 = true
 ·
  subst c4
  rw [if_pos rfl] at H
  replace H := Option.bind_eq_some_iff.mp H
  obtain ⟨t555, A50, H⟩ := H
  try dsimp -simprocs only at H
  have A5 := Aside0.mk A50
  clear A50
  by_cases c6 : 0 ≤ (a1.size : Int)
  ·
   rw [if_pos c6] at H
   have c6b0 : decide (0 ≤ (a1.size : Int)) = true := decide_eq_true c6
   have c6b1 : decide (0 ≤ a1.size) = true := decide_eq_true (by omega)
   clear c6
   by_cases c7 : (a1.size : Int) < (t555.length : Int)
   ·
    rw [if_pos c7] at H
    have c7b0 : decide ((a1.size : Int) < (t555.length : Int)) = true := decide_eq_true c7
    have c7b1 : decide (a1.size < t555.length) = true := decide_eq_true (Int.ofNat_lt.mp c7)
    clear c7
    obtain rfl := Option.some.inj H
    go_enter Try.func23, Try.ntmps23
    go_wp2_with (first | ((with_reducible refine gate_callee (f := 22) rfl ?_); refine goesL_ (some 6) rfl rfl Try.func22 (by kernel_rfl) rfl #[.slice A0 l0.length c0] rfl (by (try simp only [List.map_toArray, List.map_cons, List.map_nil]); first | done | rfl | (simp only [List.length_drop, List.length_take]; rfl)) ?_; (with_reducible refine (jobshellref04_Valid.calls k _ _ l0 true _ ?side1 ?side2 A3.out).mono ?_); (case side1 => repeat (first | exact HR0.out | (with_reducible refine Kd.C_alloc ?_ _) | (with_reducible refine Kd.C_drewN ?_ _) | (with_reducible refine Kd.C_drew ?_))); (case side2 => exact HC0.out); rintro e w8 ⟨rfl, hb⟩; refine ⟨_, rfl, ?_⟩; have n0_ := Aside0.mk (below_step (by repeat (first | (with_reducible first | exact HB.out | apply below_alloc | apply pw_below_drewN | apply below_drew1) | exact HB.out)) hb); clear HB; have HB := n0_; clear n0_; (try clear hb); (try clear hb2); (try clear hk); (try clear hi)) | (go_at_call 43; (with_reducible refine (jobshellref04_ends.calls k _ _ l0 a1 t555 _ ?side1 ?side2 A5.out).mono ?_); (case side1 => repeat (first | exact (Kd.C_below HR0.out HB.out) | (with_reducible refine Kd.C_alloc ?_ _) | (with_reducible refine Kd.C_drewN ?_ _) | (with_reducible refine Kd.C_drew ?_))); (case side2 => exact HC0.out); rintro e w9 ⟨v556, rfl, ho0, hb⟩; have n0_ := Aside0.mk (Kd.R_lower ho0 (below_size (by repeat (first | (with_reducible first | exact HB.out | apply below_alloc | apply pw_below_drewN | apply below_drew1) | exact HB.out)))); have n1_ := Aside0.mk (below_step (by repeat (first | (with_reducible first | exact HB.out | apply below_alloc | apply pw_below_drewN | apply below_drew1) | exact HB.out)) hb); clear HB; have HO557 := n0_; have HB := n1_; clear n0_ n1_; (try clear hb); (try clear hb2); (try clear hk); (try clear hi); (try clear ho0); obtain ⟨Ao10, co10, eo10⟩ := Kd.R_slice HO557.out; subst eo10; have p558 : 0 ≤ ((a1.size : Int) : Int) := of_decide_eq_true (by first | (with_reducible assumption) | assumption); have q558 : (a1.size : Int) < (t555.length : Int) := of_decide_eq_true (by first | (with_reducible assumption) | assumption); obtain ⟨ad558, e558, hx558_0⟩ := Kd.at_bool (Kd.R_reads' HO557.out).2.2 (a1.size : Int) p558 q558; cases e558; have hx9_ := hx558_0; simp only [Int.toNat_natCast] at hx9_; replace p558 := eq_true p558; replace q558 := eq_true q558))
    go_ret
    exact ⟨by first | rfl | (simp [errW_none, errW_some] <;> rfl) | (simp [*, errW_none, errW_some] <;> rfl), by repeat (first | (with_reducible first | exact HB.out | apply below_alloc | apply pw_below_drewN | apply below_drew1) | exact HB.out)⟩
   rw [if_neg c7] at H
   exact absurd H (by simp)
  rw [if_neg c6] at H
  exact absurd H (by simp)
 ·
  replace c4 := Bool.eq_false_iff.mpr c4
  subst c4
  rw [if_neg (show ¬ (false = true) by decide)] at H
  obtain rfl := Option.some.inj H
  go_enter Try.func23, Try.ntmps23
  go_wp2_with (first | ((with_reducible refine gate_callee (f := 22) rfl ?_); refine goesL_ (some 6) rfl rfl Try.func22 (by kernel_rfl) rfl #[.slice A0 l0.length c0] rfl (by (try simp only [List.map_toArray, List.map_cons, List.map_nil]); first | done | rfl | (simp only [List.length_drop, List.length_take]; rfl)) ?_; (with_reducible refine (jobshellref04_Valid.calls k _ _ l0 false _ ?side1 ?side2 A3.out).mono ?_); (case side1 => repeat (first | exact HR0.out | (with_reducible refine Kd.C_alloc ?_ _) | (with_reducible refine Kd.C_drewN ?_ _) | (with_reducible refine Kd.C_drew ?_))); (case side2 => exact HC0.out); rintro e w11 ⟨rfl, hb⟩; refine ⟨_, rfl, ?_⟩; have n0_ := Aside0.mk (below_step (by repeat (first | (with_reducible first | exact HB.out | apply below_alloc | apply pw_below_drewN | apply below_drew1) | exact HB.out)) hb); clear HB; have HB := n0_; clear n0_; (try clear hb); (try clear hb2); (try clear hk); (try clear hi)))
  go_ret
  exact ⟨by first | rfl | (simp [errW_none, errW_some] <;> rfl) | (simp [*, errW_none, errW_some] <;> rfl), by repeat (first | (with_reducible first | exact HB.out | apply below_alloc | apply pw_below_drewN | apply below_drew1) | exact HB.out)⟩

end Go.Proofs.Ytbekhjcnmifnnaa.Q
