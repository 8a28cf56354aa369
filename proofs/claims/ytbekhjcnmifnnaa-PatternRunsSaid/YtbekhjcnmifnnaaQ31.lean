import Derived.Test.YtbekhjcnmifnnaaQ0
set_option linter.unusedVariables false
set_option linter.unusedSimpArgs false
namespace Go.Proofs.Ytbekhjcnmifnnaa.Q
open Go.RowKit Go.Proofs.YtbekhjcnmifnnaaW.PrintWords Go.Proofs.YtbekhjcnmifnnaaW.PrintLast Go.Proofs.YtbekhjcnmifnnaaW.PrintMore
def jobshellref04_is.f (l0 : List (S65)) (a1 : Int) (a2 : Int) : Option (Bool) := if a1 < (l0.length : Int) then (if 0 ≤ a1 then (if (rd_T65 l0 a1).f1 = true then (some (((rd_T65 l0 a1).f0) == a2)) else (some false)) else (none)) else (some false)
set_option maxHeartbeats 8000000 in
set_option maxRecDepth 100000 in
theorem jobshellref04_is.calls (A0 : Option Addr) (c0 : Nat) (l0 : List (S65)) (a1 : Int) (a2 : Int) (r : Bool) (w : World) (hr0 : Kd.C k65 w A0 l0.length l0) (hc0 : l0.length ≤ c0) (h : jobshellref04_is.f l0 a1 a2 = some r) :
 Calls Try.prog 39 #[.slice A0 l0.length c0, .int .i64 a1, .int .u8 a2] w fun e w' => e = .returned (.bool r) ∧ Drawn0 w w' := by
 have HR0 := m_ hr0
 have HC0 := m_ hc0
 clear hr0 hc0
 have H : (if a1 < (l0.length : Int) then (if 0 ≤ a1 then (if (rd_T65 l0 a1).f1 = true then (some (((rd_T65 l0 a1).f0) == a2)) else (some false)) else (none)) else (some false)) = some r := h
 clear h
 by_cases c4 : a1 < (l0.length : Int)
 ·
  rw [if_pos c4] at H
  have c4b0 : decide (a1 < (l0.length : Int)) = true := decide_eq_true c4
  clear c4
  by_cases c5 : 0 ≤ a1
  ·
   rw [if_pos c5] at H
   have c5b0 : decide (0 ≤ a1) = true := decide_eq_true c5
   clear c5
   obtain ⟨bq6, hbq6⟩ : ∃ b_ : Bool, b_ = ((rd_T65 l0 a1).f1) := ⟨_, rfl⟩
   replace H : (if bq6 = true then (some (((rd_T65 l0 a1).f0) == a2)) else (some false)) = some r := by rw [← hbq6] at H; exact H
   have Nbq6 := m_ hbq6
   clear hbq6
   by_cases c7 : bq6 = true
   ·
    subst c7
    rw [if_pos rfl] at H
    obtain rfl := Option.some.inj H
    have p374 : 0 ≤ (a1 : Int) := o1_ (by with_reducible assumption)
    have q374 : a1 < (l0.length : Int) := o1_ (by with_reducible assumption)
    obtain ⟨ad374, e374, hx374_0, hx374_1⟩ := at_T65 HR0.out a1 p374 q374
    (try rw [← Nbq6.out] at hx374_1)
    cases e374
    replace p374 := eq_true p374
    replace q374 := eq_true q374
    have p375 : 0 ≤ (a1 : Int) := o1_ (by with_reducible assumption)
    have q375 : a1 < (l0.length : Int) := o1_ (by with_reducible assumption)
    obtain ⟨ad375, e375, hx375_0, hx375_1⟩ := at_T65 HR0.out a1 p375 q375
    (try rw [← Nbq6.out] at hx375_1)
    obtain rfl : ad374 = ad375 := (by injection e375)
    replace p375 := eq_true p375
    replace q375 := eq_true q375
    go_enter Try.func39, Try.ntmps39
    go_wp2
    go_ret
    exact ⟨by first | rfl | (simp; done) | (simp [*]; done), by repeat (first | exact Drawn0.refl _ | apply Drawn0.step)⟩
   ·
    replace c7 := Bool.eq_false_iff.mpr c7
    subst c7
    rw [if_neg (show ¬ (false = true) by decide)] at H
    obtain rfl := Option.some.inj H
    have p374 : 0 ≤ (a1 : Int) := o1_ (by with_reducible assumption)
    have q374 : a1 < (l0.length : Int) := o1_ (by with_reducible assumption)
    obtain ⟨ad374, e374, hx374_0, hx374_1⟩ := at_T65 HR0.out a1 p374 q374
    (try rw [← Nbq6.out] at hx374_1)
    cases e374
    replace p374 := eq_true p374
    replace q374 := eq_true q374
    go_enter Try.func39, Try.ntmps39
    go_wp2
    go_ret
    exact ⟨by first | rfl | (simp; done) | (simp [*]; done), by repeat (first | exact Drawn0.refl _ | apply Drawn0.step)⟩
  rw [if_neg c5] at H
  exact absurd H (by simp)
 rw [if_neg c4] at H
 have c4b0 : decide (a1 < (l0.length : Int)) = false := decide_eq_false c4
 clear c4
 obtain rfl := Option.some.inj H
 go_enter Try.func39, Try.ntmps39
 go_wp2
 go_ret
 exact ⟨by first | rfl | (simp; done) | (simp [*]; done), by repeat (first | exact Drawn0.refl _ | apply Drawn0.step)⟩
end Go.Proofs.Ytbekhjcnmifnnaa.Q
