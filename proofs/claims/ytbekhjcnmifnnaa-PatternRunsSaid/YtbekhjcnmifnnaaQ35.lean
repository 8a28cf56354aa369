import Derived.Test.YtbekhjcnmifnnaaQ0
set_option linter.unusedVariables false
set_option linter.unusedSimpArgs false
namespace Go.Proofs.Ytbekhjcnmifnnaa.Q
open Go.RowKit Go.Proofs.YtbekhjcnmifnnaaW.PrintWords Go.Proofs.YtbekhjcnmifnnaaW.PrintLast Go.Proofs.YtbekhjcnmifnnaaW.PrintMore
def jobshellref04_in.l0 : Nat → List (S58) → Int → Int → Option (Bool)
 | 0, _, _, _ => none
 | k + 1, x0, x1, x5 => if x5 < (x0.length : Int) then (if 0 ≤ x5 then (if ((rd_T58 x0 x5).f0) ≤ x1 then (if x1 ≤ ((rd_T58 x0 x5).f1) then (some true) else (jobshellref04_in.l0 k x0 x1 (wrap64 (x5 + 1)))) else (jobshellref04_in.l0 k x0 x1 (wrap64 (x5 + 1)))) else (none)) else (some false)
def jobshellref04_in.f (k : Nat) (l0 : List (S58)) (a1 : Int) : Option (Bool) := jobshellref04_in.l0 k l0 a1 0
set_option maxHeartbeats 8000000 in
set_option maxRecDepth 100000 in
theorem jobshellref04_in.calls (k : Nat) (A0 : Option Addr) (c0 : Nat) (l0 : List (S58)) (a1 : Int) (r : Bool) (w : World) (hr0 : Kd.C k58 w A0 l0.length l0) (hc0 : l0.length ≤ c0) (h : jobshellref04_in.f k l0 a1 = some r) :
 Calls Try.prog 55 #[.slice A0 l0.length c0, .int .u8 a1] w fun e w' => e = .returned (.bool r) ∧ Drawn0 w w' := by
 have HR0 := m_ hr0
 have HC0 := m_ hc0
 clear hr0 hc0
 have H : (jobshellref04_in.l0 k l0 a1 0) = some r := h
 clear h
 have H' := m_ H
 clear H
 go_enter Try.func55, Try.ntmps55
 go_wp2
 go_loopg [5] k (fun kq v5 w' => ∃ (x5_1 : Int), v5 = .int .i64 x5_1 ∧ Aside0 (jobshellref04_in.l0 kq l0 a1 x5_1 = some r) ∧ Aside0 (kq ≤ k) ∧ Drawn0 w w')
 case atStart => exact ⟨(0), (by first | rfl | (simp; done) | (simp [*]; done)), H', ⟨Nat.le_refl _⟩, by repeat (first | exact Drawn0.refl _ | apply Drawn0.step)⟩
 case round =>
  clear H'
  (try clear p2)
  obtain ⟨x5_1, rfl, HA, HK1, ⟨m1, rfl⟩⟩ := hrel
  cases gk with
  | zero => exact absurd HA.out (by simp [jobshellref04_in.l0])
  | succ k1 =>
   have H := HA.out
   clear HA
   simp only [jobshellref04_in.l0] at H
   by_cases c3 : x5_1 < (l0.length : Int)
   ·
    rw [if_pos c3] at H
    have c3b0 : decide (x5_1 < (l0.length : Int)) = true := decide_eq_true c3
    clear c3
    by_cases c4 : 0 ≤ x5_1
    ·
     rw [if_pos c4] at H
     have c4b0 : decide (0 ≤ x5_1) = true := decide_eq_true c4
     clear c4
     by_cases c5 : ((rd_T58 l0 x5_1).f0) ≤ a1
     ·
      rw [if_pos c5] at H
      have c5b0 : decide (((rd_T58 l0 x5_1).f0) ≤ a1) = true := decide_eq_true c5
      clear c5
      by_cases c6 : a1 ≤ ((rd_T58 l0 x5_1).f1)
      ·
       rw [if_pos c6] at H
       have c6b0 : decide (a1 ≤ ((rd_T58 l0 x5_1).f1)) = true := decide_eq_true c6
       clear c6
       obtain rfl := Option.some.inj H
       have p423 : 0 ≤ (x5_1 : Int) := o1_ (by with_reducible assumption)
       have q423 : x5_1 < (l0.length : Int) := o1_ (by with_reducible assumption)
       obtain ⟨ad423, e423, hx423_0, hx423_1⟩ := at_T58 HR0.out x5_1 p423 q423
       cases e423
       replace p423 := eq_true p423
       replace q423 := eq_true q423
       have p424 : 0 ≤ (x5_1 : Int) := o1_ (by with_reducible assumption)
       have q424 : x5_1 < (l0.length : Int) := o1_ (by with_reducible assumption)
       obtain ⟨ad424, e424, hx424_0, hx424_1⟩ := at_T58 HR0.out x5_1 p424 q424
       obtain rfl : ad423 = ad424 := (by injection e424)
       replace p424 := eq_true p424
       replace q424 := eq_true q424
       go_wp2
       go_ret
       exact ⟨by first | rfl | (simp; done) | (simp [*]; done), by repeat (first | exact Drawn0.refl _ | apply Drawn0.step)⟩
      rw [if_neg c6] at H
      have c6b0 : decide (a1 ≤ ((rd_T58 l0 x5_1).f1)) = false := decide_eq_false c6
      clear c6
      have H' := m_ H
      clear H
      have p423 : 0 ≤ (x5_1 : Int) := o1_ (by with_reducible assumption)
      have q423 : x5_1 < (l0.length : Int) := o1_ (by with_reducible assumption)
      obtain ⟨ad423, e423, hx423_0, hx423_1⟩ := at_T58 HR0.out x5_1 p423 q423
      cases e423
      replace p423 := eq_true p423
      replace q423 := eq_true q423
      have p424 : 0 ≤ (x5_1 : Int) := o1_ (by with_reducible assumption)
      have q424 : x5_1 < (l0.length : Int) := o1_ (by with_reducible assumption)
      obtain ⟨ad424, e424, hx424_0, hx424_1⟩ := at_T58 HR0.out x5_1 p424 q424
      obtain rfl : ad423 = ad424 := (by injection e424)
      replace p424 := eq_true p424
      replace q424 := eq_true q424
      go_wp2
      go_roundg k1
      case measure => have := HK1.out; omega
      case rel => exact ⟨(wrap64 (x5_1 + 1)), (by first | rfl | (simp; done) | (simp [*]; done)), H', ⟨by have := HK1.out; omega⟩, by repeat (first | exact Drawn0.refl _ | apply Drawn0.step)⟩
     rw [if_neg c5] at H
     have c5b0 : decide (((rd_T58 l0 x5_1).f0) ≤ a1) = false := decide_eq_false c5
     clear c5
     have H' := m_ H
     clear H
     have p423 : 0 ≤ (x5_1 : Int) := o1_ (by with_reducible assumption)
     have q423 : x5_1 < (l0.length : Int) := o1_ (by with_reducible assumption)
     obtain ⟨ad423, e423, hx423_0, hx423_1⟩ := at_T58 HR0.out x5_1 p423 q423
     cases e423
     replace p423 := eq_true p423
     replace q423 := eq_true q423
     go_wp2
     go_roundg k1
     case measure => have := HK1.out; omega
     case rel => exact ⟨(wrap64 (x5_1 + 1)), (by first | rfl | (simp; done) | (simp [*]; done)), H', ⟨by have := HK1.out; omega⟩, by repeat (first | exact Drawn0.refl _ | apply Drawn0.step)⟩
    rw [if_neg c4] at H
    exact absurd H (by simp)
   rw [if_neg c3] at H
   have c3b0 : decide (x5_1 < (l0.length : Int)) = false := decide_eq_false c3
   clear c3
   obtain rfl := Option.some.inj H
   go_wp2
   go_ret
   exact ⟨by first | rfl | (simp; done) | (simp [*]; done), by repeat (first | exact Drawn0.refl _ | apply Drawn0.step)⟩
end Go.Proofs.Ytbekhjcnmifnnaa.Q
