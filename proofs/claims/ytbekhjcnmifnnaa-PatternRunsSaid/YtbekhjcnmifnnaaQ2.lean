import Derived.Test.YtbekhjcnmifnnaaQ0
set_option linter.unusedVariables false
set_option linter.unusedSimpArgs false
namespace Go.Proofs.Ytbekhjcnmifnnaa.Q
open Go.RowKit Go.Proofs.YtbekhjcnmifnnaaW.PrintWords Go.Proofs.YtbekhjcnmifnnaaW.PrintLast Go.Proofs.YtbekhjcnmifnnaaW.PrintMore
def jobshellref04_Small.l0 : Nat → List (S47) → Int → Int → Int → Int → Option (Bool)
 | 0, _, _, _, _, _ => none
 | k + 1, x0, x1, x2, x7, x8 => if x8 < (x0.length : Int) then (if x8 ≤ x1 then (if x7 ≤ x2 then (if 0 ≤ x8 then (jobshellref04_Small.l0 k x0 x1 x2 (wrap64 (x7 + (((rd_T47 x0 x8).f0).size : Int))) (wrap64 (x8 + 1))) else (none)) else (if (x0.length : Int) ≤ x1 then (some (decide (x7 ≤ x2))) else (some false))) else (if (x0.length : Int) ≤ x1 then (some (decide (x7 ≤ x2))) else (some false))) else (if (x0.length : Int) ≤ x1 then (some (decide (x7 ≤ x2))) else (some false))
def jobshellref04_Small.f (k : Nat) (l0 : List (S47)) (a1 : Int) (a2 : Int) : Option (Bool) := jobshellref04_Small.l0 k l0 a1 a2 0 0
theorem jobshellref04_Small.mono_l : ∀ k, (∀ y0 y1 y2 y3 y4, LeO (jobshellref04_Small.l0 k y0 y1 y2 y3 y4) (jobshellref04_Small.l0 (k + 1) y0 y1 y2 y3 y4))
 | 0 => fun _ _ _ _ _ r h => by simp [jobshellref04_Small.l0] at h
 | k + 1 => by
  have ih0 := jobshellref04_Small.mono_l k
  ·
   intro y0 y1 y2 y3 y4
   unfold jobshellref04_Small.l0
   repeat' first
   | (with_reducible exact ih0 _ _ _ _ _)
   | (with_reducible exact LeO.refl _)
   | (with_reducible exact LeO.none _)
   | (with_reducible refine LeO.ite ?_ ?_)
   | (with_reducible refine LeO.bind ?_ (fun _ => ?_))
theorem jobshellref04_Small.mono : ∀ a0 a1 a2 k, LeO (jobshellref04_Small.f k a0 a1 a2) (jobshellref04_Small.f (k + 1) a0 a1 a2) := by
 intro a0 a1 a2 k
 have ih0 := jobshellref04_Small.mono_l k
 unfold jobshellref04_Small.f
 repeat' first
  | (with_reducible exact ih0 _ _ _ _ _)
  | (with_reducible exact LeO.refl _)
  | (with_reducible exact LeO.none _)
  | (with_reducible refine LeO.ite ?_ ?_)
  | (with_reducible refine LeO.bind ?_ (fun _ => ?_))
set_option maxHeartbeats 8000000 in
set_option maxRecDepth 100000 in
theorem jobshellref04_Small.calls (k : Nat) (A0 : Option Addr) (c0 : Nat) (l0 : List (S47)) (a1 : Int) (a2 : Int) (r : Bool) (w : World) (hr0 : Kd.C k47 w A0 l0.length l0) (hc0 : l0.length ≤ c0) (h : jobshellref04_Small.f k l0 a1 a2 = some r) :
 Calls Try.prog 11 #[.slice A0 l0.length c0, .int .i64 a1, .int .i64 a2] w fun e w' => e = .returned (.bool r) ∧ Drawn0 w w' := by
 have HR0 := m_ hr0
 have HC0 := m_ hc0
 clear hr0 hc0
 have H : (jobshellref04_Small.l0 k l0 a1 a2 0 0) = some r := h
 clear h
 have H' := m_ H
 clear H
 go_enter Try.func11, Try.ntmps11
 go_wp2
 go_loopg [7, 8] k (fun kq v7 v8 w' => ∃ (x7_1 : Int) (x8_1 : Int), v7 = .int .i64 x7_1 ∧ v8 = .int .i64 x8_1 ∧ Aside0 (jobshellref04_Small.l0 kq l0 a1 a2 x7_1 x8_1 = some r) ∧ Aside0 (kq ≤ k) ∧ Drawn0 w w')
 case atStart => exact ⟨(0), (0), (by first | rfl | (simp; done) | (simp [*]; done)), (by first | rfl | (simp; done) | (simp [*]; done)), H', ⟨Nat.le_refl _⟩, by repeat (first | exact Drawn0.refl _ | apply Drawn0.step)⟩
 case round =>
  clear H'
  (try clear c1); (try clear p2)
  obtain ⟨x7_1, x8_1, rfl, rfl, HA, HK1, ⟨m1, rfl⟩⟩ := hrel
  cases gk with
  | zero => exact absurd HA.out (by simp [jobshellref04_Small.l0])
  | succ k1 =>
   have H := HA.out
   clear HA
   simp only [jobshellref04_Small.l0] at H
   by_cases c4 : x8_1 < (l0.length : Int)
   ·
    rw [if_pos c4] at H
    have c4b0 : decide (x8_1 < (l0.length : Int)) = true := decide_eq_true c4
    clear c4
    by_cases c5 : x8_1 ≤ a1
    ·
     rw [if_pos c5] at H
     have c5b0 : decide (x8_1 ≤ a1) = true := decide_eq_true c5
     clear c5
     by_cases c6 : x7_1 ≤ a2
     ·
      rw [if_pos c6] at H
      have c6b0 : decide (x7_1 ≤ a2) = true := decide_eq_true c6
      clear c6
      by_cases c7 : 0 ≤ x8_1
      ·
       rw [if_pos c7] at H
       have c7b0 : decide (0 ≤ x8_1) = true := decide_eq_true c7
       clear c7
       have H' := m_ H
       clear H
       have p101 : 0 ≤ (x8_1 : Int) := o1_ (by with_reducible assumption)
       have q101 : x8_1 < (l0.length : Int) := o1_ (by with_reducible assumption)
       obtain ⟨ad101, e101, hx101_0, hx101_1⟩ := at_T47 HR0.out x8_1 p101 q101
       cases e101
       replace p101 := eq_true p101
       replace q101 := eq_true q101
       go_wp2
       go_roundg k1
       case measure => have := HK1.out; omega
       case rel => exact ⟨(wrap64 (x7_1 + (((rd_T47 l0 x8_1).f0).size : Int))), (wrap64 (x8_1 + 1)), (by first | rfl | (simp; done) | (simp [*]; done)), (by first | rfl | (simp; done) | (simp [*]; done)), H', ⟨by have := HK1.out; omega⟩, by repeat (first | exact Drawn0.refl _ | apply Drawn0.step)⟩
      rw [if_neg c7] at H
      exact absurd H (by simp)
     rw [if_neg c6] at H
     have c6b0 : decide (x7_1 ≤ a2) = false := decide_eq_false c6
     clear c6
     by_cases c8 : (l0.length : Int) ≤ a1
     ·
      rw [if_pos c8] at H
      have c8b0 : decide ((l0.length : Int) ≤ a1) = true := decide_eq_true c8
      clear c8
      obtain rfl := Option.some.inj H
      go_wp2
      go_ret
      exact ⟨by first | rfl | (simp; done) | (simp [*]; done), by repeat (first | exact Drawn0.refl _ | apply Drawn0.step)⟩
     rw [if_neg c8] at H
     have c8b0 : decide ((l0.length : Int) ≤ a1) = false := decide_eq_false c8
     clear c8
     obtain rfl := Option.some.inj H
     go_wp2
     go_ret
     exact ⟨by first | rfl | (simp; done) | (simp [*]; done), by repeat (first | exact Drawn0.refl _ | apply Drawn0.step)⟩
    rw [if_neg c5] at H
    have c5b0 : decide (x8_1 ≤ a1) = false := decide_eq_false c5
    clear c5
    by_cases c9 : (l0.length : Int) ≤ a1
    ·
     rw [if_pos c9] at H
     have c9b0 : decide ((l0.length : Int) ≤ a1) = true := decide_eq_true c9
     clear c9
     obtain rfl := Option.some.inj H
     go_wp2
     go_ret
     exact ⟨by first | rfl | (simp; done) | (simp [*]; done), by repeat (first | exact Drawn0.refl _ | apply Drawn0.step)⟩
    rw [if_neg c9] at H
    have c9b0 : decide ((l0.length : Int) ≤ a1) = false := decide_eq_false c9
    clear c9
    obtain rfl := Option.some.inj H
    go_wp2
    go_ret
    exact ⟨by first | rfl | (simp; done) | (simp [*]; done), by repeat (first | exact Drawn0.refl _ | apply Drawn0.step)⟩
   rw [if_neg c4] at H
   have c4b0 : decide (x8_1 < (l0.length : Int)) = false := decide_eq_false c4
   clear c4
   by_cases c10 : (l0.length : Int) ≤ a1
   ·
    rw [if_pos c10] at H
    have c10b0 : decide ((l0.length : Int) ≤ a1) = true := decide_eq_true c10
    clear c10
    obtain rfl := Option.some.inj H
    go_wp2
    go_ret
    exact ⟨by first | rfl | (simp; done) | (simp [*]; done), by repeat (first | exact Drawn0.refl _ | apply Drawn0.step)⟩
   rw [if_neg c10] at H
   have c10b0 : decide ((l0.length : Int) ≤ a1) = false := decide_eq_false c10
   clear c10
   obtain rfl := Option.some.inj H
   go_wp2
   go_ret
   exact ⟨by first | rfl | (simp; done) | (simp [*]; done), by repeat (first | exact Drawn0.refl _ | apply Drawn0.step)⟩
end Go.Proofs.Ytbekhjcnmifnnaa.Q
