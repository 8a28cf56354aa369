import Derived.Test.YtbekhjcnmifnnaaQ0
set_option linter.unusedVariables false
set_option linter.unusedSimpArgs false
namespace Go.Proofs.Ytbekhjcnmifnnaa.Q
open Go.RowKit Go.Proofs.YtbekhjcnmifnnaaW.PrintWords Go.Proofs.YtbekhjcnmifnnaaW.PrintLast Go.Proofs.YtbekhjcnmifnnaaW.PrintMore
def jobshellref04_ascending.l0 : Nat → List (S58) → Int → Option (Bool)
 | 0, _, _ => none
 | k + 1, x0, x3 => if x3 < (x0.length : Int) then (if 0 ≤ x3 then (if ((rd_T58 x0 x3).f0) > ((rd_T58 x0 x3).f1) then (some false) else (if x3 > 0 then (if 0 ≤ (wrap64 (x3 - 1)) then (if (wrap64 (x3 - 1)) < (x0.length : Int) then (if (wrap64 ((rd_T58 x0 x3).f0)) ≤ (wrap64 ((wrap64 ((rd_T58 x0 (wrap64 (x3 - 1))).f1)) + 1)) then (some false) else (jobshellref04_ascending.l0 k x0 (wrap64 (x3 + 1)))) else (none)) else (none)) else (jobshellref04_ascending.l0 k x0 (wrap64 (x3 + 1))))) else (none)) else (some true)
def jobshellref04_ascending.f (k : Nat) (l0 : List (S58)) : Option (Bool) := jobshellref04_ascending.l0 k l0 0
set_option maxHeartbeats 8000000 in
set_option maxRecDepth 100000 in
theorem jobshellref04_ascending.calls (k : Nat) (A0 : Option Addr) (c0 : Nat) (l0 : List (S58)) (r : Bool) (w : World) (hr0 : Kd.C k58 w A0 l0.length l0) (hc0 : l0.length ≤ c0) (h : jobshellref04_ascending.f k l0 = some r) :
 Calls Try.prog 42 #[.slice A0 l0.length c0] w fun e w' => e = .returned (.bool r) ∧ Drawn0 w w' := by
 have HR0 := m_ hr0
 have HC0 := m_ hc0
 clear hr0 hc0
 have H : (jobshellref04_ascending.l0 k l0 0) = some r := h
 clear h
 have H' := m_ H
 clear H
 go_enter Try.func42, Try.ntmps42
 go_wp2
 repeat (go_quiet (fail); try go_wp2)
 go_loopg [3] k (fun kq v3 w' => ∃ (x3_1 : Int), v3 = .int .i64 x3_1 ∧ Aside0 (jobshellref04_ascending.l0 kq l0 x3_1 = some r) ∧ Aside0 (kq ≤ k) ∧ Drawn0 w w')
 case atStart => exact ⟨(0), (by first | rfl | (simp; done) | (simp [*]; done)), H', ⟨Nat.le_refl _⟩, by repeat (first | exact Drawn0.refl _ | apply Drawn0.step)⟩
 case round =>
  clear H'
  obtain ⟨x3_1, rfl, HA, HK1, ⟨m1, rfl⟩⟩ := hrel
  cases gk with
  | zero => exact absurd HA.out (by simp [jobshellref04_ascending.l0])
  | succ k1 =>
   have H := HA.out
   clear HA
   simp only [jobshellref04_ascending.l0] at H
   by_cases c2 : x3_1 < (l0.length : Int)
   ·
    rw [if_pos c2] at H
    have c2b0 : decide (x3_1 < (l0.length : Int)) = true := decide_eq_true c2
    clear c2
    by_cases c3 : 0 ≤ x3_1
    ·
     rw [if_pos c3] at H
     have c3b0 : decide (0 ≤ x3_1) = true := decide_eq_true c3
     clear c3
     by_cases c4 : ((rd_T58 l0 x3_1).f0) > ((rd_T58 l0 x3_1).f1)
     ·
      rw [if_pos c4] at H
      have c4b0 : decide (((rd_T58 l0 x3_1).f1) < ((rd_T58 l0 x3_1).f0)) = true := decide_eq_true c4
      clear c4
      obtain rfl := Option.some.inj H
      have p507 : 0 ≤ (x3_1 : Int) := o1_ (by with_reducible assumption)
      have q507 : x3_1 < (l0.length : Int) := o1_ (by with_reducible assumption)
      obtain ⟨ad507, e507, hx507_0, hx507_1⟩ := at_T58 HR0.out x3_1 p507 q507
      cases e507
      replace p507 := eq_true p507
      replace q507 := eq_true q507
      have p508 : 0 ≤ (x3_1 : Int) := o1_ (by with_reducible assumption)
      have q508 : x3_1 < (l0.length : Int) := o1_ (by with_reducible assumption)
      obtain ⟨ad508, e508, hx508_0, hx508_1⟩ := at_T58 HR0.out x3_1 p508 q508
      obtain rfl : ad507 = ad508 := (by injection e508)
      replace p508 := eq_true p508
      replace q508 := eq_true q508
      go_wp2
      repeat (go_quiet (fail); try go_wp2)
      go_ret
      exact ⟨by first | rfl | (simp; done) | (simp [*]; done), by repeat (first | exact Drawn0.refl _ | apply Drawn0.step)⟩
     rw [if_neg c4] at H
     have c4b0 : decide (((rd_T58 l0 x3_1).f1) < ((rd_T58 l0 x3_1).f0)) = false := decide_eq_false c4
     clear c4
     by_cases c5 : x3_1 > 0
     ·
      rw [if_pos c5] at H
      have c5b0 : decide (0 < x3_1) = true := decide_eq_true c5
      clear c5
      obtain ⟨ji6, hji6⟩ : ∃ j_ : Int, (wrap64 (x3_1 - 1)) = j_ := ⟨_, rfl⟩
      first | rw [hji6] at H | simp only [hji6] at H
      have hji6w : (IntKind.i64.wrap (x3_1 - 1)) = ji6 := (i64_w _).trans hji6
      by_cases c7 : 0 ≤ (ji6)
      ·
       rw [if_pos c7] at H
       have c7b0 : decide (0 ≤ (ji6)) = true := decide_eq_true c7
       clear c7
       by_cases c8 : (ji6) < (l0.length : Int)
       ·
        rw [if_pos c8] at H
        have c8b0 : decide ((ji6) < (l0.length : Int)) = true := decide_eq_true c8
        clear c8
        by_cases c9 : (wrap64 ((rd_T58 l0 x3_1).f0)) ≤ (wrap64 ((wrap64 ((rd_T58 l0 (ji6)).f1)) + 1))
        ·
         rw [if_pos c9] at H
         have c9b0 : decide ((wrap64 ((rd_T58 l0 x3_1).f0)) ≤ (wrap64 ((wrap64 ((rd_T58 l0 (ji6)).f1)) + 1))) = true := decide_eq_true c9
         clear c9
         obtain rfl := Option.some.inj H
         have p507 : 0 ≤ (x3_1 : Int) := o1_ (by with_reducible assumption)
         have q507 : x3_1 < (l0.length : Int) := o1_ (by with_reducible assumption)
         obtain ⟨ad507, e507, hx507_0, hx507_1⟩ := at_T58 HR0.out x3_1 p507 q507
         cases e507
         replace p507 := eq_true p507
         replace q507 := eq_true q507
         have p508 : 0 ≤ (x3_1 : Int) := o1_ (by with_reducible assumption)
         have q508 : x3_1 < (l0.length : Int) := o1_ (by with_reducible assumption)
         obtain ⟨ad508, e508, hx508_0, hx508_1⟩ := at_T58 HR0.out x3_1 p508 q508
         obtain rfl : ad507 = ad508 := (by injection e508)
         replace p508 := eq_true p508
         replace q508 := eq_true q508
         have p509 : 0 ≤ (x3_1 : Int) := o1_ (by with_reducible assumption)
         have q509 : x3_1 < (l0.length : Int) := o1_ (by with_reducible assumption)
         obtain ⟨ad509, e509, hx509_0, hx509_1⟩ := at_T58 HR0.out x3_1 p509 q509
         obtain rfl : ad507 = ad509 := (by injection e509)
         replace p509 := eq_true p509
         replace q509 := eq_true q509
         have p510 : 0 ≤ ((ji6) : Int) := o1_ (by with_reducible assumption)
         have q510 : (ji6) < (l0.length : Int) := o1_ (by with_reducible assumption)
         obtain ⟨ad510, e510, hx510_0, hx510_1⟩ := at_T58 HR0.out (ji6) p510 q510
         obtain rfl : ad507 = ad510 := (by injection e510)
         replace p510 := eq_true p510
         replace q510 := eq_true q510
         go_wp2
         repeat (go_quiet (fail); try go_wp2)
         go_ret
         exact ⟨by first | rfl | (simp; done) | (simp only [← hji6] <;> (first | rfl | simp)) | (simp [*]; done), by repeat (first | exact Drawn0.refl _ | apply Drawn0.step)⟩
        rw [if_neg c9] at H
        have c9b0 : decide ((wrap64 ((rd_T58 l0 x3_1).f0)) ≤ (wrap64 ((wrap64 ((rd_T58 l0 (ji6)).f1)) + 1))) = false := decide_eq_false c9
        clear c9
        have H' := m_ H
        clear H
        have p507 : 0 ≤ (x3_1 : Int) := o1_ (by with_reducible assumption)
        have q507 : x3_1 < (l0.length : Int) := o1_ (by with_reducible assumption)
        obtain ⟨ad507, e507, hx507_0, hx507_1⟩ := at_T58 HR0.out x3_1 p507 q507
        cases e507
        replace p507 := eq_true p507
        replace q507 := eq_true q507
        have p508 : 0 ≤ (x3_1 : Int) := o1_ (by with_reducible assumption)
        have q508 : x3_1 < (l0.length : Int) := o1_ (by with_reducible assumption)
        obtain ⟨ad508, e508, hx508_0, hx508_1⟩ := at_T58 HR0.out x3_1 p508 q508
        obtain rfl : ad507 = ad508 := (by injection e508)
        replace p508 := eq_true p508
        replace q508 := eq_true q508
        have p509 : 0 ≤ (x3_1 : Int) := o1_ (by with_reducible assumption)
        have q509 : x3_1 < (l0.length : Int) := o1_ (by with_reducible assumption)
        obtain ⟨ad509, e509, hx509_0, hx509_1⟩ := at_T58 HR0.out x3_1 p509 q509
        obtain rfl : ad507 = ad509 := (by injection e509)
        replace p509 := eq_true p509
        replace q509 := eq_true q509
        have p510 : 0 ≤ ((ji6) : Int) := o1_ (by with_reducible assumption)
        have q510 : (ji6) < (l0.length : Int) := o1_ (by with_reducible assumption)
        obtain ⟨ad510, e510, hx510_0, hx510_1⟩ := at_T58 HR0.out (ji6) p510 q510
        obtain rfl : ad507 = ad510 := (by injection e510)
        replace p510 := eq_true p510
        replace q510 := eq_true q510
        go_wp2
        repeat (go_quiet (fail); try go_wp2)
        go_roundg k1
        case measure => have := HK1.out; omega
        case rel => exact ⟨(wrap64 (x3_1 + 1)), (by first | rfl | (simp; done) | (simp [*]; done)), H', ⟨by have := HK1.out; omega⟩, by repeat (first | exact Drawn0.refl _ | apply Drawn0.step)⟩
       rw [if_neg c8] at H
       exact absurd H (by simp)
      rw [if_neg c7] at H
      exact absurd H (by simp)
     rw [if_neg c5] at H
     have c5b0 : decide (0 < x3_1) = false := decide_eq_false c5
     clear c5
     have H' := m_ H
     clear H
     have p507 : 0 ≤ (x3_1 : Int) := o1_ (by with_reducible assumption)
     have q507 : x3_1 < (l0.length : Int) := o1_ (by with_reducible assumption)
     obtain ⟨ad507, e507, hx507_0, hx507_1⟩ := at_T58 HR0.out x3_1 p507 q507
     cases e507
     replace p507 := eq_true p507
     replace q507 := eq_true q507
     have p508 : 0 ≤ (x3_1 : Int) := o1_ (by with_reducible assumption)
     have q508 : x3_1 < (l0.length : Int) := o1_ (by with_reducible assumption)
     obtain ⟨ad508, e508, hx508_0, hx508_1⟩ := at_T58 HR0.out x3_1 p508 q508
     obtain rfl : ad507 = ad508 := (by injection e508)
     replace p508 := eq_true p508
     replace q508 := eq_true q508
     go_wp2
     repeat (go_quiet (fail); try go_wp2)
     go_roundg k1
     case measure => have := HK1.out; omega
     case rel => exact ⟨(wrap64 (x3_1 + 1)), (by first | rfl | (simp; done) | (simp [*]; done)), H', ⟨by have := HK1.out; omega⟩, by repeat (first | exact Drawn0.refl _ | apply Drawn0.step)⟩
    rw [if_neg c3] at H
    exact absurd H (by simp)
   rw [if_neg c2] at H
   have c2b0 : decide (x3_1 < (l0.length : Int)) = false := decide_eq_false c2
   clear c2
   obtain rfl := Option.some.inj H
   go_wp2
   repeat (go_quiet (fail); try go_wp2)
   go_ret
   exact ⟨by first | rfl | (simp; done) | (simp [*]; done), by repeat (first | exact Drawn0.refl _ | apply Drawn0.step)⟩
end Go.Proofs.Ytbekhjcnmifnnaa.Q
