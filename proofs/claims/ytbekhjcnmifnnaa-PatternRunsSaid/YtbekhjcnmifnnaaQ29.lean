import Derived.Test.YtbekhjcnmifnnaaQ0
import Derived.Test.YtbekhjcnmifnnaaQ1
set_option linter.unusedVariables false
set_option linter.unusedSimpArgs false
namespace Go.Proofs.Ytbekhjcnmifnnaa.Q
open Go.RowKit Go.Proofs.YtbekhjcnmifnnaaW.PrintWords Go.Proofs.YtbekhjcnmifnnaaW.PrintLast Go.Proofs.YtbekhjcnmifnnaaW.PrintMore
attribute [local go_sem high] eqA58
mutual
def jobshellref04_Same.l0 : Nat → List (S35) → List (S35) → Int → Option (Bool)
 | 0, _, _, _ => none
 | k + 1, x0, x1, x5 => if x5 < (x0.length : Int) then (if 0 ≤ x5 then (if x5 < (x1.length : Int) then (if ((rd_T35 x0 x5).f0) = ((rd_T35 x1 x5).f0) then (if ((rd_T35 x0 x5).f1).toList = ((rd_T35 x1 x5).f1).toList then (if (((rd_T35 x0 x5).f2) != ((rd_T35 x1 x5).f2)) = true then (jobshellref04_Same.j1 k x0 x1 x5 true) else (jobshellref04_Same.j1 k x0 x1 x5 ((((rd_T35 x0 x5).f3).length : Int) != (((rd_T35 x1 x5).f3).length : Int)))) else (jobshellref04_Same.j1 k x0 x1 x5 true)) else (jobshellref04_Same.j1 k x0 x1 x5 true)) else (none)) else (none)) else (some true)
def jobshellref04_Same.j1 : Nat → List (S35) → List (S35) → Int → Bool → Option (Bool)
 | 0, _, _, _, _ => none
 | k + 1, x0, x1, x5, x69 => if x69 = true then (some false) else (jobshellref04_Same.l1 k x0 x1 x5 0)
def jobshellref04_Same.l1 : Nat → List (S35) → List (S35) → Int → Int → Option (Bool)
 | 0, _, _, _, _ => none
 | k + 1, x0, x1, x5, x6 => if 0 ≤ x5 then (if x5 < (x0.length : Int) then (if x6 < (((rd_T35 x0 x5).f3).length : Int) then (if 0 ≤ x6 then (if x5 < (x1.length : Int) then (if x6 < (((rd_T35 x1 x5).f3).length : Int) then (if (!(((rd_T58 ((rd_T35 x0 x5).f3) x6).f0) == ((rd_T58 ((rd_T35 x1 x5).f3) x6).f0)) || (!(((rd_T58 ((rd_T35 x0 x5).f3) x6).f1) == ((rd_T58 ((rd_T35 x1 x5).f3) x6).f1)))) = true then (some false) else (jobshellref04_Same.l1 k x0 x1 x5 (wrap64 (x6 + 1)))) else (none)) else (none)) else (none)) else (jobshellref04_Same.l0 k x0 x1 (wrap64 (x5 + 1)))) else (none)) else (none)
end
def jobshellref04_Same.f (k : Nat) (l0 : List (S35)) (l1 : List (S35)) : Option (Bool) := if (l0.length : Int) = (l1.length : Int) then (jobshellref04_Same.l0 k l0 l1 0) else (some false)
set_option maxHeartbeats 8000000 in
set_option maxRecDepth 100000 in
theorem jobshellref04_Same.calls (k : Nat) (A0 : Option Addr) (c0 : Nat) (l0 : List (S35)) (A1 : Option Addr) (c1 : Nat) (l1 : List (S35)) (r : Bool) (w : World) (hr0 : Kd.C k35 w A0 l0.length l0) (hc0 : l0.length ≤ c0) (hr1 : Kd.C k35 w A1 l1.length l1) (hc1 : l1.length ≤ c1) (h : jobshellref04_Same.f k l0 l1 = some r) :
 Calls Try.prog 19 #[.slice A0 l0.length c0, .slice A1 l1.length c1] w fun e w' => e = .returned (.bool r) ∧ Drawn0 w w' := by
 have hu58 := Try.underlying58
 have HR0 := m_ hr0
 have HC0 := m_ hc0
 clear hr0 hc0
 have HR1 := m_ hr1
 have HC1 := m_ hc1
 clear hr1 hc1
 have H : (if (l0.length : Int) = (l1.length : Int) then (jobshellref04_Same.l0 k l0 l1 0) else (some false)) = some r := h
 clear h
 by_cases c3 : (l0.length : Int) = (l1.length : Int)
 ·
  rw [if_pos c3] at H
  have c3b0 : ((l0.length : Int) == (l1.length : Int)) = true := beq_iff_eq.mpr c3
  have c3b1 : ((l0.length : Int) != (l1.length : Int)) = false := bne_eq_false_iff_eq.mpr c3
  have c3b2 : (l0.length == l1.length) = true := by first | simpa using c3 | (simp at c3 ⊢; omega)
  clear c3
  have H' := m_ H
  clear H
  go_enter Try.func19, Try.ntmps19
  go_wp2
  repeat (go_quiet (fail); try go_wp2)
  go_loopg [5] k (fun kq v5 w' => ∃ (x5_1 : Int), v5 = .int .i64 x5_1 ∧ Aside0 (jobshellref04_Same.l0 kq l0 l1 x5_1 = some r) ∧ Aside0 (kq ≤ k) ∧ Drawn0 w w')
  case atStart => exact ⟨(0), (by first | rfl | (simp; done) | (simp [*]; done)), H', ⟨Nat.le_refl _⟩, by repeat (first | exact Drawn0.refl _ | apply Drawn0.step)⟩
  case round =>
   clear H'
   (try clear c1); (try clear p2); (try clear c3); (try clear c3b0); (try clear c3b1); (try clear c3b2)
   obtain ⟨x5_1, rfl, HA, HK1, ⟨m1, rfl⟩⟩ := hrel
   cases gk with
   | zero => exact absurd HA.out (by simp [jobshellref04_Same.l0])
   | succ k1 =>
    have H := HA.out
    clear HA
    simp only [jobshellref04_Same.l0] at H
    by_cases c4 : x5_1 < (l0.length : Int)
    ·
     rw [if_pos c4] at H
     have c4b0 : decide (x5_1 < (l0.length : Int)) = true := decide_eq_true c4
     clear c4
     have HC5 := m_ H
     clear H
     go_upto_region 6 with (fail)
     repeat (go_quiet (fail); go_upto_region 6 with (fail))
     go_cut [69] (fun v69 wc => ∃ (kq : Nat) (x69_4 : Bool), v69 = .bool x69_4 ∧ Aside0 (jobshellref04_Same.j1 kq l0 l1 x5_1 x69_4 = some r) ∧ Aside0 (kq ≤ k1) ∧ Drawn0 w wc)
     case first =>
      have H := HC5.out
      clear HC5
      by_cases c6 : 0 ≤ x5_1
      ·
       rw [if_pos c6] at H
       have c6b0 : decide (0 ≤ x5_1) = true := decide_eq_true c6
       clear c6
       (first | rw [c6b0] | (simp only [i64_w, i32_w]; rw [c6b0]) | skip)
       by_cases c7 : x5_1 < (l1.length : Int)
       ·
        rw [if_pos c7] at H
        have c7b0 : decide (x5_1 < (l1.length : Int)) = true := decide_eq_true c7
        clear c7
        by_cases c8 : ((rd_T35 l0 x5_1).f0) = ((rd_T35 l1 x5_1).f0)
        ·
         rw [if_pos c8] at H
         have c8b0 : (((rd_T35 l0 x5_1).f0) == ((rd_T35 l1 x5_1).f0)) = true := beq_iff_eq.mpr c8
         have c8b1 : (((rd_T35 l0 x5_1).f0) != ((rd_T35 l1 x5_1).f0)) = false := bne_eq_false_iff_eq.mpr c8
         clear c8
         by_cases c9 : ((rd_T35 l0 x5_1).f1).toList = ((rd_T35 l1 x5_1).f1).toList
         ·
          rw [if_pos c9] at H
          have c9b0 : (((rd_T35 l0 x5_1).f1).toList == ((rd_T35 l1 x5_1).f1).toList) = true := beq_iff_eq.mpr c9
          have c9b1 : (((rd_T35 l0 x5_1).f1).toList != ((rd_T35 l1 x5_1).f1).toList) = false := bne_eq_false_iff_eq.mpr c9
          clear c9
          by_cases c10 : (((rd_T35 l0 x5_1).f2) != ((rd_T35 l1 x5_1).f2)) = true
          ·
           rw [if_pos c10] at H
           have c10b0 : (((rd_T35 l0 x5_1).f2) != ((rd_T35 l1 x5_1).f2)) = true := c10
           (try (have c10b1 : decide (((rd_T35 l0 x5_1).f2) = ((rd_T35 l1 x5_1).f2)) = false := by simpa using c10))
           (try (have c10b2 : (((rd_T35 l0 x5_1).f2) == ((rd_T35 l1 x5_1).f2)) = false := by simpa using c10))
           (try (have c10b3 : ¬ (((rd_T35 l0 x5_1).f2) = ((rd_T35 l1 x5_1).f2)) := by simpa using c10))
           clear c10
           have H' := m_ H
           clear H
           have p352 : 0 ≤ (x5_1 : Int) := o1_ (by with_reducible assumption)
           have q352 : x5_1 < (l0.length : Int) := o1_ (by with_reducible assumption)
           obtain ⟨ad352, A352_3, c352_3, e352, hx352_0, hx352_1, hx352_2, hx352_3, hl352_3, hi352_3⟩ := at_T35 HR0.out x5_1 p352 q352
           cases e352
           have HR352_3 := m_ hi352_3
           have HC352_3 := m_ hl352_3
           clear hi352_3 hl352_3
           replace p352 := eq_true p352
           replace q352 := eq_true q352
           have p353 : 0 ≤ (x5_1 : Int) := o1_ (by with_reducible assumption)
           have q353 : x5_1 < (l1.length : Int) := o1_ (by with_reducible assumption)
           obtain ⟨ad353, A353_3, c353_3, e353, hx353_0, hx353_1, hx353_2, hx353_3, hl353_3, hi353_3⟩ := at_T35 HR1.out x5_1 p353 q353
           cases e353
           have HR353_3 := m_ hi353_3
           have HC353_3 := m_ hl353_3
           clear hi353_3 hl353_3
           replace p353 := eq_true p353
           replace q353 := eq_true q353
           have p354 : 0 ≤ (x5_1 : Int) := o1_ (by with_reducible assumption)
           have q354 : x5_1 < (l0.length : Int) := o1_ (by with_reducible assumption)
           obtain ⟨ad354, A354_3, c354_3, e354, hx354_0, hx354_1, hx354_2, hx354_3, hl354_3, hi354_3⟩ := at_T35 HR0.out x5_1 p354 q354
           obtain rfl : ad352 = ad354 := (by injection e354)
           have HR354_3 := m_ hi354_3
           have HC354_3 := m_ hl354_3
           clear hi354_3 hl354_3
           replace p354 := eq_true p354
           replace q354 := eq_true q354
           have ea_ := Option.some.inj (hx352_3.symm.trans hx354_3)
           injection ea_ with ea_ en_ ec_
           subst ea_
           subst ec_
           clear en_
           have p355 : 0 ≤ (x5_1 : Int) := o1_ (by with_reducible assumption)
           have q355 : x5_1 < (l1.length : Int) := o1_ (by with_reducible assumption)
           obtain ⟨ad355, A355_3, c355_3, e355, hx355_0, hx355_1, hx355_2, hx355_3, hl355_3, hi355_3⟩ := at_T35 HR1.out x5_1 p355 q355
           obtain rfl : ad353 = ad355 := (by injection e355)
           have HR355_3 := m_ hi355_3
           have HC355_3 := m_ hl355_3
           clear hi355_3 hl355_3
           replace p355 := eq_true p355
           replace q355 := eq_true q355
           have ea_ := Option.some.inj (hx353_3.symm.trans hx355_3)
           injection ea_ with ea_ en_ ec_
           subst ea_
           subst ec_
           clear en_
           have p356 : 0 ≤ (x5_1 : Int) := o1_ (by with_reducible assumption)
           have q356 : x5_1 < (l0.length : Int) := o1_ (by with_reducible assumption)
           obtain ⟨ad356, A356_3, c356_3, e356, hx356_0, hx356_1, hx356_2, hx356_3, hl356_3, hi356_3⟩ := at_T35 HR0.out x5_1 p356 q356
           obtain rfl : ad352 = ad356 := (by injection e356)
           have HR356_3 := m_ hi356_3
           have HC356_3 := m_ hl356_3
           clear hi356_3 hl356_3
           replace p356 := eq_true p356
           replace q356 := eq_true q356
           have ea_ := Option.some.inj (hx352_3.symm.trans hx356_3)
           injection ea_ with ea_ en_ ec_
           subst ea_
           subst ec_
           clear en_
           have p357 : 0 ≤ (x5_1 : Int) := o1_ (by with_reducible assumption)
           have q357 : x5_1 < (l1.length : Int) := o1_ (by with_reducible assumption)
           obtain ⟨ad357, A357_3, c357_3, e357, hx357_0, hx357_1, hx357_2, hx357_3, hl357_3, hi357_3⟩ := at_T35 HR1.out x5_1 p357 q357
           obtain rfl : ad353 = ad357 := (by injection e357)
           have HR357_3 := m_ hi357_3
           have HC357_3 := m_ hl357_3
           clear hi357_3 hl357_3
           replace p357 := eq_true p357
           replace q357 := eq_true q357
           have ea_ := Option.some.inj (hx353_3.symm.trans hx357_3)
           injection ea_ with ea_ en_ ec_
           subst ea_
           subst ec_
           clear en_
           go_wp2
           repeat (go_quiet (fail); try go_wp2)
           go_meet
           case rel => exact ⟨_, (true), (by first | rfl | (simp; done) | (simp [*]; done)), H', ⟨by have := HK1.out; first | omega | exact Nat.le_refl _⟩, by repeat (first | exact Drawn0.refl _ | apply Drawn0.step)⟩
          rw [if_neg c10] at H
          have c10b0 : (((rd_T35 l0 x5_1).f2) != ((rd_T35 l1 x5_1).f2)) = false := by simpa using c10
          (try (have c10b1 : decide (((rd_T35 l0 x5_1).f2) = ((rd_T35 l1 x5_1).f2)) = true := by simpa using c10))
          (try (have c10b2 : (((rd_T35 l0 x5_1).f2) == ((rd_T35 l1 x5_1).f2)) = true := by simpa using c10))
          clear c10
          have H' := m_ H
          clear H
          have p352 : 0 ≤ (x5_1 : Int) := o1_ (by with_reducible assumption)
          have q352 : x5_1 < (l0.length : Int) := o1_ (by with_reducible assumption)
          obtain ⟨ad352, A352_3, c352_3, e352, hx352_0, hx352_1, hx352_2, hx352_3, hl352_3, hi352_3⟩ := at_T35 HR0.out x5_1 p352 q352
          cases e352
          have HR352_3 := m_ hi352_3
          have HC352_3 := m_ hl352_3
          clear hi352_3 hl352_3
          replace p352 := eq_true p352
          replace q352 := eq_true q352
          have p353 : 0 ≤ (x5_1 : Int) := o1_ (by with_reducible assumption)
          have q353 : x5_1 < (l1.length : Int) := o1_ (by with_reducible assumption)
          obtain ⟨ad353, A353_3, c353_3, e353, hx353_0, hx353_1, hx353_2, hx353_3, hl353_3, hi353_3⟩ := at_T35 HR1.out x5_1 p353 q353
          cases e353
          have HR353_3 := m_ hi353_3
          have HC353_3 := m_ hl353_3
          clear hi353_3 hl353_3
          replace p353 := eq_true p353
          replace q353 := eq_true q353
          have p354 : 0 ≤ (x5_1 : Int) := o1_ (by with_reducible assumption)
          have q354 : x5_1 < (l0.length : Int) := o1_ (by with_reducible assumption)
          obtain ⟨ad354, A354_3, c354_3, e354, hx354_0, hx354_1, hx354_2, hx354_3, hl354_3, hi354_3⟩ := at_T35 HR0.out x5_1 p354 q354
          obtain rfl : ad352 = ad354 := (by injection e354)
          have HR354_3 := m_ hi354_3
          have HC354_3 := m_ hl354_3
          clear hi354_3 hl354_3
          replace p354 := eq_true p354
          replace q354 := eq_true q354
          have ea_ := Option.some.inj (hx352_3.symm.trans hx354_3)
          injection ea_ with ea_ en_ ec_
          subst ea_
          subst ec_
          clear en_
          have p355 : 0 ≤ (x5_1 : Int) := o1_ (by with_reducible assumption)
          have q355 : x5_1 < (l1.length : Int) := o1_ (by with_reducible assumption)
          obtain ⟨ad355, A355_3, c355_3, e355, hx355_0, hx355_1, hx355_2, hx355_3, hl355_3, hi355_3⟩ := at_T35 HR1.out x5_1 p355 q355
          obtain rfl : ad353 = ad355 := (by injection e355)
          have HR355_3 := m_ hi355_3
          have HC355_3 := m_ hl355_3
          clear hi355_3 hl355_3
          replace p355 := eq_true p355
          replace q355 := eq_true q355
          have ea_ := Option.some.inj (hx353_3.symm.trans hx355_3)
          injection ea_ with ea_ en_ ec_
          subst ea_
          subst ec_
          clear en_
          have p356 : 0 ≤ (x5_1 : Int) := o1_ (by with_reducible assumption)
          have q356 : x5_1 < (l0.length : Int) := o1_ (by with_reducible assumption)
          obtain ⟨ad356, A356_3, c356_3, e356, hx356_0, hx356_1, hx356_2, hx356_3, hl356_3, hi356_3⟩ := at_T35 HR0.out x5_1 p356 q356
          obtain rfl : ad352 = ad356 := (by injection e356)
          have HR356_3 := m_ hi356_3
          have HC356_3 := m_ hl356_3
          clear hi356_3 hl356_3
          replace p356 := eq_true p356
          replace q356 := eq_true q356
          have ea_ := Option.some.inj (hx352_3.symm.trans hx356_3)
          injection ea_ with ea_ en_ ec_
          subst ea_
          subst ec_
          clear en_
          have p357 : 0 ≤ (x5_1 : Int) := o1_ (by with_reducible assumption)
          have q357 : x5_1 < (l1.length : Int) := o1_ (by with_reducible assumption)
          obtain ⟨ad357, A357_3, c357_3, e357, hx357_0, hx357_1, hx357_2, hx357_3, hl357_3, hi357_3⟩ := at_T35 HR1.out x5_1 p357 q357
          obtain rfl : ad353 = ad357 := (by injection e357)
          have HR357_3 := m_ hi357_3
          have HC357_3 := m_ hl357_3
          clear hi357_3 hl357_3
          replace p357 := eq_true p357
          replace q357 := eq_true q357
          have ea_ := Option.some.inj (hx353_3.symm.trans hx357_3)
          injection ea_ with ea_ en_ ec_
          subst ea_
          subst ec_
          clear en_
          have p358 : 0 ≤ (x5_1 : Int) := o1_ (by with_reducible assumption)
          have q358 : x5_1 < (l0.length : Int) := o1_ (by with_reducible assumption)
          obtain ⟨ad358, A358_3, c358_3, e358, hx358_0, hx358_1, hx358_2, hx358_3, hl358_3, hi358_3⟩ := at_T35 HR0.out x5_1 p358 q358
          obtain rfl : ad352 = ad358 := (by injection e358)
          have HR358_3 := m_ hi358_3
          have HC358_3 := m_ hl358_3
          clear hi358_3 hl358_3
          replace p358 := eq_true p358
          replace q358 := eq_true q358
          have ea_ := Option.some.inj (hx352_3.symm.trans hx358_3)
          injection ea_ with ea_ en_ ec_
          subst ea_
          subst ec_
          clear en_
          have p359 : 0 ≤ (x5_1 : Int) := o1_ (by with_reducible assumption)
          have q359 : x5_1 < (l1.length : Int) := o1_ (by with_reducible assumption)
          obtain ⟨ad359, A359_3, c359_3, e359, hx359_0, hx359_1, hx359_2, hx359_3, hl359_3, hi359_3⟩ := at_T35 HR1.out x5_1 p359 q359
          obtain rfl : ad353 = ad359 := (by injection e359)
          have HR359_3 := m_ hi359_3
          have HC359_3 := m_ hl359_3
          clear hi359_3 hl359_3
          replace p359 := eq_true p359
          replace q359 := eq_true q359
          have ea_ := Option.some.inj (hx353_3.symm.trans hx359_3)
          injection ea_ with ea_ en_ ec_
          subst ea_
          subst ec_
          clear en_
          go_wp2
          repeat (go_quiet (fail); try go_wp2)
          go_meet
          case rel => exact ⟨_, (((((rd_T35 l0 x5_1).f3).length : Int) != (((rd_T35 l1 x5_1).f3).length : Int))), (by first | rfl | (simp; done) | (simp [*]; done)), H', ⟨by have := HK1.out; first | omega | exact Nat.le_refl _⟩, by repeat (first | exact Drawn0.refl _ | apply Drawn0.step)⟩
         rw [if_neg c9] at H
         have c9b0 : (((rd_T35 l0 x5_1).f1).toList == ((rd_T35 l1 x5_1).f1).toList) = false := beq_eq_false_iff_ne.mpr c9
         have c9b1 : (((rd_T35 l0 x5_1).f1).toList != ((rd_T35 l1 x5_1).f1).toList) = true := bne_iff_ne.mpr c9
         have H' := m_ H
         clear H
         have p352 : 0 ≤ (x5_1 : Int) := o1_ (by with_reducible assumption)
         have q352 : x5_1 < (l0.length : Int) := o1_ (by with_reducible assumption)
         obtain ⟨ad352, A352_3, c352_3, e352, hx352_0, hx352_1, hx352_2, hx352_3, hl352_3, hi352_3⟩ := at_T35 HR0.out x5_1 p352 q352
         cases e352
         have HR352_3 := m_ hi352_3
         have HC352_3 := m_ hl352_3
         clear hi352_3 hl352_3
         replace p352 := eq_true p352
         replace q352 := eq_true q352
         have p353 : 0 ≤ (x5_1 : Int) := o1_ (by with_reducible assumption)
         have q353 : x5_1 < (l1.length : Int) := o1_ (by with_reducible assumption)
         obtain ⟨ad353, A353_3, c353_3, e353, hx353_0, hx353_1, hx353_2, hx353_3, hl353_3, hi353_3⟩ := at_T35 HR1.out x5_1 p353 q353
         cases e353
         have HR353_3 := m_ hi353_3
         have HC353_3 := m_ hl353_3
         clear hi353_3 hl353_3
         replace p353 := eq_true p353
         replace q353 := eq_true q353
         have p354 : 0 ≤ (x5_1 : Int) := o1_ (by with_reducible assumption)
         have q354 : x5_1 < (l0.length : Int) := o1_ (by with_reducible assumption)
         obtain ⟨ad354, A354_3, c354_3, e354, hx354_0, hx354_1, hx354_2, hx354_3, hl354_3, hi354_3⟩ := at_T35 HR0.out x5_1 p354 q354
         obtain rfl : ad352 = ad354 := (by injection e354)
         have HR354_3 := m_ hi354_3
         have HC354_3 := m_ hl354_3
         clear hi354_3 hl354_3
         replace p354 := eq_true p354
         replace q354 := eq_true q354
         have ea_ := Option.some.inj (hx352_3.symm.trans hx354_3)
         injection ea_ with ea_ en_ ec_
         subst ea_
         subst ec_
         clear en_
         have p355 : 0 ≤ (x5_1 : Int) := o1_ (by with_reducible assumption)
         have q355 : x5_1 < (l1.length : Int) := o1_ (by with_reducible assumption)
         obtain ⟨ad355, A355_3, c355_3, e355, hx355_0, hx355_1, hx355_2, hx355_3, hl355_3, hi355_3⟩ := at_T35 HR1.out x5_1 p355 q355
         obtain rfl : ad353 = ad355 := (by injection e355)
         have HR355_3 := m_ hi355_3
         have HC355_3 := m_ hl355_3
         clear hi355_3 hl355_3
         replace p355 := eq_true p355
         replace q355 := eq_true q355
         have ea_ := Option.some.inj (hx353_3.symm.trans hx355_3)
         injection ea_ with ea_ en_ ec_
         subst ea_
         subst ec_
         clear en_
         go_wp2
         repeat (go_quiet (fail); try go_wp2)
         go_meet
         case rel => exact ⟨_, (true), (by first | rfl | (simp; done) | (simp [*]; done)), H', ⟨by have := HK1.out; first | omega | exact Nat.le_refl _⟩, by repeat (first | exact Drawn0.refl _ | apply Drawn0.step)⟩
        rw [if_neg c8] at H
        have c8b0 : (((rd_T35 l0 x5_1).f0) == ((rd_T35 l1 x5_1).f0)) = false := beq_eq_false_iff_ne.mpr c8
        have c8b1 : (((rd_T35 l0 x5_1).f0) != ((rd_T35 l1 x5_1).f0)) = true := bne_iff_ne.mpr c8
        have H' := m_ H
        clear H
        have p352 : 0 ≤ (x5_1 : Int) := o1_ (by with_reducible assumption)
        have q352 : x5_1 < (l0.length : Int) := o1_ (by with_reducible assumption)
        obtain ⟨ad352, A352_3, c352_3, e352, hx352_0, hx352_1, hx352_2, hx352_3, hl352_3, hi352_3⟩ := at_T35 HR0.out x5_1 p352 q352
        cases e352
        have HR352_3 := m_ hi352_3
        have HC352_3 := m_ hl352_3
        clear hi352_3 hl352_3
        replace p352 := eq_true p352
        replace q352 := eq_true q352
        have p353 : 0 ≤ (x5_1 : Int) := o1_ (by with_reducible assumption)
        have q353 : x5_1 < (l1.length : Int) := o1_ (by with_reducible assumption)
        obtain ⟨ad353, A353_3, c353_3, e353, hx353_0, hx353_1, hx353_2, hx353_3, hl353_3, hi353_3⟩ := at_T35 HR1.out x5_1 p353 q353
        cases e353
        have HR353_3 := m_ hi353_3
        have HC353_3 := m_ hl353_3
        clear hi353_3 hl353_3
        replace p353 := eq_true p353
        replace q353 := eq_true q353
        go_wp2
        repeat (go_quiet (fail); try go_wp2)
        go_meet
        case rel => exact ⟨_, (true), (by first | rfl | (simp; done) | (simp [*]; done)), H', ⟨by have := HK1.out; first | omega | exact Nat.le_refl _⟩, by repeat (first | exact Drawn0.refl _ | apply Drawn0.step)⟩
       rw [if_neg c7] at H
       exact absurd H (by simp)
      rw [if_neg c6] at H
      exact absurd H (by simp)
     case rest =>
      clear HC5
      (try clear c1); (try clear p2); (try clear c3); (try clear c3b0); (try clear c3b1); (try clear c3b2); (try clear p3); (try clear q3); (try clear hx3); (try clear c4); (try clear c4b0); (try clear c6); (try clear c6b0); (try clear c7); (try clear c7b0); (try clear c8); (try clear c8b0); (try clear c8b1); (try clear c9); (try clear c9b0); (try clear c9b1); (try clear c10); (try clear c10b0); (try clear c10b1); (try clear c10b2); (try clear hx352_0); (try clear hx352_1); (try clear hx352_2); (try clear hx352_3); (try clear hx353_0); (try clear hx353_1); (try clear hx353_2); (try clear hx353_3); (try clear hx354_0); (try clear hx354_1); (try clear hx354_2); (try clear hx354_3); (try clear hx355_0); (try clear hx355_1); (try clear hx355_2); (try clear hx355_3); (try clear hx356_0); (try clear hx356_1); (try clear hx356_2); (try clear hx356_3); (try clear hx357_0); (try clear hx357_1); (try clear hx357_2); (try clear hx357_3); (try clear hx358_0); (try clear hx358_1); (try clear hx358_2); (try clear hx358_3); (try clear hx359_0); (try clear hx359_1); (try clear hx359_2); (try clear hx359_3); (try clear p2); (try clear p352); (try clear p353); (try clear p354); (try clear p355); (try clear p356); (try clear p357); (try clear p358); (try clear p359); (try clear q352); (try clear q353); (try clear q354); (try clear q355); (try clear q356); (try clear q357); (try clear q358); (try clear q359)
      obtain ⟨kq, x69_4, rfl, HA, HJ4, ⟨mc4, rfl⟩⟩ := hcut
      cases kq with
      | zero => exact absurd HA.out (by simp [jobshellref04_Same.j1])
      | succ kj4 =>
       have H := HA.out
       clear HA
       simp only [jobshellref04_Same.j1] at H
       by_cases c11 : x69_4 = true
       ·
        subst c11
        rw [if_pos rfl] at H
        obtain rfl := Option.some.inj H
        go_wp2
        repeat (go_quiet (fail); try go_wp2)
        go_ret
        exact ⟨by first | rfl | (simp; done) | (simp [*]; done), by repeat (first | exact Drawn0.refl _ | apply Drawn0.step)⟩
       ·
        replace c11 := Bool.eq_false_iff.mpr c11
        subst c11
        rw [if_neg (show ¬ (false = true) by decide)] at H
        have H' := m_ H
        clear H
        go_wp2
        repeat (go_quiet (fail); try go_wp2)
        go_loopg [6] kj4 (fun kq v6 w' => ∃ (x6_3 : Int), v6 = .int .i64 x6_3 ∧ Aside0 (jobshellref04_Same.l1 kq l0 l1 x5_1 x6_3 = some r) ∧ Aside0 (kq ≤ kj4) ∧ Drawn0 w w')
        case atStart => exact ⟨(0), (by first | rfl | (simp; done) | (simp [*]; done)), H', ⟨Nat.le_refl _⟩, by repeat (first | exact Drawn0.refl _ | apply Drawn0.step)⟩
        case round =>
         clear H'
         (try clear c1); (try clear p2); (try clear c3); (try clear c3b0); (try clear c3b1); (try clear c3b2); (try clear p3); (try clear q3); (try clear hx3); (try clear c4); (try clear c4b0); (try clear c6); (try clear c6b0); (try clear c7); (try clear c7b0); (try clear c8); (try clear c8b0); (try clear c8b1); (try clear c9); (try clear c9b0); (try clear c9b1); (try clear c10); (try clear c10b0); (try clear c10b1); (try clear c10b2); (try clear c11); (try clear hx352_0); (try clear hx352_1); (try clear hx352_2); (try clear hx352_3); (try clear hx353_0); (try clear hx353_1); (try clear hx353_2); (try clear hx353_3); (try clear hx354_0); (try clear hx354_1); (try clear hx354_2); (try clear hx354_3); (try clear hx355_0); (try clear hx355_1); (try clear hx355_2); (try clear hx355_3); (try clear hx356_0); (try clear hx356_1); (try clear hx356_2); (try clear hx356_3); (try clear hx357_0); (try clear hx357_1); (try clear hx357_2); (try clear hx357_3); (try clear hx358_0); (try clear hx358_1); (try clear hx358_2); (try clear hx358_3); (try clear hx359_0); (try clear hx359_1); (try clear hx359_2); (try clear hx359_3); (try clear p2); (try clear p3); (try clear p352); (try clear p353); (try clear p354); (try clear p355); (try clear p356); (try clear p357); (try clear p358); (try clear p359); (try clear q3); (try clear q352); (try clear q353); (try clear q354); (try clear q355); (try clear q356); (try clear q357); (try clear q358); (try clear q359)
         obtain ⟨x6_3, rfl, HA, HK3, ⟨m3, rfl⟩⟩ := hrel
         cases gk with
         | zero => exact absurd HA.out (by simp [jobshellref04_Same.l1])
         | succ k3 =>
          have H := HA.out
          clear HA
          simp only [jobshellref04_Same.l1] at H
          by_cases c12 : 0 ≤ x5_1
          ·
           rw [if_pos c12] at H
           have c12b0 : decide (0 ≤ x5_1) = true := decide_eq_true c12
           clear c12
           by_cases c13 : x5_1 < (l0.length : Int)
           ·
            rw [if_pos c13] at H
            have c13b0 : decide (x5_1 < (l0.length : Int)) = true := decide_eq_true c13
            clear c13
            by_cases c14 : x6_3 < (((rd_T35 l0 x5_1).f3).length : Int)
            ·
             rw [if_pos c14] at H
             have c14b0 : decide (x6_3 < (((rd_T35 l0 x5_1).f3).length : Int)) = true := decide_eq_true c14
             clear c14
             by_cases c15 : 0 ≤ x6_3
             ·
              rw [if_pos c15] at H
              have c15b0 : decide (0 ≤ x6_3) = true := decide_eq_true c15
              clear c15
              by_cases c16 : x5_1 < (l1.length : Int)
              ·
               rw [if_pos c16] at H
               have c16b0 : decide (x5_1 < (l1.length : Int)) = true := decide_eq_true c16
               clear c16
               by_cases c17 : x6_3 < (((rd_T35 l1 x5_1).f3).length : Int)
               ·
                rw [if_pos c17] at H
                have c17b0 : decide (x6_3 < (((rd_T35 l1 x5_1).f3).length : Int)) = true := decide_eq_true c17
                clear c17
                by_cases c18 : (!(((rd_T58 ((rd_T35 l0 x5_1).f3) x6_3).f0) == ((rd_T58 ((rd_T35 l1 x5_1).f3) x6_3).f0)) || (!(((rd_T58 ((rd_T35 l0 x5_1).f3) x6_3).f1) == ((rd_T58 ((rd_T35 l1 x5_1).f3) x6_3).f1)))) = true
                ·
                 rw [if_pos c18] at H
                 have c18b0 : (!(((rd_T58 ((rd_T35 l0 x5_1).f3) x6_3).f0) == ((rd_T58 ((rd_T35 l1 x5_1).f3) x6_3).f0)) || (!(((rd_T58 ((rd_T35 l0 x5_1).f3) x6_3).f1) == ((rd_T58 ((rd_T35 l1 x5_1).f3) x6_3).f1)))) = true := c18
                 clear c18
                 obtain rfl := Option.some.inj H
                 have p360 : 0 ≤ (x5_1 : Int) := o1_ (by with_reducible assumption)
                 have q360 : x5_1 < (l0.length : Int) := o1_ (by with_reducible assumption)
                 obtain ⟨ad360, A360_3, c360_3, e360, hx360_0, hx360_1, hx360_2, hx360_3, hl360_3, hi360_3⟩ := at_T35 HR0.out x5_1 p360 q360
                 cases e360
                 have HR360_3 := m_ hi360_3
                 have HC360_3 := m_ hl360_3
                 clear hi360_3 hl360_3
                 replace p360 := eq_true p360
                 replace q360 := eq_true q360
                 have p361 : 0 ≤ (x5_1 : Int) := o1_ (by with_reducible assumption)
                 have q361 : x5_1 < (l0.length : Int) := o1_ (by with_reducible assumption)
                 obtain ⟨ad361, A361_3, c361_3, e361, hx361_0, hx361_1, hx361_2, hx361_3, hl361_3, hi361_3⟩ := at_T35 HR0.out x5_1 p361 q361
                 obtain rfl : ad360 = ad361 := (by injection e361)
                 have HR361_3 := m_ hi361_3
                 have HC361_3 := m_ hl361_3
                 clear hi361_3 hl361_3
                 replace p361 := eq_true p361
                 replace q361 := eq_true q361
                 have ea_ := Option.some.inj (hx360_3.symm.trans hx361_3)
                 injection ea_ with ea_ en_ ec_
                 subst ea_
                 subst ec_
                 clear en_
                 have p362 : 0 ≤ (x6_3 : Int) := o1_ (by with_reducible assumption)
                 have q362 : x6_3 < (((rd_T35 l0 x5_1).f3).length : Int) := o1_ (by with_reducible assumption)
                 obtain ⟨ad362, e362, hx362_0, hx362_1⟩ := at_T58 HR361_3.out x6_3 p362 q362
                 cases e362
                 replace p362 := eq_true p362
                 replace q362 := eq_true q362
                 have p363 : 0 ≤ (x5_1 : Int) := o1_ (by with_reducible assumption)
                 have q363 : x5_1 < (l1.length : Int) := o1_ (by with_reducible assumption)
                 obtain ⟨ad363, A363_3, c363_3, e363, hx363_0, hx363_1, hx363_2, hx363_3, hl363_3, hi363_3⟩ := at_T35 HR1.out x5_1 p363 q363
                 cases e363
                 have HR363_3 := m_ hi363_3
                 have HC363_3 := m_ hl363_3
                 clear hi363_3 hl363_3
                 replace p363 := eq_true p363
                 replace q363 := eq_true q363
                 have p364 : 0 ≤ (x6_3 : Int) := o1_ (by with_reducible assumption)
                 have q364 : x6_3 < (((rd_T35 l1 x5_1).f3).length : Int) := o1_ (by with_reducible assumption)
                 obtain ⟨ad364, e364, hx364_0, hx364_1⟩ := at_T58 HR363_3.out x6_3 p364 q364
                 cases e364
                 replace p364 := eq_true p364
                 replace q364 := eq_true q364
                 go_wp2
                 repeat (go_quiet (fail); try go_wp2)
                 go_ret
                 exact ⟨by first | rfl | (simp; done) | (simp [*]; done), by repeat (first | exact Drawn0.refl _ | apply Drawn0.step)⟩
                rw [if_neg c18] at H
                have c18b0 : (!(((rd_T58 ((rd_T35 l0 x5_1).f3) x6_3).f0) == ((rd_T58 ((rd_T35 l1 x5_1).f3) x6_3).f0)) || (!(((rd_T58 ((rd_T35 l0 x5_1).f3) x6_3).f1) == ((rd_T58 ((rd_T35 l1 x5_1).f3) x6_3).f1)))) = false := by simpa using c18
                clear c18
                have H' := m_ H
                clear H
                have p360 : 0 ≤ (x5_1 : Int) := o1_ (by with_reducible assumption)
                have q360 : x5_1 < (l0.length : Int) := o1_ (by with_reducible assumption)
                obtain ⟨ad360, A360_3, c360_3, e360, hx360_0, hx360_1, hx360_2, hx360_3, hl360_3, hi360_3⟩ := at_T35 HR0.out x5_1 p360 q360
                cases e360
                have HR360_3 := m_ hi360_3
                have HC360_3 := m_ hl360_3
                clear hi360_3 hl360_3
                replace p360 := eq_true p360
                replace q360 := eq_true q360
                have p361 : 0 ≤ (x5_1 : Int) := o1_ (by with_reducible assumption)
                have q361 : x5_1 < (l0.length : Int) := o1_ (by with_reducible assumption)
                obtain ⟨ad361, A361_3, c361_3, e361, hx361_0, hx361_1, hx361_2, hx361_3, hl361_3, hi361_3⟩ := at_T35 HR0.out x5_1 p361 q361
                obtain rfl : ad360 = ad361 := (by injection e361)
                have HR361_3 := m_ hi361_3
                have HC361_3 := m_ hl361_3
                clear hi361_3 hl361_3
                replace p361 := eq_true p361
                replace q361 := eq_true q361
                have ea_ := Option.some.inj (hx360_3.symm.trans hx361_3)
                injection ea_ with ea_ en_ ec_
                subst ea_
                subst ec_
                clear en_
                have p362 : 0 ≤ (x6_3 : Int) := o1_ (by with_reducible assumption)
                have q362 : x6_3 < (((rd_T35 l0 x5_1).f3).length : Int) := o1_ (by with_reducible assumption)
                obtain ⟨ad362, e362, hx362_0, hx362_1⟩ := at_T58 HR361_3.out x6_3 p362 q362
                cases e362
                replace p362 := eq_true p362
                replace q362 := eq_true q362
                have p363 : 0 ≤ (x5_1 : Int) := o1_ (by with_reducible assumption)
                have q363 : x5_1 < (l1.length : Int) := o1_ (by with_reducible assumption)
                obtain ⟨ad363, A363_3, c363_3, e363, hx363_0, hx363_1, hx363_2, hx363_3, hl363_3, hi363_3⟩ := at_T35 HR1.out x5_1 p363 q363
                cases e363
                have HR363_3 := m_ hi363_3
                have HC363_3 := m_ hl363_3
                clear hi363_3 hl363_3
                replace p363 := eq_true p363
                replace q363 := eq_true q363
                have p364 : 0 ≤ (x6_3 : Int) := o1_ (by with_reducible assumption)
                have q364 : x6_3 < (((rd_T35 l1 x5_1).f3).length : Int) := o1_ (by with_reducible assumption)
                obtain ⟨ad364, e364, hx364_0, hx364_1⟩ := at_T58 HR363_3.out x6_3 p364 q364
                cases e364
                replace p364 := eq_true p364
                replace q364 := eq_true q364
                go_wp2
                repeat (go_quiet (fail); try go_wp2)
                go_roundg k3
                case measure => have := HK1.out; have := HJ4.out; have := HK3.out; omega
                case rel => exact ⟨(wrap64 (x6_3 + 1)), (by first | rfl | (simp; done) | (simp [*]; done)), H', ⟨by have := HK1.out; have := HJ4.out; have := HK3.out; omega⟩, by repeat (first | exact Drawn0.refl _ | apply Drawn0.step)⟩
               rw [if_neg c17] at H
               exact absurd H (by simp)
              rw [if_neg c16] at H
              exact absurd H (by simp)
             rw [if_neg c15] at H
             exact absurd H (by simp)
            rw [if_neg c14] at H
            have c14b0 : decide (x6_3 < (((rd_T35 l0 x5_1).f3).length : Int)) = false := decide_eq_false c14
            clear c14
            have H' := m_ H
            clear H
            have p360 : 0 ≤ (x5_1 : Int) := o1_ (by with_reducible assumption)
            have q360 : x5_1 < (l0.length : Int) := o1_ (by with_reducible assumption)
            obtain ⟨ad360, A360_3, c360_3, e360, hx360_0, hx360_1, hx360_2, hx360_3, hl360_3, hi360_3⟩ := at_T35 HR0.out x5_1 p360 q360
            cases e360
            have HR360_3 := m_ hi360_3
            have HC360_3 := m_ hl360_3
            clear hi360_3 hl360_3
            replace p360 := eq_true p360
            replace q360 := eq_true q360
            go_wp2
            repeat (go_quiet (fail); try go_wp2)
            go_roundg k3
            case measure => have := HK1.out; have := HJ4.out; have := HK3.out; omega
            case rel => exact ⟨(wrap64 (x5_1 + 1)), (by first | rfl | (simp; done) | (simp [*]; done)), H', ⟨by have := HK1.out; have := HJ4.out; have := HK3.out; omega⟩, by repeat (first | exact Drawn0.refl _ | apply Drawn0.step)⟩
           rw [if_neg c13] at H
           exact absurd H (by simp)
          rw [if_neg c12] at H
          exact absurd H (by simp)
    rw [if_neg c4] at H
    have c4b0 : decide (x5_1 < (l0.length : Int)) = false := decide_eq_false c4
    clear c4
    obtain rfl := Option.some.inj H
    go_wp2
    repeat (go_quiet (fail); try go_wp2)
    go_ret
    exact ⟨by first | rfl | (simp; done) | (simp [*]; done), by repeat (first | exact Drawn0.refl _ | apply Drawn0.step)⟩
 rw [if_neg c3] at H
 have c3b0 : ((l0.length : Int) == (l1.length : Int)) = false := beq_eq_false_iff_ne.mpr c3
 have c3b1 : ((l0.length : Int) != (l1.length : Int)) = true := bne_iff_ne.mpr c3
 have c3b2 : (l0.length == l1.length) = false := by first | simpa using c3 | (simp at c3 ⊢; omega)
 obtain rfl := Option.some.inj H
 go_enter Try.func19, Try.ntmps19
 go_wp2
 repeat (go_quiet (fail); try go_wp2)
 go_ret
 exact ⟨by first | rfl | (simp; done) | (simp [*]; done), by repeat (first | exact Drawn0.refl _ | apply Drawn0.step)⟩
end Go.Proofs.Ytbekhjcnmifnnaa.Q
