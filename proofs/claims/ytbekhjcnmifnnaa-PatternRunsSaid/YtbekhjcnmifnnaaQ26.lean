import Derived.Test.YtbekhjcnmifnnaaQ0
set_option linter.unusedVariables false
set_option linter.unusedSimpArgs false
namespace Go.Proofs.Ytbekhjcnmifnnaa.Q
open Go.RowKit Go.Proofs.YtbekhjcnmifnnaaW.PrintWords Go.Proofs.YtbekhjcnmifnnaaW.PrintLast Go.Proofs.YtbekhjcnmifnnaaW.PrintMore
mutual
def jobshellref04_Few.l0 : Nat → List (S35) → Int → Int → Option (Bool)
 | 0, _, _, _ => none
 | k + 1, x0, x1, x5 => if x5 < (x0.length : Int) then (jobshellref04_Few.j1 k x0 x1 x5 (decide (x5 ≤ x1))) else (jobshellref04_Few.j1 k x0 x1 x5 false)
def jobshellref04_Few.j1 : Nat → List (S35) → Int → Int → Bool → Option (Bool)
 | 0, _, _, _, _ => none
 | k + 1, x0, x1, x5, x14 => if x14 = true then (if 0 ≤ x5 then (if x5 < (x0.length : Int) then (if (((rd_T35 x0 x5).f3).length : Int) > 40 then (some false) else (if (((rd_T35 x0 x5).f1).size : Int) > 40 then (some false) else (jobshellref04_Few.l0 k x0 x1 (wrap64 (x5 + 1))))) else (none)) else (none)) else (some (decide ((x0.length : Int) ≤ x1)))
end
def jobshellref04_Few.f (k : Nat) (l0 : List (S35)) (a1 : Int) : Option (Bool) := jobshellref04_Few.l0 k l0 a1 0
set_option maxHeartbeats 8000000 in
set_option maxRecDepth 100000 in
theorem jobshellref04_Few.calls (k : Nat) (A0 : Option Addr) (c0 : Nat) (l0 : List (S35)) (a1 : Int) (r : Bool) (w : World) (hr0 : Kd.C k35 w A0 l0.length l0) (hc0 : l0.length ≤ c0) (h : jobshellref04_Few.f k l0 a1 = some r) :
 Calls Try.prog 16 #[.slice A0 l0.length c0, .int .i64 a1] w fun e w' => e = .returned (.bool r) ∧ Drawn0 w w' := by
 have HR0 := m_ hr0
 have HC0 := m_ hc0
 clear hr0 hc0
 have H : (jobshellref04_Few.l0 k l0 a1 0) = some r := h
 clear h
 have H' := m_ H
 clear H
 go_enter Try.func16, Try.ntmps16
 go_wp2
 go_loopg [5] k (fun kq v5 w' => ∃ (x5_1 : Int), v5 = .int .i64 x5_1 ∧ Aside0 (jobshellref04_Few.l0 kq l0 a1 x5_1 = some r) ∧ Aside0 (kq ≤ k) ∧ Drawn0 w w')
 case atStart => exact ⟨(0), (by first | rfl | (simp; done) | (simp [*]; done)), H', ⟨Nat.le_refl _⟩, by repeat (first | exact Drawn0.refl _ | apply Drawn0.step)⟩
 case round =>
  clear H'
  (try clear c1); (try clear p2)
  obtain ⟨x5_1, rfl, HA, HK1, ⟨m1, rfl⟩⟩ := hrel
  cases gk with
  | zero => exact absurd HA.out (by simp [jobshellref04_Few.l0])
  | succ k1 =>
   have H := HA.out
   clear HA
   simp only [jobshellref04_Few.l0] at H
   have HC3 := m_ H
   clear H
   go_upto_region 2 with (fail)
   go_cut [14] (fun v14 wc => ∃ (kq : Nat) (x14_2 : Bool), v14 = .bool x14_2 ∧ Aside0 (jobshellref04_Few.j1 kq l0 a1 x5_1 x14_2 = some r) ∧ Aside0 (kq ≤ k1) ∧ Drawn0 w wc)
   case first =>
    have H := HC3.out
    clear HC3
    by_cases c4 : x5_1 < (l0.length : Int)
    ·
     rw [if_pos c4] at H
     have c4b0 : decide (x5_1 < (l0.length : Int)) = true := decide_eq_true c4
     clear c4
     (first | rw [c4b0] | (simp only [i64_w, i32_w]; rw [c4b0]) | skip)
     have H' := m_ H
     clear H
     go_wp2
     go_meet
     case rel => exact ⟨_, (decide (x5_1 ≤ a1)), (by first | rfl | (simp; done) | (simp [*]; done)), H', ⟨by have := HK1.out; first | omega | exact Nat.le_refl _⟩, by repeat (first | exact Drawn0.refl _ | apply Drawn0.step)⟩
    rw [if_neg c4] at H
    have c4b0 : decide (x5_1 < (l0.length : Int)) = false := decide_eq_false c4
    clear c4
    (first | rw [c4b0] | (simp only [i64_w, i32_w]; rw [c4b0]) | skip)
    have H' := m_ H
    clear H
    go_wp2
    go_meet
    case rel => exact ⟨_, (false), (by first | rfl | (simp; done) | (simp [*]; done)), H', ⟨by have := HK1.out; first | omega | exact Nat.le_refl _⟩, by repeat (first | exact Drawn0.refl _ | apply Drawn0.step)⟩
   case rest =>
    clear HC3
    (try clear c1); (try clear p2); (try clear c4); (try clear c4b0); (try clear p2)
    obtain ⟨kq, x14_2, rfl, HA, HJ2, ⟨mc2, rfl⟩⟩ := hcut
    cases kq with
    | zero => exact absurd HA.out (by simp [jobshellref04_Few.j1])
    | succ kj2 =>
     have H := HA.out
     clear HA
     simp only [jobshellref04_Few.j1] at H
     by_cases c5 : x14_2 = true
     ·
      subst c5
      rw [if_pos rfl] at H
      by_cases c6 : 0 ≤ x5_1
      ·
       rw [if_pos c6] at H
       have c6b0 : decide (0 ≤ x5_1) = true := decide_eq_true c6
       clear c6
       by_cases c7 : x5_1 < (l0.length : Int)
       ·
        rw [if_pos c7] at H
        have c7b0 : decide (x5_1 < (l0.length : Int)) = true := decide_eq_true c7
        clear c7
        by_cases c8 : (((rd_T35 l0 x5_1).f3).length : Int) > 40
        ·
         rw [if_pos c8] at H
         have c8b0 : decide (40 < (((rd_T35 l0 x5_1).f3).length : Int)) = true := decide_eq_true c8
         have c8b1 : decide (40 < ((rd_T35 l0 x5_1).f3).length) = true := decide_eq_true (by omega)
         clear c8
         obtain rfl := Option.some.inj H
         have p328 : 0 ≤ (x5_1 : Int) := o1_ (by with_reducible assumption)
         have q328 : x5_1 < (l0.length : Int) := o1_ (by with_reducible assumption)
         obtain ⟨ad328, A328_3, c328_3, e328, hx328_0, hx328_1, hx328_2, hx328_3, hl328_3, hi328_3⟩ := at_T35 HR0.out x5_1 p328 q328
         cases e328
         have HR328_3 := m_ hi328_3
         have HC328_3 := m_ hl328_3
         clear hi328_3 hl328_3
         replace p328 := eq_true p328
         replace q328 := eq_true q328
         go_wp2
         go_ret
         exact ⟨by first | rfl | (simp; done) | (simp [*]; done), by repeat (first | exact Drawn0.refl _ | apply Drawn0.step)⟩
        rw [if_neg c8] at H
        have c8b0 : decide (40 < (((rd_T35 l0 x5_1).f3).length : Int)) = false := decide_eq_false c8
        have c8b1 : decide (40 < ((rd_T35 l0 x5_1).f3).length) = false := decide_eq_false (by omega)
        clear c8
        by_cases c9 : (((rd_T35 l0 x5_1).f1).size : Int) > 40
        ·
         rw [if_pos c9] at H
         have c9b0 : decide (40 < (((rd_T35 l0 x5_1).f1).size : Int)) = true := decide_eq_true c9
         have c9b1 : decide (40 < ((rd_T35 l0 x5_1).f1).size) = true := decide_eq_true (by omega)
         clear c9
         obtain rfl := Option.some.inj H
         have p328 : 0 ≤ (x5_1 : Int) := o1_ (by with_reducible assumption)
         have q328 : x5_1 < (l0.length : Int) := o1_ (by with_reducible assumption)
         obtain ⟨ad328, A328_3, c328_3, e328, hx328_0, hx328_1, hx328_2, hx328_3, hl328_3, hi328_3⟩ := at_T35 HR0.out x5_1 p328 q328
         cases e328
         have HR328_3 := m_ hi328_3
         have HC328_3 := m_ hl328_3
         clear hi328_3 hl328_3
         replace p328 := eq_true p328
         replace q328 := eq_true q328
         have p329 : 0 ≤ (x5_1 : Int) := o1_ (by with_reducible assumption)
         have q329 : x5_1 < (l0.length : Int) := o1_ (by with_reducible assumption)
         obtain ⟨ad329, A329_3, c329_3, e329, hx329_0, hx329_1, hx329_2, hx329_3, hl329_3, hi329_3⟩ := at_T35 HR0.out x5_1 p329 q329
         obtain rfl : ad328 = ad329 := (by injection e329)
         have HR329_3 := m_ hi329_3
         have HC329_3 := m_ hl329_3
         clear hi329_3 hl329_3
         replace p329 := eq_true p329
         replace q329 := eq_true q329
         have ea_ := Option.some.inj (hx328_3.symm.trans hx329_3)
         injection ea_ with ea_ en_ ec_
         subst ea_
         subst ec_
         clear en_
         go_wp2
         go_ret
         exact ⟨by first | rfl | (simp; done) | (simp [*]; done), by repeat (first | exact Drawn0.refl _ | apply Drawn0.step)⟩
        rw [if_neg c9] at H
        have c9b0 : decide (40 < (((rd_T35 l0 x5_1).f1).size : Int)) = false := decide_eq_false c9
        have c9b1 : decide (40 < ((rd_T35 l0 x5_1).f1).size) = false := decide_eq_false (by omega)
        clear c9
        have H' := m_ H
        clear H
        have p328 : 0 ≤ (x5_1 : Int) := o1_ (by with_reducible assumption)
        have q328 : x5_1 < (l0.length : Int) := o1_ (by with_reducible assumption)
        obtain ⟨ad328, A328_3, c328_3, e328, hx328_0, hx328_1, hx328_2, hx328_3, hl328_3, hi328_3⟩ := at_T35 HR0.out x5_1 p328 q328
        cases e328
        have HR328_3 := m_ hi328_3
        have HC328_3 := m_ hl328_3
        clear hi328_3 hl328_3
        replace p328 := eq_true p328
        replace q328 := eq_true q328
        have p329 : 0 ≤ (x5_1 : Int) := o1_ (by with_reducible assumption)
        have q329 : x5_1 < (l0.length : Int) := o1_ (by with_reducible assumption)
        obtain ⟨ad329, A329_3, c329_3, e329, hx329_0, hx329_1, hx329_2, hx329_3, hl329_3, hi329_3⟩ := at_T35 HR0.out x5_1 p329 q329
        obtain rfl : ad328 = ad329 := (by injection e329)
        have HR329_3 := m_ hi329_3
        have HC329_3 := m_ hl329_3
        clear hi329_3 hl329_3
        replace p329 := eq_true p329
        replace q329 := eq_true q329
        have ea_ := Option.some.inj (hx328_3.symm.trans hx329_3)
        injection ea_ with ea_ en_ ec_
        subst ea_
        subst ec_
        clear en_
        go_wp2
        go_roundg kj2
        case measure => have := HK1.out; have := HJ2.out; omega
        case rel => exact ⟨(wrap64 (x5_1 + 1)), (by first | rfl | (simp; done) | (simp [*]; done)), H', ⟨by have := HK1.out; have := HJ2.out; omega⟩, by repeat (first | exact Drawn0.refl _ | apply Drawn0.step)⟩
       rw [if_neg c7] at H
       exact absurd H (by simp)
      rw [if_neg c6] at H
      exact absurd H (by simp)
     ·
      replace c5 := Bool.eq_false_iff.mpr c5
      subst c5
      rw [if_neg (show ¬ (false = true) by decide)] at H
      obtain rfl := Option.some.inj H
      go_wp2
      go_ret
      exact ⟨by first | rfl | (simp; done) | (simp [*]; done), by repeat (first | exact Drawn0.refl _ | apply Drawn0.step)⟩
end Go.Proofs.Ytbekhjcnmifnnaa.Q
