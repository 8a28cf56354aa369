import Derived.Test.YtbekhjcnmifnnaaQ0
set_option linter.unusedVariables false
set_option linter.unusedSimpArgs false
namespace Go.Proofs.Ytbekhjcnmifnnaa.Q
open Go.RowKit Go.Proofs.YtbekhjcnmifnnaaW.PrintWords Go.Proofs.YtbekhjcnmifnnaaW.PrintLast Go.Proofs.YtbekhjcnmifnnaaW.PrintMore
mutual
def jobshellref04_elements.l0 : Nat → List (S47) → List (S65) → Int → Option ((List (S65)))
 | 0, _, _, _ => none
 | k + 1, x0, x3, x4 => if x4 < (x0.length : Int) then (if 0 ≤ x4 then (if ((rd_T47 x0 x4).f1) = 0 then (jobshellref04_elements.j1 k x0 x3 x4 false) else (if ((rd_T47 x0 x4).f1) = 1 then (jobshellref04_elements.j1 k x0 x3 x4 false) else (jobshellref04_elements.j1 k x0 x3 x4 (((rd_T47 x0 x4).f1) != 2)))) else (none)) else (some x3)
def jobshellref04_elements.j1 : Nat → List (S47) → List (S65) → Int → Bool → Option ((List (S65)))
 | 0, _, _, _, _ => none
 | k + 1, x0, x3, x4, x33 => if x33 = true then (jobshellref04_elements.l0 k x0 x3 (wrap64 (x4 + 1))) else (jobshellref04_elements.l1 k x0 x3 x4 0)
def jobshellref04_elements.l1 : Nat → List (S47) → List (S65) → Int → Int → Option ((List (S65)))
 | 0, _, _, _, _ => none
 | k + 1, x0, x3, x4, x5 => if 0 ≤ x4 then (if x4 < (x0.length : Int) then (if x5 < (((rd_T47 x0 x4).f0).size : Int) then (if 0 ≤ x5 then (if x3.length < 70368744177664 then (jobshellref04_elements.l1 k x0 (x3 ++ [(⟨bt ((rd_T47 x0 x4).f0) x5, (((rd_T47 x0 x4).f1) != 1)⟩ : S65)]) x4 (wrap64 (x5 + 1))) else (none)) else (none)) else (jobshellref04_elements.l0 k x0 x3 (wrap64 (x4 + 1)))) else (none)) else (none)
end
def jobshellref04_elements.f (k : Nat) (l0 : List (S47)) : Option ((List (S65))) := jobshellref04_elements.l0 k l0 ([] : List (S65)) 0
def jobshellref04_elements.T9 : Bool × List (List Nat × List Nat) := (true, [([], []), ([], []), ([], []), ([1, 2], [1, 2]), ([3], [3]), ([4], [4]), ([], []), ([5, 6], [5, 6]), ([], []), ([], []), ([8, 9], [8, 9]), ([10], [10]), ([11], [11]), ([12], [12]), ([7, 13], [7, 13]), ([14], [14]), ([0, 15], [0, 15]), ([16, 16, 0, 1, 2, 3, 4, 5, 6, 7, 8, 9, 10, 11, 12, 13, 14, 15, 16], [0, 16])])
def jobshellref04_elements.B9 : List Nat := [0, 0, 0, 6, 14, 30, 0, 126, 0, 0, 768, 1792, 3840, 7936, 16382, 32766, 65535, 131071]
theorem jobshellref04_elements.tab9 : rtab .any (opsOf Try.f38 9) = jobshellref04_elements.T9 := by kernel_rfl
theorem jobshellref04_elements.bits9 : waitsOk jobshellref04_elements.T9.2 jobshellref04_elements.B9 = true := by kernel_rfl
set_option maxHeartbeats 8000000 in
set_option maxRecDepth 100000 in
theorem jobshellref04_elements.calls (k : Nat) (A0 : Option Addr) (c0 : Nat) (l0 : List (S47)) (r : List (S65)) (w : World) (hr0 : Kd.C k47 w A0 l0.length l0) (hc0 : l0.length ≤ c0) (h : jobshellref04_elements.f k l0 = some r) :
 Calls Try.prog 38 #[.slice A0 l0.length c0] w fun e w' => ∃ v0_ : Value, e = .returned (v0_) ∧ Kd.R k65 65 w' w.heap.size (fun _ => True) v0_ r ∧ Below w.heap.size w w' := by
 have hu65 := Try.underlying65
 have HR0 := m_ hr0
 have HC0 := m_ hc0
 clear hr0 hc0
 have HB := m_ (Below.refl w.heap.size w)
 have H : (jobshellref04_elements.l0 k l0 ([] : List (S65)) 0) = some r := h
 clear h
 have H' := m_ H
 clear H
 go_enter Try.func38, Try.ntmps38
 go_wp2
 go_loopg [3, 4] k (fun kq v3 v4 w' => ∃ (x3_1 : List (S65)) (x4_1 : Int), v4 = .int .i64 x4_1 ∧ Aside0 (jobshellref04_elements.l0 kq l0 x3_1 x4_1 = some r) ∧ Aside0 (kq ≤ k) ∧ Aside0 (Kd.R k65 65 w' w.heap.size (fun _ => True) v3 x3_1) ∧ Aside0 (Below w.heap.size w w'))
 case atStart => exact ⟨(([] : List (S65))), (0), (by first | rfl | (simp; done) | (simp [*]; done)), H', ⟨Nat.le_refl _⟩, ⟨by first | exact Kd.R_nil _ _ _ _ _ | exact Kd.N_nil _ _ _ _ _ | exact Kd.V_nil _ _ _ _ _ | exact Kd.Q_nil _ _ _ _ _ | exact Kd.S_nil _ _ _ _ _⟩, ⟨by repeat (with_reducible first | exact HB.out | apply l1_ | apply l2_ | apply l3_)⟩⟩
 case round =>
  clear H'
  obtain ⟨x3_1, x4_1, rfl, HA, HK1, HO_3, HB⟩ := hrel
  cases gk with
  | zero => exact absurd HA.out (by simp [jobshellref04_elements.l0])
  | succ k1 =>
   have H := HA.out
   clear HA
   simp only [jobshellref04_elements.l0] at H
   by_cases c2 : x4_1 < (l0.length : Int)
   ·
    rw [if_pos c2] at H
    have c2b0 : decide (x4_1 < (l0.length : Int)) = true := decide_eq_true c2
    clear c2
    have HC3 := m_ H
    clear H
    go_upto_region 5 with (fail)
    go_cut [33] (fun v33 wc => ∃ (kq : Nat) (x33_2 : Bool), v33 = .bool x33_2 ∧ Aside0 (jobshellref04_elements.j1 kq l0 x3_1 x4_1 x33_2 = some r) ∧ Aside0 (kq ≤ k1) ∧ Aside0 (Kd.R k65 65 wc w.heap.size (fun _ => True) u3 x3_1) ∧ Aside0 (Below w.heap.size w wc))
    case first =>
     have H := HC3.out
     clear HC3
     by_cases c4 : 0 ≤ x4_1
     ·
      rw [if_pos c4] at H
      have c4b0 : decide (0 ≤ x4_1) = true := decide_eq_true c4
      clear c4
      (first | rw [c4b0] | (simp only [i64_w, i32_w]; rw [c4b0]) | skip)
      by_cases c5 : ((rd_T47 l0 x4_1).f1) = 0
      ·
       rw [if_pos c5] at H
       have c5b0 : (((rd_T47 l0 x4_1).f1) == 0) = true := beq_iff_eq.mpr c5
       have c5b1 : (((rd_T47 l0 x4_1).f1) != 0) = false := bne_eq_false_iff_eq.mpr c5
       clear c5
       have H' := m_ H
       clear H
       have p365 : 0 ≤ (x4_1 : Int) := o1_ (by with_reducible assumption)
       have q365 : x4_1 < (l0.length : Int) := o1_ (by with_reducible assumption)
       obtain ⟨ad365, e365, hx365_0, hx365_1⟩ := at_T47 HR0.out x4_1 p365 q365
       cases e365
       replace hx365_0 := (HB.out.cell (c1_ w _ hx365_0)).trans hx365_0
       replace hx365_1 := (HB.out.cell (c1_ w _ hx365_1)).trans hx365_1
       replace p365 := eq_true p365
       replace q365 := eq_true q365
       go_wp2
       go_meet
       case rel => exact ⟨_, (false), (by first | rfl | (simp; done) | (simp [*]; done)), H', ⟨by have := HK1.out; first | omega | exact Nat.le_refl _⟩, ⟨by (with_reducible repeat (first | apply r1_ | apply r2_ | apply r3_)); exact HO_3.out⟩, ⟨by repeat (with_reducible first | exact HB.out | apply l1_ | apply l2_ | apply l3_)⟩⟩
      rw [if_neg c5] at H
      have c5b0 : (((rd_T47 l0 x4_1).f1) == 0) = false := beq_eq_false_iff_ne.mpr c5
      have c5b1 : (((rd_T47 l0 x4_1).f1) != 0) = true := bne_iff_ne.mpr c5
      by_cases c6 : ((rd_T47 l0 x4_1).f1) = 1
      ·
       rw [if_pos c6] at H
       have c6b0 : (((rd_T47 l0 x4_1).f1) == 1) = true := beq_iff_eq.mpr c6
       have c6b1 : (((rd_T47 l0 x4_1).f1) != 1) = false := bne_eq_false_iff_eq.mpr c6
       clear c6
       have H' := m_ H
       clear H
       have p365 : 0 ≤ (x4_1 : Int) := o1_ (by with_reducible assumption)
       have q365 : x4_1 < (l0.length : Int) := o1_ (by with_reducible assumption)
       obtain ⟨ad365, e365, hx365_0, hx365_1⟩ := at_T47 HR0.out x4_1 p365 q365
       cases e365
       replace hx365_0 := (HB.out.cell (c1_ w _ hx365_0)).trans hx365_0
       replace hx365_1 := (HB.out.cell (c1_ w _ hx365_1)).trans hx365_1
       replace p365 := eq_true p365
       replace q365 := eq_true q365
       have p366 : 0 ≤ (x4_1 : Int) := o1_ (by with_reducible assumption)
       have q366 : x4_1 < (l0.length : Int) := o1_ (by with_reducible assumption)
       obtain ⟨ad366, e366, hx366_0, hx366_1⟩ := at_T47 HR0.out x4_1 p366 q366
       obtain rfl : ad365 = ad366 := (by injection e366)
       replace hx366_0 := (HB.out.cell (c1_ w _ hx366_0)).trans hx366_0
       replace hx366_1 := (HB.out.cell (c1_ w _ hx366_1)).trans hx366_1
       replace p366 := eq_true p366
       replace q366 := eq_true q366
       go_wp2
       go_meet
       case rel => exact ⟨_, (false), (by first | rfl | (simp; done) | (simp [*]; done)), H', ⟨by have := HK1.out; first | omega | exact Nat.le_refl _⟩, ⟨by (with_reducible repeat (first | apply r1_ | apply r2_ | apply r3_)); exact HO_3.out⟩, ⟨by repeat (with_reducible first | exact HB.out | apply l1_ | apply l2_ | apply l3_)⟩⟩
      rw [if_neg c6] at H
      have c6b0 : (((rd_T47 l0 x4_1).f1) == 1) = false := beq_eq_false_iff_ne.mpr c6
      have c6b1 : (((rd_T47 l0 x4_1).f1) != 1) = true := bne_iff_ne.mpr c6
      have H' := m_ H
      clear H
      have p365 : 0 ≤ (x4_1 : Int) := o1_ (by with_reducible assumption)
      have q365 : x4_1 < (l0.length : Int) := o1_ (by with_reducible assumption)
      obtain ⟨ad365, e365, hx365_0, hx365_1⟩ := at_T47 HR0.out x4_1 p365 q365
      cases e365
      replace hx365_0 := (HB.out.cell (c1_ w _ hx365_0)).trans hx365_0
      replace hx365_1 := (HB.out.cell (c1_ w _ hx365_1)).trans hx365_1
      replace p365 := eq_true p365
      replace q365 := eq_true q365
      have p366 : 0 ≤ (x4_1 : Int) := o1_ (by with_reducible assumption)
      have q366 : x4_1 < (l0.length : Int) := o1_ (by with_reducible assumption)
      obtain ⟨ad366, e366, hx366_0, hx366_1⟩ := at_T47 HR0.out x4_1 p366 q366
      obtain rfl : ad365 = ad366 := (by injection e366)
      replace hx366_0 := (HB.out.cell (c1_ w _ hx366_0)).trans hx366_0
      replace hx366_1 := (HB.out.cell (c1_ w _ hx366_1)).trans hx366_1
      replace p366 := eq_true p366
      replace q366 := eq_true q366
      have p367 : 0 ≤ (x4_1 : Int) := o1_ (by with_reducible assumption)
      have q367 : x4_1 < (l0.length : Int) := o1_ (by with_reducible assumption)
      obtain ⟨ad367, e367, hx367_0, hx367_1⟩ := at_T47 HR0.out x4_1 p367 q367
      obtain rfl : ad365 = ad367 := (by injection e367)
      replace hx367_0 := (HB.out.cell (c1_ w _ hx367_0)).trans hx367_0
      replace hx367_1 := (HB.out.cell (c1_ w _ hx367_1)).trans hx367_1
      replace p367 := eq_true p367
      replace q367 := eq_true q367
      go_wp2
      go_meet
      case rel => exact ⟨_, ((((rd_T47 l0 x4_1).f1) != 2)), (by first | rfl | (simp; done) | (simp [*]; done)), H', ⟨by have := HK1.out; first | omega | exact Nat.le_refl _⟩, ⟨by (with_reducible repeat (first | apply r1_ | apply r2_ | apply r3_)); exact HO_3.out⟩, ⟨by repeat (with_reducible first | exact HB.out | apply l1_ | apply l2_ | apply l3_)⟩⟩
     rw [if_neg c4] at H
     exact absurd H (by simp)
    case rest =>
     clear HC3
     (try clear c2); (try clear c2b0); (try clear p2); (try clear c3); (try clear p3); (try clear q3); (try clear hx3); (try clear c4); (try clear c4b0); (try clear c5); (try clear c5b0); (try clear c5b1); (try clear c6); (try clear c6b0); (try clear c6b1); (try clear hx365_0); (try clear hx365_1); (try clear hx366_0); (try clear hx366_1); (try clear hx367_0); (try clear hx367_1); (try clear p365); (try clear p366); (try clear p367); (try clear q365); (try clear q366); (try clear q367)
     obtain ⟨kq, x33_2, rfl, HA, HJ2, HO_3, HB⟩ := hcut
     cases kq with
     | zero => exact absurd HA.out (by simp [jobshellref04_elements.j1])
     | succ kj2 =>
      have H := HA.out
      clear HA
      simp only [jobshellref04_elements.j1] at H
      by_cases c7 : x33_2 = true
      ·
       subst c7
       rw [if_pos rfl] at H
       have H' := m_ H
       clear H
       go_wp2
       go_roundg kj2
       case measure => have := HK1.out; have := HJ2.out; omega
       case rel => exact ⟨(x3_1), (wrap64 (x4_1 + 1)), (by first | rfl | (simp; done) | (simp [*]; done)), H', ⟨by have := HK1.out; have := HJ2.out; omega⟩, ⟨by (with_reducible repeat (first | apply r1_ | apply r2_ | apply r3_)); exact HO_3.out⟩, ⟨by repeat (with_reducible first | exact HB.out | apply l1_ | apply l2_ | apply l3_)⟩⟩
      ·
       replace c7 := Bool.eq_false_iff.mpr c7
       subst c7
       rw [if_neg (show ¬ (false = true) by decide)] at H
       have H' := m_ H
       clear H
       go_wp2
       go_loopg [3, 5] kj2 (fun kq v3 v5 w' => ∃ (x3_3 : List (S65)) (x5_3 : Int), v5 = .int .i64 x5_3 ∧ Aside0 (jobshellref04_elements.l1 kq l0 x3_3 x4_1 x5_3 = some r) ∧ Aside0 (kq ≤ kj2) ∧ Aside0 (Kd.R k65 65 w' w.heap.size (fun _ => True) v3 x3_3) ∧ Aside0 (Below w.heap.size w w'))
       case atStart => exact ⟨(x3_1), (0), (by first | rfl | (simp; done) | (simp [*]; done)), H', ⟨Nat.le_refl _⟩, ⟨by (with_reducible repeat (first | apply r1_ | apply r2_ | apply r3_)); exact HO_3.out⟩, ⟨by repeat (with_reducible first | exact HB.out | apply l1_ | apply l2_ | apply l3_)⟩⟩
       case round =>
        clear H'
        (try clear c2); (try clear c2b0); (try clear p2); (try clear c3); (try clear p3); (try clear q3); (try clear hx3); (try clear c4); (try clear c4b0); (try clear c5); (try clear c5b0); (try clear c5b1); (try clear c6); (try clear c6b0); (try clear c6b1); (try clear p6); (try clear c7); (try clear hx365_0); (try clear hx365_1); (try clear hx366_0); (try clear hx366_1); (try clear hx367_0); (try clear hx367_1); (try clear p2); (try clear p3); (try clear p365); (try clear p366); (try clear p367); (try clear q3); (try clear q365); (try clear q366); (try clear q367)
        obtain ⟨x3_3, x5_3, rfl, HA, HK3, HO_3, HB⟩ := hrel
        cases gk with
        | zero => exact absurd HA.out (by simp [jobshellref04_elements.l1])
        | succ k3 =>
         have H := HA.out
         clear HA
         simp only [jobshellref04_elements.l1] at H
         by_cases c8 : 0 ≤ x4_1
         ·
          rw [if_pos c8] at H
          have c8b0 : decide (0 ≤ x4_1) = true := decide_eq_true c8
          clear c8
          by_cases c9 : x4_1 < (l0.length : Int)
          ·
           rw [if_pos c9] at H
           have c9b0 : decide (x4_1 < (l0.length : Int)) = true := decide_eq_true c9
           clear c9
           by_cases c10 : x5_3 < (((rd_T47 l0 x4_1).f0).size : Int)
           ·
            rw [if_pos c10] at H
            have c10b0 : decide (x5_3 < (((rd_T47 l0 x4_1).f0).size : Int)) = true := decide_eq_true c10
            clear c10
            by_cases c11 : 0 ≤ x5_3
            ·
             rw [if_pos c11] at H
             have c11b0 : decide (0 ≤ x5_3) = true := decide_eq_true c11
             clear c11
             by_cases c13 : x3_3.length < 70368744177664
             ·
              rw [if_pos c13] at H
              have LMc13 := m_ c13
              clear c13
              obtain ⟨y371, hy371⟩ : ∃ y_ : List (S65), y_ = (x3_3 ++ [(⟨bt ((rd_T47 l0 x4_1).f0) x5_3, (((rd_T47 l0 x4_1).f1) != 1)⟩ : S65)]) := ⟨_, rfl⟩
              replace H : (jobshellref04_elements.l1 k3 l0 y371 x4_1 (wrap64 (x5_3 + 1))) = some r := by subst hy371; exact H
              have Ny371 := m_ hy371
              clear hy371
              have H' := m_ H
              clear H
              have p368 : 0 ≤ (x4_1 : Int) := o1_ (by with_reducible assumption)
              have q368 : x4_1 < (l0.length : Int) := o1_ (by with_reducible assumption)
              obtain ⟨ad368, e368, hx368_0, hx368_1⟩ := at_T47 HR0.out x4_1 p368 q368
              cases e368
              replace hx368_0 := (HB.out.cell (c1_ w _ hx368_0)).trans hx368_0
              replace hx368_1 := (HB.out.cell (c1_ w _ hx368_1)).trans hx368_1
              replace p368 := eq_true p368
              replace q368 := eq_true q368
              try go_wp2
              have n0_ := m_ (r3_ HO_3.out)
              have n1_ := m_ (l3_ HB.out)
              clear HO_3
              clear HB
              have HO_3 := n0_
              have HB := n1_
              clear n0_ n1_
              have p369 : 0 ≤ (x4_1 : Int) := o1_ (by with_reducible assumption)
              have q369 : x4_1 < (l0.length : Int) := o1_ (by with_reducible assumption)
              obtain ⟨ad369, e369, hx369_0, hx369_1⟩ := at_T47 HR0.out x4_1 p369 q369
              have hw369_1 := hx369_1
              have hw369_0 := hx369_0
              obtain rfl : ad368 = ad369 := (by injection e369)
              replace hx369_0 := (HB.out.cell (c1_ w _ hx369_0)).trans hx369_0
              replace hx369_1 := (HB.out.cell (c1_ w _ hx369_1)).trans hx369_1
              replace p369 := eq_true p369
              replace q369 := eq_true q369
              have p12 : 0 ≤ (x5_3 : Int) := o1_ (by with_reducible assumption)
              have q12 : x5_3 < (((rd_T47 l0 x4_1).f0).size : Int) := o1_ (by with_reducible assumption)
              have hx12 := bt_at ((rd_T47 l0 x4_1).f0) x5_3
              replace p12 := eq_true p12
              replace q12 := eq_true q12
              have p370 : 0 ≤ (x4_1 : Int) := o1_ (by with_reducible assumption)
              have q370 : x4_1 < (l0.length : Int) := o1_ (by with_reducible assumption)
              obtain ⟨ad370, e370, hx370_0, hx370_1⟩ := at_T47 HR0.out x4_1 p370 q370
              have hw370_1 := hx370_1
              have hw370_0 := hx370_0
              obtain rfl : ad368 = ad370 := (by injection e370)
              replace hx370_0 := (HB.out.cell (c1_ w _ hx370_0)).trans hx370_0
              replace hx370_1 := (HB.out.cell (c1_ w _ hx370_1)).trans hx370_1
              replace p370 := eq_true p370
              replace q370 := eq_true q370
              refine start_ (n := 18) (S := fun w' => w'.cell? (ad368.add ((x4_1).toNat * 2)) = some (.string ((rd_T47 l0 x4_1).f0)) ∧ w'.cell? ⟨(ad368.add ((x4_1).toNat * 2)).block, (ad368.add ((x4_1).toNat * 2)).off + 1, none⟩ = some (.int .i64 ((rd_T47 l0 x4_1).f1)) ∧ w'.cell? (ad368.add ((x4_1).toNat * 2)) = some (.string ((rd_T47 l0 x4_1).f0)) ∧ w'.cell? ⟨(ad368.add ((x4_1).toNat * 2)).block, (ad368.add ((x4_1).toNat * 2)).off + 1, none⟩ = some (.int .i64 ((rd_T47 l0 x4_1).f1))) (ds := []) #[false, false, false, false, false, false, false, false, false, false, false, false, false, false, false, false, false, false] (by kernel_rfl) rfl rfl ⟨((HB.out.cell (c1_ w _ hw369_0)).trans hw369_0), ((HB.out.cell (c1_ w _ hw369_1)).trans hw369_1), ((HB.out.cell (c1_ w _ hw370_0)).trans hw370_0), ((HB.out.cell (c1_ w _ hw370_1)).trans hw370_1)⟩ (fun hHeld => ?_); refine with_tabW jobshellref04_elements.tab9 jobshellref04_elements.bits9 (fun HT_ HW_ => ?_)
              generalize wr.drew = w14 at HO_3 HB hx369_0 hx369_1 hx370_0 hx370_1 hHeld ⊢
              refine pure_ (i := 0) (N := some 44) (v := ?_) (a' := ?_) #[true, false, false, false, false, false, false, false, false, false, false, false, false, false, false, false, false, false] rfl rfl (any_of HT_.out (by kernel_rfl)) (fun _ _ _ h => h) (Or.inl ⟨by rfl, ?_⟩) ?_ ?_
              rotate_left
              ·
               intro w'
               go_simp
               with_reducible rfl
              rotate_left
              ·
               simp only [Act.put, List.setIfInBounds_toArray, List.set_cons_zero, List.set_cons_succ, i64_w, i32_w]
               rfl
              refine pure_ (i := 1) (N := some 45) (v := ?_) (a' := ?_) #[true, true, false, false, false, false, false, false, false, false, false, false, false, false, false, false, false, false] rfl rfl (any_of HT_.out (by kernel_rfl)) (fun _ _ _ h => h) (Or.inl ⟨by rfl, ?_⟩) ?_ ?_
              rotate_left
              ·
               intro w'
               go_simp
               with_reducible rfl
              rotate_left
              ·
               simp only [Act.put, List.setIfInBounds_toArray, List.set_cons_zero, List.set_cons_succ, i64_w, i32_w]
               rfl
              refine pure_ (i := 2) (N := some 46) (v := ?_) (a' := ?_) #[true, true, true, false, false, false, false, false, false, false, false, false, false, false, false, false, false, false] rfl rfl (any_of HT_.out (by kernel_rfl)) (fun _ _ _ h => h) (Or.inl ⟨by rfl, ?_⟩) ?_ ?_
              rotate_left
              ·
               intro w'
               go_simp
               with_reducible rfl
              rotate_left
              ·
               simp only [Act.put, List.setIfInBounds_toArray, List.set_cons_zero, List.set_cons_succ, i64_w, i32_w]
               rfl
              refine pure_ (i := 3) (N := some 47) (v := ?_) (a' := ?_) #[true, true, true, true, false, false, false, false, false, false, false, false, false, false, false, false, false, false] rfl rfl (any_of HT_.out (by kernel_rfl)) (fun _ _ _ h => h) (Or.inl ⟨by rfl, ?_⟩) ?_ ?_
              rotate_left
              ·
               intro w'
               go_simp
               with_reducible rfl
              rotate_left
              ·
               simp only [Act.put, List.setIfInBounds_toArray, List.set_cons_zero, List.set_cons_succ, i64_w, i32_w]
               rfl
              refine pure_ (i := 4) (N := some 48) (v := ?_) (a' := ?_) #[true, true, true, true, true, false, false, false, false, false, false, false, false, false, false, false, false, false] rfl rfl (any_of HT_.out (by kernel_rfl)) (fun _ _ _ h => h) (Or.inl ⟨by rfl, ?_⟩) ?_ ?_
              rotate_left
              ·
               intro w'
               go_simp
               with_reducible rfl
              rotate_left
              ·
               simp only [Act.put, List.setIfInBounds_toArray, List.set_cons_zero, List.set_cons_succ, i64_w, i32_w]
               rfl
              refine pure_ (i := 6) (N := some 50) (v := ?_) (a' := ?_) #[true, true, true, true, true, false, true, false, false, false, false, false, false, false, false, false, false, false] rfl rfl (any_of HT_.out (by kernel_rfl)) (fun _ _ _ h => h) (Or.inl ⟨by rfl, ?_⟩) ?_ ?_
              rotate_left
              ·
               intro w'
               go_simp
               with_reducible rfl
              rotate_left
              ·
               simp only [Act.put, List.setIfInBounds_toArray, List.set_cons_zero, List.set_cons_succ, i64_w, i32_w]
               rfl
              refine pure_ (i := 8) (N := some 52) (v := ?_) (a' := ?_) #[true, true, true, true, true, false, true, false, true, false, false, false, false, false, false, false, false, false] rfl rfl (any_of HT_.out (by kernel_rfl)) (fun _ _ _ h => h) (Or.inl ⟨by rfl, ?_⟩) ?_ ?_
              rotate_left
              ·
               intro w'
               go_simp
               with_reducible rfl
              rotate_left
              ·
               simp only [Act.put, List.setIfInBounds_toArray, List.set_cons_zero, List.set_cons_succ, i64_w, i32_w]
               rfl
              refine pure_ (i := 9) (N := some 53) (v := ?_) (a' := ?_) #[true, true, true, true, true, false, true, false, true, true, false, false, false, false, false, false, false, false] rfl rfl (any_of HT_.out (by kernel_rfl)) (fun _ _ _ h => h) (Or.inl ⟨by rfl, ?_⟩) ?_ ?_
              rotate_left
              ·
               intro w'
               go_simp
               with_reducible rfl
              rotate_left
              ·
               simp only [Act.put, List.setIfInBounds_toArray, List.set_cons_zero, List.set_cons_succ, i64_w, i32_w]
               rfl
              refine pure_ (i := 10) (N := some 54) (v := ?_) (a' := ?_) #[true, true, true, true, true, false, true, false, true, true, true, false, false, false, false, false, false, false] rfl rfl (any_of HT_.out (by kernel_rfl)) (fun _ _ _ h => h) (Or.inl ⟨by rfl, ?_⟩) ?_ ?_
              rotate_left
              ·
               intro w'
               go_simp
               with_reducible rfl
              rotate_left
              ·
               simp only [Act.put, List.setIfInBounds_toArray, List.set_cons_zero, List.set_cons_succ, i64_w, i32_w]
               rfl
              refine pure_ (i := 11) (N := some 55) (v := ?_) (a' := ?_) #[true, true, true, true, true, false, true, false, true, true, true, true, false, false, false, false, false, false] rfl rfl (any_of HT_.out (by kernel_rfl)) (fun _ _ _ h => h) (Or.inl ⟨by rfl, ?_⟩) ?_ ?_
              rotate_left
              ·
               intro w'
               go_simp
               with_reducible rfl
              rotate_left
              ·
               simp only [Act.put, List.setIfInBounds_toArray, List.set_cons_zero, List.set_cons_succ, i64_w, i32_w]
               rfl
              refine take_ (i := 5) (N := some 49) (v := ?_) (a' := ?_) #[true, true, true, true, true, true, true, false, true, true, true, true, false, false, false, false, false, false] rfl rfl (take_ofW HT_.out HW_.out (by kernel_rfl)) (fun _ _ _ h => h) (Or.inl ⟨by rfl, ?_⟩) hHeld ?_ ?_
              rotate_left
              ·
               rintro w' ⟨s0, s1, s2, s3⟩
               go_simp
               with_reducible rfl
              rotate_left
              ·
               simp only [Act.put, List.setIfInBounds_toArray, List.set_cons_zero, List.set_cons_succ, i64_w, i32_w]
               rfl
              refine take_ (i := 7) (N := some 51) (v := ?_) (a' := ?_) #[true, true, true, true, true, true, true, true, true, true, true, true, false, false, false, false, false, false] rfl rfl (take_ofW HT_.out HW_.out (by kernel_rfl)) (fun _ _ _ h => h) (Or.inl ⟨by rfl, ?_⟩) hHeld ?_ ?_
              rotate_left
              ·
               rintro w' ⟨s0, s1, s2, s3⟩
               go_simp
               with_reducible rfl
              rotate_left
              ·
               simp only [Act.put, List.setIfInBounds_toArray, List.set_cons_zero, List.set_cons_succ, i64_w, i32_w]
               rfl
              refine take_ (i := 12) (N := some 56) (v := ?_) (a' := ?_) #[true, true, true, true, true, true, true, true, true, true, true, true, true, false, false, false, false, false] rfl rfl (take_ofW HT_.out HW_.out (by kernel_rfl)) (fun _ _ _ h => h) (Or.inl ⟨by rfl, ?_⟩) hHeld ?_ ?_
              rotate_left
              ·
               rintro w' ⟨s0, s1, s2, s3⟩
               go_simp
               with_reducible rfl
              rotate_left
              ·
               simp only [Act.put, List.setIfInBounds_toArray, List.set_cons_zero, List.set_cons_succ, i64_w, i32_w]
               rfl
              refine pure_ (i := 13) (N := some 57) (v := ?_) (a' := ?_) #[true, true, true, true, true, true, true, true, true, true, true, true, true, true, false, false, false, false] rfl rfl (any_of HT_.out (by kernel_rfl)) (fun _ _ _ h => h) (Or.inl ⟨by rfl, ?_⟩) ?_ ?_
              rotate_left
              ·
               intro w'
               go_simp
               with_reducible rfl
              rotate_left
              ·
               simp only [Act.put, List.setIfInBounds_toArray, List.set_cons_zero, List.set_cons_succ, i64_w, i32_w]
               rfl
              refine pure_ (i := 14) (N := some 58) (v := ?_) (a' := ?_) #[true, true, true, true, true, true, true, true, true, true, true, true, true, true, true, false, false, false] rfl rfl (any_of HT_.out (by kernel_rfl)) (fun _ _ _ h => h) (Or.inl ⟨by rfl, ?_⟩) ?_ ?_
              rotate_left
              ·
               intro w'
               go_simp
               with_reducible rfl
              rotate_left
              ·
               simp only [Act.put, List.setIfInBounds_toArray, List.set_cons_zero, List.set_cons_succ, i64_w, i32_w]
               rfl
              refine one_ (i := 15) (N := some 59) #[true, true, true, true, true, true, true, true, true, true, true, true, true, true, true, true, false, false] rfl rfl (one_of HT_.out (by kernel_rfl)) (by decide) (fun K hK => ?_)
              refine value_ (w1 := ?_) (v := ?_) (by rfl) rfl ?_ ?_
              rotate_left 2
              ·
               go_simp
               constructor
               ·
                rfl
               ·
                rfl
              refine hK.out _ _ ⟨(World.cell?_alloc_lt _ _ _ (c1_ _ _ (((HB.out.cell (c1_ w _ hw369_0)).trans hw369_0)))).trans (((HB.out.cell (c1_ w _ hw369_0)).trans hw369_0)), (World.cell?_alloc_lt _ _ _ (c1_ _ _ (((HB.out.cell (c1_ w _ hw369_1)).trans hw369_1)))).trans (((HB.out.cell (c1_ w _ hw369_1)).trans hw369_1)), (World.cell?_alloc_lt _ _ _ (c1_ _ _ (((HB.out.cell (c1_ w _ hw370_0)).trans hw370_0)))).trans (((HB.out.cell (c1_ w _ hw370_0)).trans hw370_0)), (World.cell?_alloc_lt _ _ _ (c1_ _ _ (((HB.out.cell (c1_ w _ hw370_1)).trans hw370_1)))).trans (((HB.out.cell (c1_ w _ hw370_1)).trans hw370_1))⟩ (fun hHeld => ?_)
              clear hK K
              refine norm_ (a' := ?_) ?_ ?_
              rotate_left
              ·
               show Act.put _ (some 59) _ = _
               simp only [Act.put, List.setIfInBounds_toArray, List.set_cons_zero, List.set_cons_succ, i64_w, i32_w]
               rfl
              refine one_ (i := 16) (N := some 60) #[true, true, true, true, true, true, true, true, true, true, true, true, true, true, true, true, true, false] rfl rfl (one_of HT_.out (by kernel_rfl)) (by decide) (fun K hK => ?_)
              refine Kd.R_append_step k65 (w0 := w) w.heap.size (by rfl) (.tmp 44) (.tmp 59) 59 65 (.agg #[(.int .u8 0), (.bool false)]) 2 rfl Try.underlying59 info65 rfl (by decide) (by omega) u3 x3_3 (⟨bt ((rd_T47 l0 x4_1).f0) x5_3, (((rd_T47 l0 x4_1).f1) != 1)⟩ : S65) [.int .u8 (bt ((rd_T47 l0 x4_1).f0) x5_3), .bool (((rd_T47 l0 x4_1).f1) != 1)] (fun _ => True) (fun _ => False) rfl rfl ?aP (fun _ hk => hk.elim) ?aF ?aO ?aB ?aS ?aL ?_
              (case aP => exact k65_mkM _ _ _ (⟨bt ((rd_T47 l0 x4_1).f0) x5_3, (((rd_T47 l0 x4_1).f1) != 1)⟩ : S65))
              (case aB => exact (by repeat (with_reducible first | exact HB.out | apply l1_ | apply l2_ | apply l3_)))
              (case aF => exact (fun _ _ => trivial))
              (case aO => exact (by (with_reducible repeat (first | apply r1_ | apply r2_ | apply r3_)); exact HO_3.out))
              (case aS => exact (l6_ (by repeat (with_reducible first | exact HB.out | apply l1_ | apply l2_ | apply l3_))))
              (case aL => have := LMc13.out; omega)
              intro v372 w15 ho hb hg hat
              rw [← Ny371.out] at ho
              have n0_ := m_ (hb)
              have n1_ := m_ (ho)
              clear HB
              clear HO_3
              have HB := n0_
              have HO373 := n1_
              clear n0_ n1_
              clear ho hb hg hat
              refine hK.out _ _ ⟨((HB.out.cell (c1_ w _ hw369_0)).trans hw369_0), ((HB.out.cell (c1_ w _ hw369_1)).trans hw369_1), ((HB.out.cell (c1_ w _ hw370_0)).trans hw370_0), ((HB.out.cell (c1_ w _ hw370_1)).trans hw370_1)⟩ (fun hHeld => ?_)
              clear hK K
              refine norm_ (a' := ?_) ?_ ?_
              rotate_left
              ·
               show Act.put _ (some 60) _ = _
               simp only [Act.put, List.setIfInBounds_toArray, List.set_cons_zero, List.set_cons_succ, i64_w, i32_w]
               rfl
              refine pure_ (i := 17) (N := some 3) (v := ?_) (a' := ?_) #[true, true, true, true, true, true, true, true, true, true, true, true, true, true, true, true, true, true] rfl rfl (any_of HT_.out (by kernel_rfl)) (fun _ _ _ h => h) (Or.inl ⟨by rfl, ?_⟩) ?_ ?_
              rotate_left
              ·
               intro w'
               go_simp
               with_reducible rfl
              rotate_left
              ·
               simp only [Act.put, List.setIfInBounds_toArray, List.set_cons_zero, List.set_cons_succ, i64_w, i32_w]
               rfl
              refine done_ (done_of HT_.out (by kernel_rfl)) ?_
              try go_wp2
              go_roundg k3
              case measure => have := HK1.out; have := HJ2.out; have := HK3.out; omega
              case rel => exact ⟨(y371), (wrap64 (x5_3 + 1)), (by first | rfl | (simp; done) | (simp [*]; done)), H', ⟨by have := HK1.out; have := HJ2.out; have := HK3.out; omega⟩, ⟨by (with_reducible repeat (first | apply r1_ | apply r2_ | apply r3_)); exact HO373.out⟩, ⟨by repeat (with_reducible first | exact HB.out | apply l1_ | apply l2_ | apply l3_)⟩⟩
             rw [if_neg c13] at H
             exact absurd H (by simp)
            rw [if_neg c11] at H
            exact absurd H (by simp)
           rw [if_neg c10] at H
           have c10b0 : decide (x5_3 < (((rd_T47 l0 x4_1).f0).size : Int)) = false := decide_eq_false c10
           clear c10
           have H' := m_ H
           clear H
           have p368 : 0 ≤ (x4_1 : Int) := o1_ (by with_reducible assumption)
           have q368 : x4_1 < (l0.length : Int) := o1_ (by with_reducible assumption)
           obtain ⟨ad368, e368, hx368_0, hx368_1⟩ := at_T47 HR0.out x4_1 p368 q368
           cases e368
           replace hx368_0 := (HB.out.cell (c1_ w _ hx368_0)).trans hx368_0
           replace hx368_1 := (HB.out.cell (c1_ w _ hx368_1)).trans hx368_1
           replace p368 := eq_true p368
           replace q368 := eq_true q368
           go_wp2
           go_roundg k3
           case measure => have := HK1.out; have := HJ2.out; have := HK3.out; omega
           case rel => exact ⟨(x3_3), (wrap64 (x4_1 + 1)), (by first | rfl | (simp; done) | (simp [*]; done)), H', ⟨by have := HK1.out; have := HJ2.out; have := HK3.out; omega⟩, ⟨by (with_reducible repeat (first | apply r1_ | apply r2_ | apply r3_)); exact HO_3.out⟩, ⟨by repeat (with_reducible first | exact HB.out | apply l1_ | apply l2_ | apply l3_)⟩⟩
          rw [if_neg c9] at H
          exact absurd H (by simp)
         rw [if_neg c8] at H
         exact absurd H (by simp)
   rw [if_neg c2] at H
   have c2b0 : decide (x4_1 < (l0.length : Int)) = false := decide_eq_false c2
   clear c2
   obtain rfl := Option.some.inj H
   go_wp2
   go_ret
   exact ⟨_, by first | rfl | (simp [errW_none, errW_some] <;> rfl) | (simp [*, errW_none, errW_some] <;> rfl), by (with_reducible repeat (first | apply r1_ | apply r2_ | apply r3_)); exact HO_3.out, by repeat (with_reducible first | exact HB.out | apply l1_ | apply l2_ | apply l3_)⟩
end Go.Proofs.Ytbekhjcnmifnnaa.Q
