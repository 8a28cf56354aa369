import Derived.Test.YtbekhjcnmifnnaaQ0
set_option linter.unusedVariables false
set_option linter.unusedSimpArgs false
namespace Go.Proofs.Ytbekhjcnmifnnaa.Q
open Go.RowKit Go.Proofs.YtbekhjcnmifnnaaW.PrintWords Go.Proofs.YtbekhjcnmifnnaaW.PrintLast Go.Proofs.YtbekhjcnmifnnaaW.PrintMore
mutual
def pattern_elements.l0 : Nat → List (S51) → List (S47) → Int → Int → Option ((List (S51)))
 | 0, _, _, _, _ => none
 | k + 1, x3, x7, x8, x9 => if x9 < x8 then (if 0 ≤ x9 then (if x9 < (x7.length : Int) then (if ((rd_T47 x7 x9).f1) = 0 then (pattern_elements.j1 k x3 x7 x8 x9 false ((rd_T47 x7 x9).f0) ((rd_T47 x7 x9).f1)) else (if ((rd_T47 x7 x9).f1) = 1 then (pattern_elements.j1 k x3 x7 x8 x9 false ((rd_T47 x7 x9).f0) ((rd_T47 x7 x9).f1)) else (pattern_elements.j1 k x3 x7 x8 x9 (((rd_T47 x7 x9).f1) != 2) ((rd_T47 x7 x9).f0) ((rd_T47 x7 x9).f1)))) else (none)) else (none)) else (some x3)
def pattern_elements.j1 : Nat → List (S51) → List (S47) → Int → Int → Bool → ByteArray → Int → Option ((List (S51)))
 | 0, _, _, _, _, _, _, _ => none
 | k + 1, x3, x7, x8, x9, x25, x104000, x104001 => if x25 = true then (pattern_elements.l0 k x3 x7 x8 (wrap64 (x9 + 1))) else (pattern_elements.l1 k x3 x7 x8 x9 (x104000.size : Int) 0 x104000 x104001)
def pattern_elements.l1 : Nat → List (S51) → List (S47) → Int → Int → Int → Int → ByteArray → Int → Option ((List (S51)))
 | 0, _, _, _, _, _, _, _, _ => none
 | k + 1, x3, x7, x8, x9, x28, x29, x104000, x104001 => if x29 < x28 then (if 0 ≤ x29 then (if x29 < (x104000.size : Int) then (if x3.length < 70368744177664 then (pattern_elements.l1 k (x3 ++ [(⟨bt x104000 x29, (x104001 != 1)⟩ : S51)]) x7 x8 x9 x28 (wrap64 (x29 + 1)) x104000 x104001) else (none)) else (none)) else (none)) else (pattern_elements.l0 k x3 x7 x8 (wrap64 (x9 + 1)))
end
def pattern_elements.f (k : Nat) (l0 : List (S47)) : Option ((List (S51))) := pattern_elements.l0 k ([] : List (S51)) l0 (l0.length : Int) 0
theorem pattern_elements.mono_l : ∀ k, (∀ y0 y1 y2 y3, LeO (pattern_elements.l0 k y0 y1 y2 y3) (pattern_elements.l0 (k + 1) y0 y1 y2 y3)) ∧ (∀ y0 y1 y2 y3 y4 y5 y6, LeO (pattern_elements.j1 k y0 y1 y2 y3 y4 y5 y6) (pattern_elements.j1 (k + 1) y0 y1 y2 y3 y4 y5 y6)) ∧ (∀ y0 y1 y2 y3 y4 y5 y6 y7, LeO (pattern_elements.l1 k y0 y1 y2 y3 y4 y5 y6 y7) (pattern_elements.l1 (k + 1) y0 y1 y2 y3 y4 y5 y6 y7))
 | 0 => ⟨fun _ _ _ _ r h => by simp [pattern_elements.l0] at h, fun _ _ _ _ _ _ _ r h => by simp [pattern_elements.j1] at h, fun _ _ _ _ _ _ _ _ r h => by simp [pattern_elements.l1] at h⟩
 | k + 1 => by
  obtain ⟨ih0, ih1, ih2⟩ := pattern_elements.mono_l k
  refine ⟨?_, ?_, ?_⟩
  all_goals (intros; first | unfold pattern_elements.l0 | unfold pattern_elements.j1 | unfold pattern_elements.l1)
  all_goals repeat' first
   | (with_reducible exact ih0 _ _ _ _)
   | (with_reducible exact ih1 _ _ _ _ _ _ _)
   | (with_reducible exact ih2 _ _ _ _ _ _ _ _)
   | (with_reducible exact LeO.refl _)
   | (with_reducible exact LeO.none _)
   | (with_reducible refine LeO.ite ?_ ?_)
   | (with_reducible refine LeO.bind ?_ (fun _ => ?_))
theorem pattern_elements.mono : ∀ a0 k, LeO (pattern_elements.f k a0) (pattern_elements.f (k + 1) a0) := by
 intro a0 k
 obtain ⟨ih0, ih1, ih2⟩ := pattern_elements.mono_l k
 unfold pattern_elements.f
 repeat' first
  | (with_reducible exact ih0 _ _ _ _)
  | (with_reducible exact ih1 _ _ _ _ _ _ _)
  | (with_reducible exact ih2 _ _ _ _ _ _ _ _)
  | (with_reducible exact LeO.refl _)
  | (with_reducible exact LeO.none _)
  | (with_reducible refine LeO.ite ?_ ?_)
  | (with_reducible refine LeO.bind ?_ (fun _ => ?_))
def pattern_elements.T9 : Bool × List (List Nat × List Nat) := (true, [([], []), ([], []), ([1], [1]), ([], []), ([2, 3], [2, 3]), ([], []), ([5], [5]), ([6], [6]), ([4, 7], [4, 7]), ([8], [8]), ([0, 9], [0, 9]), ([10, 10, 0, 1, 2, 3, 4, 5, 6, 7, 8, 9, 10], [0, 10])])
def pattern_elements.B9 : List Nat := [0, 0, 2, 0, 14, 0, 32, 96, 254, 510, 1023, 2047]
theorem pattern_elements.tab9 : rtab .any (opsOf Try.f32 9) = pattern_elements.T9 := by kernel_rfl
theorem pattern_elements.bits9 : waitsOk pattern_elements.T9.2 pattern_elements.B9 = true := by kernel_rfl
set_option maxHeartbeats 8000000 in
set_option maxRecDepth 100000 in
theorem pattern_elements.calls (k : Nat) (A0 : Option Addr) (c0 : Nat) (l0 : List (S47)) (r : List (S51)) (w : World) (hr0 : Kd.C k47 w A0 l0.length l0) (hc0 : l0.length ≤ c0) (h : pattern_elements.f k l0 = some r) :
 Calls Try.prog 32 #[.slice A0 l0.length c0] w fun e w' => ∃ v0_ : Value, e = .returned (v0_) ∧ Kd.R k51 51 w' w.heap.size (fun _ => True) v0_ r ∧ Below w.heap.size w w' := by
 have hu47 := Try.underlying47
 have hu51 := Try.underlying51
 have HR0 := m_ hr0
 have HC0 := m_ hc0
 clear hr0 hc0
 have HB := m_ (Below.refl w.heap.size w)
 have H : (pattern_elements.l0 k ([] : List (S51)) l0 (l0.length : Int) 0) = some r := h
 clear h
 have H' := m_ H
 clear H
 go_enter Try.func32, Try.ntmps32
 go_wp2
 go_loopg [3, 9] k (fun kq v3 v9 w' => ∃ (x3_1 : List (S51)) (x9_1 : Int), v9 = .int .i64 x9_1 ∧ Aside0 (pattern_elements.l0 kq x3_1 l0 (l0.length : Int) x9_1 = some r) ∧ Aside0 (kq ≤ k) ∧ Aside0 (Kd.R k51 51 w' w.heap.size (fun _ => True) v3 x3_1) ∧ Aside0 (Below w.heap.size w w'))
 case atStart => exact ⟨(([] : List (S51))), (0), (by first | rfl | (simp; done) | (simp [*]; done)), H', ⟨Nat.le_refl _⟩, ⟨by first | exact Kd.R_nil _ _ _ _ _ | exact Kd.N_nil _ _ _ _ _ | exact Kd.V_nil _ _ _ _ _ | exact Kd.Q_nil _ _ _ _ _ | exact Kd.S_nil _ _ _ _ _⟩, ⟨by repeat (with_reducible first | exact HB.out | apply l1_ | apply l2_ | apply l3_)⟩⟩
 case round =>
  clear H'
  obtain ⟨x3_1, x9_1, rfl, HA, HK1, HO_3, HB⟩ := hrel
  cases gk with
  | zero => exact absurd HA.out (by simp [pattern_elements.l0])
  | succ k1 =>
   have H := HA.out
   clear HA
   simp only [pattern_elements.l0] at H
   by_cases c2 : x9_1 < (l0.length : Int)
   ·
    rw [if_pos c2] at H
    have c2b0 : decide (x9_1 < (l0.length : Int)) = true := decide_eq_true c2
    clear c2
    by_cases c3 : 0 ≤ x9_1
    ·
     rw [if_pos c3] at H
     have c3b0 : decide (0 ≤ x9_1) = true := decide_eq_true c3
     clear c3
     by_cases c4 : x9_1 < (l0.length : Int)
     ·
      rw [if_pos c4] at H
      have c4b0 : decide (x9_1 < (l0.length : Int)) = true := decide_eq_true c4
      clear c4
      have HC5 := m_ H
      clear H
      have p102 : 0 ≤ (x9_1 : Int) := o1_ (by with_reducible assumption)
      have q102 : x9_1 < (l0.length : Int) := o1_ (by with_reducible assumption)
      obtain ⟨ad102, e102, hx102_0, hx102_1⟩ := at_T47 HR0.out x9_1 p102 q102
      cases e102
      replace hx102_0 := (HB.out.cell (c1_ w _ hx102_0)).trans hx102_0
      replace hx102_1 := (HB.out.cell (c1_ w _ hx102_1)).trans hx102_1
      replace p102 := eq_true p102
      replace q102 := eq_true q102
      go_upto_region 5 with (first | ((with_reducible refine gate_dst (N := 5) rfl ?_); refine box_event ?hg (N := 5) ?hd (cs := #[.string (⟨#[]⟩ : ByteArray), .int .i64 0]) (t := 47) ?hr ?_; (case hd => rfl); (case hg => rfl); (case hr => first | (go_simp; done) | (go_simp; rfl)); intro gb103 hg w6 hbox hb; replace HO_3 := m_ (Kd.R_below (by (with_reducible repeat (first | apply r1_ | apply r2_ | apply r3_)); exact HO_3.out) hb); have BK103 := m_ (hbox); have GW103 := m_ ((by rw [hg]; exact (l6_ (by repeat (with_reducible first | exact HB.out | apply l1_ | apply l2_ | apply l3_))) : w.heap.size ≤ gb103)); have GE103 := m_ ((by rw [hg]; exact (l6_ (by repeat (with_reducible first | exact HB.out | apply l1_ | apply l2_ | apply l3_))) : w.heap.size ≤ gb103)); replace HB := m_ (l5_ (by repeat (with_reducible first | exact HB.out | apply l1_ | apply l2_ | apply l3_)) hb); clear hb hbox hg; have hcz7_0 : w6.cell? ⟨gb103, 0, none⟩ = some (.string (⟨#[]⟩ : ByteArray)) := (b5_ BK103.out 0).trans rfl; have hcz7_1 : w6.cell? ⟨gb103, 1, none⟩ = some (.int .i64 0) := (b5_ BK103.out 1).trans rfl; have hfz7_0 := f1_ BK103.out 0; have hfz7_1 := f1_ BK103.out 1))
      (try simp only [Act.put, List.setIfInBounds_toArray, List.set_cons_zero, List.set_cons_succ])
      go_cut [25] (fun v25 wc => ∃ (kq : Nat) (x25_4 : Bool), v25 = .bool x25_4 ∧ Aside0 (pattern_elements.j1 kq x3_1 l0 (l0.length : Int) x9_1 x25_4 ((rd_T47 l0 x9_1).f0) ((rd_T47 l0 x9_1).f1) = some r) ∧ Aside0 (kq ≤ k1) ∧ Aside0 (Kd.R k51 51 wc w.heap.size (fun _ => True) u3 x3_1) ∧ Aside0 (wc.heap[gb103]? = some (.cells #[.string ((rd_T47 l0 x9_1).f0), .int .i64 ((rd_T47 l0 x9_1).f1)] 47 (0, 0))) ∧ Aside0 (Below w.heap.size w wc))
      case first =>
       have H := HC5.out
       clear HC5
       by_cases c8 : ((rd_T47 l0 x9_1).f1) = 0
       ·
        rw [if_pos c8] at H
        have c8b0 : (((rd_T47 l0 x9_1).f1) == 0) = true := beq_iff_eq.mpr c8
        have c8b1 : (((rd_T47 l0 x9_1).f1) != 0) = false := bne_eq_false_iff_eq.mpr c8
        clear c8
        (first | rw [c8b0] | (simp only [i64_w, i32_w]; rw [c8b0]) | skip)
        have H' := m_ H
        clear H
        have hcz9_0 : w6.cell? ⟨gb103, 0, none⟩ = some (.string (⟨#[]⟩ : ByteArray)) := (b5_ BK103.out 0).trans rfl
        have hcz9_1 : w6.cell? ⟨gb103, 1, none⟩ = some (.int .i64 0) := (b5_ BK103.out 1).trans rfl
        have hfz9_0 := f1_ BK103.out 0
        have hfz9_1 := f1_ BK103.out 1
        go_wp2
        go_meet
        case rel => exact ⟨_, (false), (by first | rfl | (simp; done) | (simp [*]; done)), H', ⟨by have := HK1.out; first | omega | exact Nat.le_refl _⟩, ⟨by (with_reducible repeat (first | apply r1_ | apply r2_ | apply r3_)); exact Kd.R_mono (Kd.R_far (p := ⟨gb103, 1, none⟩) (Kd.R_far (p := ⟨gb103, 0, none⟩) (Kd.R_types HO_3.out BK103.out (by decide)) (fun _ hk => hk.2) (.string ((rd_T47 l0 x9_1).f0))) (fun _ hk => hk.2) (.int .i64 ((rd_T47 l0 x9_1).f1))) (fun _ hk => trivial)⟩, ⟨by (with_reducible repeat (first | refine b1_ ?_ _ | refine b2_ ?_ | refine b3_ ?_ _)); refine blk_put (cs := #[.string ((rd_T47 l0 x9_1).f0), .int .i64 0]) ?_ 1 _ rfl; (with_reducible repeat (first | refine b1_ ?_ _ | refine b2_ ?_ | refine b3_ ?_ _)); refine blk_put (cs := #[.string (⟨#[]⟩ : ByteArray), .int .i64 0]) ?_ 0 _ rfl; (with_reducible repeat (first | refine b1_ ?_ _ | refine b2_ ?_ | refine b3_ ?_ _)); exact BK103.out⟩, ⟨by repeat (with_reducible first | exact HB.out | apply l1_ | apply l2_ | apply l3_ | refine l4_ ?_ GE103.out)⟩⟩
       rw [if_neg c8] at H
       have c8b0 : (((rd_T47 l0 x9_1).f1) == 0) = false := beq_eq_false_iff_ne.mpr c8
       have c8b1 : (((rd_T47 l0 x9_1).f1) != 0) = true := bne_iff_ne.mpr c8
       (first | rw [c8b0] | (simp only [i64_w, i32_w]; rw [c8b0]) | skip)
       by_cases c10 : ((rd_T47 l0 x9_1).f1) = 1
       ·
        rw [if_pos c10] at H
        have c10b0 : (((rd_T47 l0 x9_1).f1) == 1) = true := beq_iff_eq.mpr c10
        have c10b1 : (((rd_T47 l0 x9_1).f1) != 1) = false := bne_eq_false_iff_eq.mpr c10
        clear c10
        have H' := m_ H
        clear H
        have hcz11_0 : w6.cell? ⟨gb103, 0, none⟩ = some (.string (⟨#[]⟩ : ByteArray)) := (b5_ BK103.out 0).trans rfl
        have hcz11_1 : w6.cell? ⟨gb103, 1, none⟩ = some (.int .i64 0) := (b5_ BK103.out 1).trans rfl
        have hfz11_0 := f1_ BK103.out 0
        have hfz11_1 := f1_ BK103.out 1
        go_wp2
        go_meet
        case rel => exact ⟨_, (false), (by first | rfl | (simp; done) | (simp [*]; done)), H', ⟨by have := HK1.out; first | omega | exact Nat.le_refl _⟩, ⟨by (with_reducible repeat (first | apply r1_ | apply r2_ | apply r3_)); exact Kd.R_mono (Kd.R_far (p := ⟨gb103, 1, none⟩) (Kd.R_far (p := ⟨gb103, 0, none⟩) (Kd.R_types HO_3.out BK103.out (by decide)) (fun _ hk => hk.2) (.string ((rd_T47 l0 x9_1).f0))) (fun _ hk => hk.2) (.int .i64 ((rd_T47 l0 x9_1).f1))) (fun _ hk => trivial)⟩, ⟨by (with_reducible repeat (first | refine b1_ ?_ _ | refine b2_ ?_ | refine b3_ ?_ _)); refine blk_put (cs := #[.string ((rd_T47 l0 x9_1).f0), .int .i64 0]) ?_ 1 _ rfl; (with_reducible repeat (first | refine b1_ ?_ _ | refine b2_ ?_ | refine b3_ ?_ _)); refine blk_put (cs := #[.string (⟨#[]⟩ : ByteArray), .int .i64 0]) ?_ 0 _ rfl; (with_reducible repeat (first | refine b1_ ?_ _ | refine b2_ ?_ | refine b3_ ?_ _)); exact BK103.out⟩, ⟨by repeat (with_reducible first | exact HB.out | apply l1_ | apply l2_ | apply l3_ | refine l4_ ?_ GE103.out)⟩⟩
       rw [if_neg c10] at H
       have c10b0 : (((rd_T47 l0 x9_1).f1) == 1) = false := beq_eq_false_iff_ne.mpr c10
       have c10b1 : (((rd_T47 l0 x9_1).f1) != 1) = true := bne_iff_ne.mpr c10
       have H' := m_ H
       clear H
       have hcz12_0 : w6.cell? ⟨gb103, 0, none⟩ = some (.string (⟨#[]⟩ : ByteArray)) := (b5_ BK103.out 0).trans rfl
       have hcz12_1 : w6.cell? ⟨gb103, 1, none⟩ = some (.int .i64 0) := (b5_ BK103.out 1).trans rfl
       have hfz12_0 := f1_ BK103.out 0
       have hfz12_1 := f1_ BK103.out 1
       go_wp2
       go_meet
       case rel => exact ⟨_, ((((rd_T47 l0 x9_1).f1) != 2)), (by first | rfl | (simp; done) | (simp [*]; done)), H', ⟨by have := HK1.out; first | omega | exact Nat.le_refl _⟩, ⟨by (with_reducible repeat (first | apply r1_ | apply r2_ | apply r3_)); exact Kd.R_mono (Kd.R_far (p := ⟨gb103, 1, none⟩) (Kd.R_far (p := ⟨gb103, 0, none⟩) (Kd.R_types HO_3.out BK103.out (by decide)) (fun _ hk => hk.2) (.string ((rd_T47 l0 x9_1).f0))) (fun _ hk => hk.2) (.int .i64 ((rd_T47 l0 x9_1).f1))) (fun _ hk => trivial)⟩, ⟨by (with_reducible repeat (first | refine b1_ ?_ _ | refine b2_ ?_ | refine b3_ ?_ _)); refine blk_put (cs := #[.string ((rd_T47 l0 x9_1).f0), .int .i64 0]) ?_ 1 _ rfl; (with_reducible repeat (first | refine b1_ ?_ _ | refine b2_ ?_ | refine b3_ ?_ _)); refine blk_put (cs := #[.string (⟨#[]⟩ : ByteArray), .int .i64 0]) ?_ 0 _ rfl; (with_reducible repeat (first | refine b1_ ?_ _ | refine b2_ ?_ | refine b3_ ?_ _)); exact BK103.out⟩, ⟨by repeat (with_reducible first | exact HB.out | apply l1_ | apply l2_ | apply l3_ | refine l4_ ?_ GE103.out)⟩⟩
      case rest =>
       clear HC5
       (try clear c1); (try clear p1); (try clear q1); (try clear hx1); (try clear c2); (try clear c2b0); (try clear p2); (try clear c3); (try clear c3b0); (try clear c4); (try clear c4b0); (try clear c8); (try clear c8b0); (try clear c8b1); (try clear c10); (try clear c10b0); (try clear c10b1); (try clear p10); (try clear q10); (try clear hx10); (try clear hcz11_0); (try clear hcz11_1); (try clear hcz12_0); (try clear hcz12_1); (try clear hcz7_0); (try clear hcz7_1); (try clear hcz9_0); (try clear hcz9_1); (try clear hfz11_0); (try clear hfz11_1); (try clear hfz12_0); (try clear hfz12_1); (try clear hfz7_0); (try clear hfz7_1); (try clear hfz9_0); (try clear hfz9_1); (try clear hx102_0); (try clear hx102_1); (try clear p102); (try clear q102)
       obtain ⟨kq, x25_4, rfl, HA, HJ4, HO_3, BK103, HB⟩ := hcut
       cases kq with
       | zero => exact absurd HA.out (by simp [pattern_elements.j1])
       | succ kj4 =>
        have H := HA.out
        clear HA
        simp only [pattern_elements.j1] at H
        by_cases c13 : x25_4 = true
        ·
         subst c13
         rw [if_pos rfl] at H
         have H' := m_ H
         clear H
         go_wp2
         go_roundg kj4
         case measure => have := HK1.out; have := HJ4.out; omega
         case rel => exact ⟨(x3_1), (wrap64 (x9_1 + 1)), (by first | rfl | (simp; done) | (simp [*]; done)), H', ⟨by have := HK1.out; have := HJ4.out; omega⟩, ⟨by (with_reducible repeat (first | apply r1_ | apply r2_ | apply r3_)); exact HO_3.out⟩, ⟨by repeat (with_reducible first | exact HB.out | apply l1_ | apply l2_ | apply l3_ | refine l4_ ?_ GE103.out)⟩⟩
        ·
         replace c13 := Bool.eq_false_iff.mpr c13
         subst c13
         rw [if_neg (show ¬ (false = true) by decide)] at H
         have H' := m_ H
         clear H
         have hcz14_0 : wc.cell? ⟨gb103, 0, none⟩ = some (.string ((rd_T47 l0 x9_1).f0)) := (b5_ BK103.out 0).trans rfl
         have hcz14_1 : wc.cell? ⟨gb103, 1, none⟩ = some (.int .i64 ((rd_T47 l0 x9_1).f1)) := (b5_ BK103.out 1).trans rfl
         have hfz14_0 := f1_ BK103.out 0
         have hfz14_1 := f1_ BK103.out 1
         go_wp2
         go_loopg [3, 29] kj4 (fun kq v3 v29 w' => ∃ (x3_3 : List (S51)) (x29_3 : Int), v29 = .int .i64 x29_3 ∧ Aside0 (pattern_elements.l1 kq x3_3 l0 (l0.length : Int) x9_1 (((rd_T47 l0 x9_1).f0).size : Int) x29_3 ((rd_T47 l0 x9_1).f0) ((rd_T47 l0 x9_1).f1) = some r) ∧ Aside0 (kq ≤ kj4) ∧ Aside0 (Kd.R k51 51 w' w.heap.size (fun _ => True) v3 x3_3) ∧ Aside0 (w'.heap[gb103]? = some (.cells #[.string ((rd_T47 l0 x9_1).f0), .int .i64 ((rd_T47 l0 x9_1).f1)] 47 (0, 0))) ∧ Aside0 (Below w.heap.size w w'))
         case atStart => exact ⟨(x3_1), (0), (by first | rfl | (simp; done) | (simp [*]; done)), H', ⟨Nat.le_refl _⟩, ⟨by (with_reducible repeat (first | apply r1_ | apply r2_ | apply r3_)); exact HO_3.out⟩, ⟨by (with_reducible repeat (first | refine b1_ ?_ _ | refine b2_ ?_ | refine b3_ ?_ _)); exact BK103.out⟩, ⟨by repeat (with_reducible first | exact HB.out | apply l1_ | apply l2_ | apply l3_ | refine l4_ ?_ GE103.out)⟩⟩
         case round =>
          clear H'
          (try clear c1); (try clear p1); (try clear q1); (try clear hx1); (try clear c2); (try clear c2b0); (try clear p2); (try clear c3); (try clear c3b0); (try clear c4); (try clear c4b0); (try clear p6); (try clear c8); (try clear c8b0); (try clear c8b1); (try clear c10); (try clear c10b0); (try clear c10b1); (try clear p10); (try clear q10); (try clear hx10); (try clear c13); (try clear hcz11_0); (try clear hcz11_1); (try clear hcz12_0); (try clear hcz12_1); (try clear hcz14_0); (try clear hcz14_1); (try clear hcz7_0); (try clear hcz7_1); (try clear hcz9_0); (try clear hcz9_1); (try clear hfz11_0); (try clear hfz11_1); (try clear hfz12_0); (try clear hfz12_1); (try clear hfz14_0); (try clear hfz14_1); (try clear hfz7_0); (try clear hfz7_1); (try clear hfz9_0); (try clear hfz9_1); (try clear hx102_0); (try clear hx102_1); (try clear p1); (try clear p10); (try clear p102); (try clear p2); (try clear q1); (try clear q10); (try clear q102)
          obtain ⟨x3_3, x29_3, rfl, HA, HK3, HO_3, BK103, HB⟩ := hrel
          cases gk with
          | zero => exact absurd HA.out (by simp [pattern_elements.l1])
          | succ k3 =>
           have H := HA.out
           clear HA
           simp only [pattern_elements.l1] at H
           by_cases c15 : x29_3 < (((rd_T47 l0 x9_1).f0).size : Int)
           ·
            rw [if_pos c15] at H
            have c15b0 : decide (x29_3 < (((rd_T47 l0 x9_1).f0).size : Int)) = true := decide_eq_true c15
            clear c15
            by_cases c16 : 0 ≤ x29_3
            ·
             rw [if_pos c16] at H
             have c16b0 : decide (0 ≤ x29_3) = true := decide_eq_true c16
             clear c16
             by_cases c17 : x29_3 < (((rd_T47 l0 x9_1).f0).size : Int)
             ·
              rw [if_pos c17] at H
              have c17b0 : decide (x29_3 < (((rd_T47 l0 x9_1).f0).size : Int)) = true := decide_eq_true c17
              clear c17
              by_cases c19 : x3_3.length < 70368744177664
              ·
               rw [if_pos c19] at H
               have LMc19 := m_ c19
               clear c19
               obtain ⟨y104, hy104⟩ : ∃ y_ : List (S51), y_ = (x3_3 ++ [(⟨bt ((rd_T47 l0 x9_1).f0) x29_3, (((rd_T47 l0 x9_1).f1) != 1)⟩ : S51)]) := ⟨_, rfl⟩
               replace H : (pattern_elements.l1 k3 y104 l0 (l0.length : Int) x9_1 (((rd_T47 l0 x9_1).f0).size : Int) (wrap64 (x29_3 + 1)) ((rd_T47 l0 x9_1).f0) ((rd_T47 l0 x9_1).f1)) = some r := by subst hy104; exact H
               have Ny104 := m_ hy104
               clear hy104
               have H' := m_ H
               clear H
               try go_wp2
               have n0_ := m_ (r3_ HO_3.out)
               have n1_ := m_ (b2_ BK103.out)
               have n2_ := m_ (l3_ HB.out)
               clear HO_3
               clear BK103
               clear HB
               have HO_3 := n0_
               have BK103 := n1_
               have HB := n2_
               clear n0_ n1_ n2_
               have p18 : 0 ≤ (x29_3 : Int) := o1_ (by with_reducible assumption)
               have q18 : x29_3 < (((rd_T47 l0 x9_1).f0).size : Int) := o1_ (by with_reducible assumption)
               have hx18 := bt_at ((rd_T47 l0 x9_1).f0) x29_3
               replace p18 := eq_true p18
               replace q18 := eq_true q18
               refine start_ (n := 12) (S := fun w' => w'.cell? ⟨gb103, 0, none⟩ = some (.string ((rd_T47 l0 x9_1).f0)) ∧ w'.cell? ⟨gb103, 1, none⟩ = some (.int .i64 ((rd_T47 l0 x9_1).f1))) (ds := []) #[false, false, false, false, false, false, false, false, false, false, false, false] (by kernel_rfl) rfl rfl ⟨(b5_ BK103.out 0).trans rfl, (b5_ BK103.out 1).trans rfl⟩ (fun hHeld => ?_); refine with_tabW pattern_elements.tab9 pattern_elements.bits9 (fun HT_ HW_ => ?_)
               generalize wr.drew = w20 at HO_3 BK103 HB hHeld ⊢
               refine pure_ (i := 0) (N := some 32) (v := ?_) (a' := ?_) #[true, false, false, false, false, false, false, false, false, false, false, false] rfl rfl (any_of HT_.out (by kernel_rfl)) (fun _ _ _ h => h) (Or.inl ⟨by rfl, ?_⟩) ?_ ?_
               rotate_left
               ·
                intro w'
                go_simp
                with_reducible rfl
               rotate_left
               ·
                simp only [Act.put, List.setIfInBounds_toArray, List.set_cons_zero, List.set_cons_succ, i64_w, i32_w]
                rfl
               refine pure_ (i := 1) (N := some 33) (v := ?_) (a' := ?_) #[true, true, false, false, false, false, false, false, false, false, false, false] rfl rfl (any_of HT_.out (by kernel_rfl)) (fun _ _ _ h => h) (Or.inl ⟨by rfl, ?_⟩) ?_ ?_
               rotate_left
               ·
                intro w'
                go_simp
                with_reducible rfl
               rotate_left
               ·
                simp only [Act.put, List.setIfInBounds_toArray, List.set_cons_zero, List.set_cons_succ, i64_w, i32_w]
                rfl
               refine pure_ (i := 3) (N := some 35) (v := ?_) (a' := ?_) #[true, true, false, true, false, false, false, false, false, false, false, false] rfl rfl (any_of HT_.out (by kernel_rfl)) (fun _ _ _ h => h) (Or.inl ⟨by rfl, ?_⟩) ?_ ?_
               rotate_left
               ·
                intro w'
                go_simp
                with_reducible rfl
               rotate_left
               ·
                simp only [Act.put, List.setIfInBounds_toArray, List.set_cons_zero, List.set_cons_succ, i64_w, i32_w]
                rfl
               refine pure_ (i := 5) (N := some 37) (v := ?_) (a' := ?_) #[true, true, false, true, false, true, false, false, false, false, false, false] rfl rfl (any_of HT_.out (by kernel_rfl)) (fun _ _ _ h => h) (Or.inl ⟨by rfl, ?_⟩) ?_ ?_
               rotate_left
               ·
                intro w'
                go_simp
                with_reducible rfl
               rotate_left
               ·
                simp only [Act.put, List.setIfInBounds_toArray, List.set_cons_zero, List.set_cons_succ, i64_w, i32_w]
                rfl
               refine take_ (i := 2) (N := some 34) (v := ?_) (a' := ?_) #[true, true, true, true, false, true, false, false, false, false, false, false] rfl rfl (take_ofW HT_.out HW_.out (by kernel_rfl)) (fun _ _ _ h => h) (Or.inl ⟨by rfl, ?_⟩) hHeld ?_ ?_
               rotate_left
               ·
                rintro w' ⟨s0, s1⟩
                go_simp
                with_reducible rfl
               rotate_left
               ·
                simp only [Act.put, List.setIfInBounds_toArray, List.set_cons_zero, List.set_cons_succ, i64_w, i32_w]
                rfl
               refine take_ (i := 4) (N := some 36) (v := ?_) (a' := ?_) #[true, true, true, true, true, true, false, false, false, false, false, false] rfl rfl (take_ofW HT_.out HW_.out (by kernel_rfl)) (fun _ _ _ h => h) (Or.inl ⟨by rfl, ?_⟩) hHeld ?_ ?_
               rotate_left
               ·
                rintro w' ⟨s0, s1⟩
                go_simp
                with_reducible rfl
               rotate_left
               ·
                simp only [Act.put, List.setIfInBounds_toArray, List.set_cons_zero, List.set_cons_succ, i64_w, i32_w]
                rfl
               refine take_ (i := 6) (N := some 38) (v := ?_) (a' := ?_) #[true, true, true, true, true, true, true, false, false, false, false, false] rfl rfl (take_ofW HT_.out HW_.out (by kernel_rfl)) (fun _ _ _ h => h) (Or.inl ⟨by rfl, ?_⟩) hHeld ?_ ?_
               rotate_left
               ·
                rintro w' ⟨s0, s1⟩
                go_simp
                with_reducible rfl
               rotate_left
               ·
                simp only [Act.put, List.setIfInBounds_toArray, List.set_cons_zero, List.set_cons_succ, i64_w, i32_w]
                rfl
               refine pure_ (i := 7) (N := some 39) (v := ?_) (a' := ?_) #[true, true, true, true, true, true, true, true, false, false, false, false] rfl rfl (any_of HT_.out (by kernel_rfl)) (fun _ _ _ h => h) (Or.inl ⟨by rfl, ?_⟩) ?_ ?_
               rotate_left
               ·
                intro w'
                go_simp
                with_reducible rfl
               rotate_left
               ·
                simp only [Act.put, List.setIfInBounds_toArray, List.set_cons_zero, List.set_cons_succ, i64_w, i32_w]
                rfl
               refine pure_ (i := 8) (N := some 40) (v := ?_) (a' := ?_) #[true, true, true, true, true, true, true, true, true, false, false, false] rfl rfl (any_of HT_.out (by kernel_rfl)) (fun _ _ _ h => h) (Or.inl ⟨by rfl, ?_⟩) ?_ ?_
               rotate_left
               ·
                intro w'
                go_simp
                with_reducible rfl
               rotate_left
               ·
                simp only [Act.put, List.setIfInBounds_toArray, List.set_cons_zero, List.set_cons_succ, i64_w, i32_w]
                rfl
               refine one_ (i := 9) (N := some 41) #[true, true, true, true, true, true, true, true, true, true, false, false] rfl rfl (one_of HT_.out (by kernel_rfl)) (by decide) (fun K hK => ?_)
               refine value_ (w1 := ?_) (v := ?_) (by rfl) rfl ?_ ?_
               rotate_left 2
               ·
                go_simp
                constructor
                ·
                 rfl
                ·
                 rfl
               refine hK.out _ _ ⟨(b5_ (b3_ BK103.out _) 0).trans rfl, (b5_ (b3_ BK103.out _) 1).trans rfl⟩ (fun hHeld => ?_)
               clear hK K
               refine norm_ (a' := ?_) ?_ ?_
               rotate_left
               ·
                show Act.put _ (some 41) _ = _
                simp only [Act.put, List.setIfInBounds_toArray, List.set_cons_zero, List.set_cons_succ, i64_w, i32_w]
                rfl
               refine one_ (i := 10) (N := some 42) #[true, true, true, true, true, true, true, true, true, true, true, false] rfl rfl (one_of HT_.out (by kernel_rfl)) (by decide) (fun K hK => ?_)
               refine Kd.R_append_step k51 (w0 := w) w.heap.size (by rfl) (.tmp 32) (.tmp 41) 48 51 (.agg #[(.int .u8 0), (.bool false)]) 2 rfl Try.underlying48 info51 rfl (by decide) (by omega) u3 x3_3 (⟨bt ((rd_T47 l0 x9_1).f0) x29_3, (((rd_T47 l0 x9_1).f1) != 1)⟩ : S51) [.int .u8 (bt ((rd_T47 l0 x9_1).f0) x29_3), .bool (((rd_T47 l0 x9_1).f1) != 1)] (fun _ => True) (fun _ => False) rfl rfl ?aP (fun _ hk => hk.elim) ?aF ?aO ?aB ?aS ?aL ?_
               (case aP => exact k51_mkM _ _ _ (⟨bt ((rd_T47 l0 x9_1).f0) x29_3, (((rd_T47 l0 x9_1).f1) != 1)⟩ : S51))
               (case aB => exact (by repeat (with_reducible first | exact HB.out | apply l1_ | apply l2_ | apply l3_ | refine l4_ ?_ GE103.out)))
               (case aF => exact (fun _ _ => trivial))
               (case aO => exact (by (with_reducible repeat (first | apply r1_ | apply r2_ | apply r3_)); exact HO_3.out))
               (case aS => exact (l6_ (by repeat (with_reducible first | exact HB.out | apply l1_ | apply l2_ | apply l3_ | refine l4_ ?_ GE103.out))))
               (case aL => have := LMc19.out; omega)
               intro v105 w21 ho hb hg hat
               rw [← Ny104.out] at ho
               have n0_ := m_ (blk_grown (g := gb103) (o := .cells #[.string ((rd_T47 l0 x9_1).f0), .int .i64 ((rd_T47 l0 x9_1).f1)] 47 (0, 0)) (by (with_reducible repeat (first | refine b1_ ?_ _ | refine b2_ ?_ | refine b3_ ?_ _)); exact BK103.out) hg (Kd.R_ne HO_3.out BK103.out (by decide)))
               have n1_ := m_ (hb)
               have n2_ := m_ (ho)
               clear BK103
               clear HB
               clear HO_3
               have BK103 := n0_
               have HB := n1_
               have HO106 := n2_
               clear n0_ n1_ n2_
               clear ho hb hg hat
               refine hK.out _ _ ⟨(b5_ BK103.out 0).trans rfl, (b5_ BK103.out 1).trans rfl⟩ (fun hHeld => ?_)
               clear hK K
               refine norm_ (a' := ?_) ?_ ?_
               rotate_left
               ·
                show Act.put _ (some 42) _ = _
                simp only [Act.put, List.setIfInBounds_toArray, List.set_cons_zero, List.set_cons_succ, i64_w, i32_w]
                rfl
               refine pure_ (i := 11) (N := some 3) (v := ?_) (a' := ?_) #[true, true, true, true, true, true, true, true, true, true, true, true] rfl rfl (any_of HT_.out (by kernel_rfl)) (fun _ _ _ h => h) (Or.inl ⟨by rfl, ?_⟩) ?_ ?_
               rotate_left
               ·
                intro w'
                go_simp
                with_reducible rfl
               rotate_left
               ·
                simp only [Act.put, List.setIfInBounds_toArray, List.set_cons_zero, List.set_cons_succ, i64_w, i32_w]
                rfl
               refine done_ (done_of HT_.out (by kernel_rfl)) ?_
               try go_wp2
               go_roundg k3
               case measure => have := HK1.out; have := HJ4.out; have := HK3.out; omega
               case rel => exact ⟨(y104), (wrap64 (x29_3 + 1)), (by first | rfl | (simp; done) | (simp [*]; done)), H', ⟨by have := HK1.out; have := HJ4.out; have := HK3.out; omega⟩, ⟨by (with_reducible repeat (first | apply r1_ | apply r2_ | apply r3_)); exact HO106.out⟩, ⟨by (with_reducible repeat (first | refine b1_ ?_ _ | refine b2_ ?_ | refine b3_ ?_ _)); exact BK103.out⟩, ⟨by repeat (with_reducible first | exact HB.out | apply l1_ | apply l2_ | apply l3_ | refine l4_ ?_ GE103.out)⟩⟩
              rw [if_neg c19] at H
              exact absurd H (by simp)
             rw [if_neg c17] at H
             exact absurd H (by simp)
            rw [if_neg c16] at H
            exact absurd H (by simp)
           rw [if_neg c15] at H
           have c15b0 : decide (x29_3 < (((rd_T47 l0 x9_1).f0).size : Int)) = false := decide_eq_false c15
           clear c15
           have H' := m_ H
           clear H
           go_wp2
           go_roundg k3
           case measure => have := HK1.out; have := HJ4.out; have := HK3.out; omega
           case rel => exact ⟨(x3_3), (wrap64 (x9_1 + 1)), (by first | rfl | (simp; done) | (simp [*]; done)), H', ⟨by have := HK1.out; have := HJ4.out; have := HK3.out; omega⟩, ⟨by (with_reducible repeat (first | apply r1_ | apply r2_ | apply r3_)); exact HO_3.out⟩, ⟨by repeat (with_reducible first | exact HB.out | apply l1_ | apply l2_ | apply l3_ | refine l4_ ?_ GE103.out)⟩⟩
     rw [if_neg c4] at H
     exact absurd H (by simp)
    rw [if_neg c3] at H
    exact absurd H (by simp)
   rw [if_neg c2] at H
   have c2b0 : decide (x9_1 < (l0.length : Int)) = false := decide_eq_false c2
   clear c2
   obtain rfl := Option.some.inj H
   go_wp2
   go_ret
   exact ⟨_, by first | rfl | (simp [errW_none, errW_some] <;> rfl) | (simp [*, errW_none, errW_some] <;> rfl), by (with_reducible repeat (first | apply r1_ | apply r2_ | apply r3_)); exact HO_3.out, by repeat (with_reducible first | exact HB.out | apply l1_ | apply l2_ | apply l3_)⟩
end Go.Proofs.Ytbekhjcnmifnnaa.Q
