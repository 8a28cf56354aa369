import Derived.Test.YtbekhjcnmifnnaaQ0
set_option linter.unusedVariables false
set_option linter.unusedSimpArgs false
namespace Go.Proofs.Ytbekhjcnmifnnaa.Q
open Go.RowKit Go.Proofs.YtbekhjcnmifnnaaW.PrintWords Go.Proofs.YtbekhjcnmifnnaaW.PrintLast Go.Proofs.YtbekhjcnmifnnaaW.PrintMore
theorem isE_ (l : List UInt8) : (!(l != ([] : List UInt8))) = l.isEmpty := by cases l <;> rfl
mutual
def pattern_valid.j0 : Nat → Bool → Int → ByteArray → Bool → List (S58) → Option (Bool)
 | 0, _, _, _, _, _ => none
 | k + 1, x27, x185000, x185001, x185002, x185003 => if x27 = true then (some false) else (if x185000 = 1 then (some ((x185001.size : Int) == 1)) else (if x185000 = 2 then (pattern_valid.j1 k x185000 (x185000 == 2) x185000 x185001 x185002 x185003) else (pattern_valid.j1 k x185000 (x185000 == 3) x185000 x185001 x185002 x185003)))
def pattern_valid.j1 : Nat → Int → Bool → Int → ByteArray → Bool → List (S58) → Option (Bool)
 | 0, _, _, _, _, _, _ => none
 | k + 1, x29, x36, x185000, x185001, x185002, x185003 => if x36 = true then (some true) else (if x29 = 4 then (pattern_valid.l0 k x185003 (x185003.length : Int) 0 x185000 x185001 x185002 x185003) else (some false))
def pattern_valid.l0 : Nat → List (S58) → Int → Int → Int → ByteArray → Bool → List (S58) → Option (Bool)
 | 0, _, _, _, _, _, _, _ => none
 | k + 1, x42, x43, x44, x185000, x185001, x185002, x185003 => if x44 < x43 then (if 0 ≤ x44 then (if x44 < (x42.length : Int) then (if ((rd_T58 x42 x44).f0) > ((rd_T58 x42 x44).f1) then (some false) else (if x44 > 0 then (if 0 ≤ (wrap64 (x44 - 1)) then (if (wrap64 (x44 - 1)) < (x185003.length : Int) then (if (wrap64 ((rd_T58 x42 x44).f0)) ≤ (wrap64 ((wrap64 ((rd_T58 x185003 (wrap64 (x44 - 1))).f1)) + 1)) then (some false) else (pattern_valid.l0 k x42 x43 (wrap64 (x44 + 1)) x185000 x185001 x185002 x185003)) else (none)) else (none)) else (pattern_valid.l0 k x42 x43 (wrap64 (x44 + 1)) x185000 x185001 x185002 x185003))) else (none)) else (none)) else (some true)
end
def pattern_valid.f (k : Nat) (a0_0 : Int) (a0_1 : ByteArray) (a0_2 : Bool) (l0_3 : List (S58)) : Option (Bool) := if a0_0 = 4 then (if a0_0 = 1 then (pattern_valid.j0 k false a0_0 a0_1 a0_2 l0_3) else (pattern_valid.j0 k (a0_1.toList != ([] : List UInt8)) a0_0 a0_1 a0_2 l0_3)) else (if a0_2 = true then (pattern_valid.j0 k true a0_0 a0_1 a0_2 l0_3) else (if (l0_3.length : Int) > 0 then (pattern_valid.j0 k true a0_0 a0_1 a0_2 l0_3) else (if a0_0 = 1 then (pattern_valid.j0 k false a0_0 a0_1 a0_2 l0_3) else (pattern_valid.j0 k (a0_1.toList != ([] : List UInt8)) a0_0 a0_1 a0_2 l0_3))))
theorem pattern_valid.mono_l : ∀ k, (∀ y0 y1 y2 y3 y4, LeO (pattern_valid.j0 k y0 y1 y2 y3 y4) (pattern_valid.j0 (k + 1) y0 y1 y2 y3 y4)) ∧ (∀ y0 y1 y2 y3 y4 y5, LeO (pattern_valid.j1 k y0 y1 y2 y3 y4 y5) (pattern_valid.j1 (k + 1) y0 y1 y2 y3 y4 y5)) ∧ (∀ y0 y1 y2 y3 y4 y5 y6, LeO (pattern_valid.l0 k y0 y1 y2 y3 y4 y5 y6) (pattern_valid.l0 (k + 1) y0 y1 y2 y3 y4 y5 y6))
 | 0 => ⟨fun _ _ _ _ _ r h => by simp [pattern_valid.j0] at h, fun _ _ _ _ _ _ r h => by simp [pattern_valid.j1] at h, fun _ _ _ _ _ _ _ r h => by simp [pattern_valid.l0] at h⟩
 | k + 1 => by
  obtain ⟨ih0, ih1, ih2⟩ := pattern_valid.mono_l k
  refine ⟨?_, ?_, ?_⟩
  all_goals (intros; first | unfold pattern_valid.j0 | unfold pattern_valid.j1 | unfold pattern_valid.l0)
  all_goals repeat' first
   | (with_reducible exact ih0 _ _ _ _ _)
   | (with_reducible exact ih1 _ _ _ _ _ _)
   | (with_reducible exact ih2 _ _ _ _ _ _ _)
   | (with_reducible exact LeO.refl _)
   | (with_reducible exact LeO.none _)
   | (with_reducible refine LeO.ite ?_ ?_)
   | (with_reducible refine LeO.bind ?_ (fun _ => ?_))
theorem pattern_valid.mono : ∀ a0 a1 a2 a3 k, LeO (pattern_valid.f k a0 a1 a2 a3) (pattern_valid.f (k + 1) a0 a1 a2 a3) := by
 intro a0 a1 a2 a3 k
 obtain ⟨ih0, ih1, ih2⟩ := pattern_valid.mono_l k
 unfold pattern_valid.f
 repeat' first
  | (with_reducible exact ih0 _ _ _ _ _)
  | (with_reducible exact ih1 _ _ _ _ _ _)
  | (with_reducible exact ih2 _ _ _ _ _ _ _)
  | (with_reducible exact LeO.refl _)
  | (with_reducible exact LeO.none _)
  | (with_reducible refine LeO.ite ?_ ?_)
  | (with_reducible refine LeO.bind ?_ (fun _ => ?_))
set_option maxHeartbeats 8000000 in
set_option maxRecDepth 100000 in
theorem pattern_valid.calls (k : Nat) (a0_0 : Int) (a0_1 : ByteArray) (a0_2 : Bool) (A0_3 : Option Addr) (c0_3 : Nat) (l0_3 : List (S58)) (r : Bool) (w : World) (hr0_3 : Kd.C k58 w A0_3 l0_3.length l0_3) (hc0_3 : l0_3.length ≤ c0_3) (h : pattern_valid.f k a0_0 a0_1 a0_2 l0_3 = some r) :
 Calls Try.prog 44 #[.agg #[.int .i64 a0_0, .string a0_1, .bool a0_2, .slice A0_3 l0_3.length c0_3]] w fun e w' => e = .returned (.bool r) ∧ Below w.heap.size w w' := by
 have hu35 := Try.underlying35
 have hu58 := Try.underlying58
 have HR0_3 := m_ hr0_3
 have HC0_3 := m_ hc0_3
 clear hr0_3 hc0_3
 have HB := m_ (Below.refl w.heap.size w)
 have H : (if a0_0 = 4 then (if a0_0 = 1 then (pattern_valid.j0 k false a0_0 a0_1 a0_2 l0_3) else (pattern_valid.j0 k (a0_1.toList != ([] : List UInt8)) a0_0 a0_1 a0_2 l0_3)) else (if a0_2 = true then (pattern_valid.j0 k true a0_0 a0_1 a0_2 l0_3) else (if (l0_3.length : Int) > 0 then (pattern_valid.j0 k true a0_0 a0_1 a0_2 l0_3) else (if a0_0 = 1 then (pattern_valid.j0 k false a0_0 a0_1 a0_2 l0_3) else (pattern_valid.j0 k (a0_1.toList != ([] : List UInt8)) a0_0 a0_1 a0_2 l0_3))))) = some r := h
 clear h
 have HC2 := m_ H
 clear H
 go_enter Try.func44, Try.ntmps44
 go_upto_region 1 with (first | ((with_reducible refine gate_dst (N := 1) rfl ?_); (try (refine gate_guard (by rfl) ?_; dsimp only)); refine box_event ?hg (N := 1) ?hd (cs := #[.int .i64 a0_0, .string a0_1, .bool a0_2, .slice A0_3 l0_3.length c0_3]) (t := 35) ?hr ?_; (case hd => rfl); (case hg => rfl); (case hr => first | (go_simp; done) | (go_simp; rfl)); intro gb184 hg w3 hbox hb; have BK184 := m_ (hbox); have GW184 := m_ ((by rw [hg]; exact (l6_ (by repeat (with_reducible first | exact HB.out | apply l1_ | apply l2_ | apply l3_))) : w.heap.size ≤ gb184)); have GE184 := m_ ((by rw [hg]; exact (l6_ (by repeat (with_reducible first | exact HB.out | apply l1_ | apply l2_ | apply l3_))) : w.heap.size ≤ gb184)); replace HB := m_ (l5_ (by repeat (with_reducible first | exact HB.out | apply l1_ | apply l2_ | apply l3_)) hb); clear hb hbox hg))
 (try simp only [Act.put, List.setIfInBounds_toArray, List.set_cons_zero, List.set_cons_succ])
 go_cut [27] (fun v27 wc => ∃ (kq : Nat) (x27_1 : Bool), v27 = .bool x27_1 ∧ Aside0 (pattern_valid.j0 kq x27_1 a0_0 a0_1 a0_2 l0_3 = some r) ∧ Aside0 (kq ≤ k) ∧ Aside0 (wc.heap[gb184]? = some (.cells #[.int .i64 a0_0, .string a0_1, .bool a0_2, (.slice A0_3 l0_3.length c0_3)] 35 (0, 0))) ∧ Aside0 (Below w.heap.size w wc))
 case first =>
  have H := HC2.out
  clear HC2
  by_cases c4 : a0_0 = 4
  ·
   rw [if_pos c4] at H
   have c4b0 : (a0_0 == 4) = true := beq_iff_eq.mpr c4
   have c4b1 : (a0_0 != 4) = false := bne_eq_false_iff_eq.mpr c4
   clear c4
   (first | rw [c4b0] | (simp only [i64_w, i32_w]; rw [c4b0]) | skip)
   by_cases c5 : a0_0 = 1
   ·
    rw [if_pos c5] at H
    have c5b0 : (a0_0 == 1) = true := beq_iff_eq.mpr c5
    have c5b1 : (a0_0 != 1) = false := bne_eq_false_iff_eq.mpr c5
    clear c5
    have H' := m_ H
    clear H
    have hcz6_0 : w3.cell? ⟨gb184, 0, none⟩ = some (.int .i64 a0_0) := (b5_ BK184.out 0).trans rfl
    have hcz6_1 : w3.cell? ⟨gb184, 1, none⟩ = some (.string a0_1) := (b5_ BK184.out 1).trans rfl
    have hcz6_2 : w3.cell? ⟨gb184, 2, none⟩ = some (.bool a0_2) := (b5_ BK184.out 2).trans rfl
    have hcz6_3 : w3.cell? ⟨gb184, 3, none⟩ = some (.slice A0_3 l0_3.length c0_3) := (b5_ BK184.out 3).trans rfl
    have hfz6_0 := f1_ BK184.out 0
    have hfz6_1 := f1_ BK184.out 1
    have hfz6_2 := f1_ BK184.out 2
    have hfz6_3 := f1_ BK184.out 3
    go_wp2
    go_meet
    case rel => exact ⟨_, (false), (by first | rfl | (simp; done) | (simp [*]; done)), H', ⟨by first | omega | exact Nat.le_refl _⟩, ⟨by (with_reducible repeat (first | refine b1_ ?_ _ | refine b2_ ?_ | refine b3_ ?_ _)); exact BK184.out⟩, ⟨by repeat (with_reducible first | exact HB.out | apply l1_ | apply l2_ | apply l3_ | refine l4_ ?_ GE184.out)⟩⟩
   rw [if_neg c5] at H
   have c5b0 : (a0_0 == 1) = false := beq_eq_false_iff_ne.mpr c5
   have c5b1 : (a0_0 != 1) = true := bne_iff_ne.mpr c5
   have H' := m_ H
   clear H
   have hcz7_0 : w3.cell? ⟨gb184, 0, none⟩ = some (.int .i64 a0_0) := (b5_ BK184.out 0).trans rfl
   have hcz7_1 : w3.cell? ⟨gb184, 1, none⟩ = some (.string a0_1) := (b5_ BK184.out 1).trans rfl
   have hcz7_2 : w3.cell? ⟨gb184, 2, none⟩ = some (.bool a0_2) := (b5_ BK184.out 2).trans rfl
   have hcz7_3 : w3.cell? ⟨gb184, 3, none⟩ = some (.slice A0_3 l0_3.length c0_3) := (b5_ BK184.out 3).trans rfl
   have hfz7_0 := f1_ BK184.out 0
   have hfz7_1 := f1_ BK184.out 1
   have hfz7_2 := f1_ BK184.out 2
   have hfz7_3 := f1_ BK184.out 3
   go_wp2
   go_meet
   case rel => exact ⟨_, ((a0_1.toList != ([] : List UInt8))), (by first | rfl | (simp; done) | (simp [*]; done) | (simp [isE_]; done) | (generalize a0_1.toList = l_; cases l_ <;> rfl) | (generalize a0_1.toList = l_; cases l_ <;> simp)), H', ⟨by first | omega | exact Nat.le_refl _⟩, ⟨by (with_reducible repeat (first | refine b1_ ?_ _ | refine b2_ ?_ | refine b3_ ?_ _)); exact BK184.out⟩, ⟨by repeat (with_reducible first | exact HB.out | apply l1_ | apply l2_ | apply l3_ | refine l4_ ?_ GE184.out)⟩⟩
  rw [if_neg c4] at H
  have c4b0 : (a0_0 == 4) = false := beq_eq_false_iff_ne.mpr c4
  have c4b1 : (a0_0 != 4) = true := bne_iff_ne.mpr c4
  (first | rw [c4b0] | (simp only [i64_w, i32_w]; rw [c4b0]) | skip)
  by_cases c8 : a0_2 = true
  ·
   subst c8
   rw [if_pos rfl] at H
   have H' := m_ H
   clear H
   have hcz9_0 : w3.cell? ⟨gb184, 0, none⟩ = some (.int .i64 a0_0) := (b5_ BK184.out 0).trans rfl
   have hcz9_1 : w3.cell? ⟨gb184, 1, none⟩ = some (.string a0_1) := (b5_ BK184.out 1).trans rfl
   have hcz9_2 : w3.cell? ⟨gb184, 2, none⟩ = some (.bool true) := (b5_ BK184.out 2).trans rfl
   have hcz9_3 : w3.cell? ⟨gb184, 3, none⟩ = some (.slice A0_3 l0_3.length c0_3) := (b5_ BK184.out 3).trans rfl
   have hfz9_0 := f1_ BK184.out 0
   have hfz9_1 := f1_ BK184.out 1
   have hfz9_2 := f1_ BK184.out 2
   have hfz9_3 := f1_ BK184.out 3
   go_wp2
   go_meet
   case rel => exact ⟨_, (true), (by first | rfl | (simp; done) | (simp [*]; done)), H', ⟨by first | omega | exact Nat.le_refl _⟩, ⟨by (with_reducible repeat (first | refine b1_ ?_ _ | refine b2_ ?_ | refine b3_ ?_ _)); exact BK184.out⟩, ⟨by repeat (with_reducible first | exact HB.out | apply l1_ | apply l2_ | apply l3_ | refine l4_ ?_ GE184.out)⟩⟩
  ·
   replace c8 := Bool.eq_false_iff.mpr c8
   subst c8
   rw [if_neg (show ¬ (false = true) by decide)] at H
   by_cases c10 : (l0_3.length : Int) > 0
   ·
    rw [if_pos c10] at H
    have c10b0 : decide (0 < (l0_3.length : Int)) = true := decide_eq_true c10
    have c10b1 : decide (0 < l0_3.length) = true := decide_eq_true (by omega)
    clear c10
    have H' := m_ H
    clear H
    have hcz11_0 : w3.cell? ⟨gb184, 0, none⟩ = some (.int .i64 a0_0) := (b5_ BK184.out 0).trans rfl
    have hcz11_1 : w3.cell? ⟨gb184, 1, none⟩ = some (.string a0_1) := (b5_ BK184.out 1).trans rfl
    have hcz11_2 : w3.cell? ⟨gb184, 2, none⟩ = some (.bool false) := (b5_ BK184.out 2).trans rfl
    have hcz11_3 : w3.cell? ⟨gb184, 3, none⟩ = some (.slice A0_3 l0_3.length c0_3) := (b5_ BK184.out 3).trans rfl
    have hfz11_0 := f1_ BK184.out 0
    have hfz11_1 := f1_ BK184.out 1
    have hfz11_2 := f1_ BK184.out 2
    have hfz11_3 := f1_ BK184.out 3
    go_wp2
    go_meet
    case rel => exact ⟨_, (true), (by first | rfl | (simp; done) | (simp [*]; done)), H', ⟨by first | omega | exact Nat.le_refl _⟩, ⟨by (with_reducible repeat (first | refine b1_ ?_ _ | refine b2_ ?_ | refine b3_ ?_ _)); exact BK184.out⟩, ⟨by repeat (with_reducible first | exact HB.out | apply l1_ | apply l2_ | apply l3_ | refine l4_ ?_ GE184.out)⟩⟩
   rw [if_neg c10] at H
   have c10b0 : decide (0 < (l0_3.length : Int)) = false := decide_eq_false c10
   have c10b1 : decide (0 < l0_3.length) = false := decide_eq_false (by omega)
   clear c10
   by_cases c12 : a0_0 = 1
   ·
    rw [if_pos c12] at H
    have c12b0 : (a0_0 == 1) = true := beq_iff_eq.mpr c12
    have c12b1 : (a0_0 != 1) = false := bne_eq_false_iff_eq.mpr c12
    clear c12
    have H' := m_ H
    clear H
    have hcz13_0 : w3.cell? ⟨gb184, 0, none⟩ = some (.int .i64 a0_0) := (b5_ BK184.out 0).trans rfl
    have hcz13_1 : w3.cell? ⟨gb184, 1, none⟩ = some (.string a0_1) := (b5_ BK184.out 1).trans rfl
    have hcz13_2 : w3.cell? ⟨gb184, 2, none⟩ = some (.bool false) := (b5_ BK184.out 2).trans rfl
    have hcz13_3 : w3.cell? ⟨gb184, 3, none⟩ = some (.slice A0_3 l0_3.length c0_3) := (b5_ BK184.out 3).trans rfl
    have hfz13_0 := f1_ BK184.out 0
    have hfz13_1 := f1_ BK184.out 1
    have hfz13_2 := f1_ BK184.out 2
    have hfz13_3 := f1_ BK184.out 3
    go_wp2
    go_meet
    case rel => exact ⟨_, (false), (by first | rfl | (simp; done) | (simp [*]; done)), H', ⟨by first | omega | exact Nat.le_refl _⟩, ⟨by (with_reducible repeat (first | refine b1_ ?_ _ | refine b2_ ?_ | refine b3_ ?_ _)); exact BK184.out⟩, ⟨by repeat (with_reducible first | exact HB.out | apply l1_ | apply l2_ | apply l3_ | refine l4_ ?_ GE184.out)⟩⟩
   rw [if_neg c12] at H
   have c12b0 : (a0_0 == 1) = false := beq_eq_false_iff_ne.mpr c12
   have c12b1 : (a0_0 != 1) = true := bne_iff_ne.mpr c12
   have H' := m_ H
   clear H
   have hcz14_0 : w3.cell? ⟨gb184, 0, none⟩ = some (.int .i64 a0_0) := (b5_ BK184.out 0).trans rfl
   have hcz14_1 : w3.cell? ⟨gb184, 1, none⟩ = some (.string a0_1) := (b5_ BK184.out 1).trans rfl
   have hcz14_2 : w3.cell? ⟨gb184, 2, none⟩ = some (.bool false) := (b5_ BK184.out 2).trans rfl
   have hcz14_3 : w3.cell? ⟨gb184, 3, none⟩ = some (.slice A0_3 l0_3.length c0_3) := (b5_ BK184.out 3).trans rfl
   have hfz14_0 := f1_ BK184.out 0
   have hfz14_1 := f1_ BK184.out 1
   have hfz14_2 := f1_ BK184.out 2
   have hfz14_3 := f1_ BK184.out 3
   go_wp2
   go_meet
   case rel => exact ⟨_, ((a0_1.toList != ([] : List UInt8))), (by first | rfl | (simp; done) | (simp [*]; done) | (simp [isE_]; done) | (generalize a0_1.toList = l_; cases l_ <;> rfl) | (generalize a0_1.toList = l_; cases l_ <;> simp)), H', ⟨by first | omega | exact Nat.le_refl _⟩, ⟨by (with_reducible repeat (first | refine b1_ ?_ _ | refine b2_ ?_ | refine b3_ ?_ _)); exact BK184.out⟩, ⟨by repeat (with_reducible first | exact HB.out | apply l1_ | apply l2_ | apply l3_ | refine l4_ ?_ GE184.out)⟩⟩
 case rest =>
  clear HC2
  (try clear c1); (try clear p2); (try clear c4); (try clear c4b0); (try clear c4b1); (try clear c5); (try clear c5b0); (try clear c5b1); (try clear c8); (try clear c10); (try clear c10b0); (try clear c10b1); (try clear c12); (try clear c12b0); (try clear c12b1); (try clear hcz11_0); (try clear hcz11_1); (try clear hcz11_2); (try clear hcz11_3); (try clear hcz13_0); (try clear hcz13_1); (try clear hcz13_2); (try clear hcz13_3); (try clear hcz14_0); (try clear hcz14_1); (try clear hcz14_2); (try clear hcz14_3); (try clear hcz6_0); (try clear hcz6_1); (try clear hcz6_2); (try clear hcz6_3); (try clear hcz7_0); (try clear hcz7_1); (try clear hcz7_2); (try clear hcz7_3); (try clear hcz9_0); (try clear hcz9_1); (try clear hcz9_2); (try clear hcz9_3); (try clear hfz11_0); (try clear hfz11_1); (try clear hfz11_2); (try clear hfz11_3); (try clear hfz13_0); (try clear hfz13_1); (try clear hfz13_2); (try clear hfz13_3); (try clear hfz14_0); (try clear hfz14_1); (try clear hfz14_2); (try clear hfz14_3); (try clear hfz6_0); (try clear hfz6_1); (try clear hfz6_2); (try clear hfz6_3); (try clear hfz7_0); (try clear hfz7_1); (try clear hfz7_2); (try clear hfz7_3); (try clear hfz9_0); (try clear hfz9_1); (try clear hfz9_2); (try clear hfz9_3)
  obtain ⟨kq, x27_1, rfl, HA, HJ1, BK184, HB⟩ := hcut
  cases kq with
  | zero => exact absurd HA.out (by simp [pattern_valid.j0])
  | succ kj1 =>
   have H := HA.out
   clear HA
   simp only [pattern_valid.j0] at H
   by_cases c15 : x27_1 = true
   ·
    subst c15
    rw [if_pos rfl] at H
    obtain rfl := Option.some.inj H
    go_wp2
    go_ret
    exact ⟨by first | rfl | (simp [errW_none, errW_some] <;> rfl) | (simp [*, errW_none, errW_some] <;> rfl), by repeat (with_reducible first | exact HB.out | apply l1_ | apply l2_ | apply l3_ | refine l4_ ?_ GE184.out)⟩
   ·
    replace c15 := Bool.eq_false_iff.mpr c15
    subst c15
    rw [if_neg (show ¬ (false = true) by decide)] at H
    by_cases c16 : a0_0 = 1
    ·
     rw [if_pos c16] at H
     have c16b0 : (a0_0 == 1) = true := beq_iff_eq.mpr c16
     have c16b1 : (a0_0 != 1) = false := bne_eq_false_iff_eq.mpr c16
     clear c16
     obtain rfl := Option.some.inj H
     have hcz17_0 : wc.cell? ⟨gb184, 0, none⟩ = some (.int .i64 a0_0) := (b5_ BK184.out 0).trans rfl
     have hcz17_1 : wc.cell? ⟨gb184, 1, none⟩ = some (.string a0_1) := (b5_ BK184.out 1).trans rfl
     have hcz17_2 : wc.cell? ⟨gb184, 2, none⟩ = some (.bool a0_2) := (b5_ BK184.out 2).trans rfl
     have hcz17_3 : wc.cell? ⟨gb184, 3, none⟩ = some (.slice A0_3 l0_3.length c0_3) := (b5_ BK184.out 3).trans rfl
     have hfz17_0 := f1_ BK184.out 0
     have hfz17_1 := f1_ BK184.out 1
     have hfz17_2 := f1_ BK184.out 2
     have hfz17_3 := f1_ BK184.out 3
     go_wp2
     go_ret
     exact ⟨by first | rfl | (simp [errW_none, errW_some] <;> rfl) | (simp [*, errW_none, errW_some] <;> rfl), by repeat (with_reducible first | exact HB.out | apply l1_ | apply l2_ | apply l3_ | refine l4_ ?_ GE184.out)⟩
    rw [if_neg c16] at H
    have c16b0 : (a0_0 == 1) = false := beq_eq_false_iff_ne.mpr c16
    have c16b1 : (a0_0 != 1) = true := bne_iff_ne.mpr c16
    have HC18 := m_ H
    clear H
    have hcz19_0 : wc.cell? ⟨gb184, 0, none⟩ = some (.int .i64 a0_0) := (b5_ BK184.out 0).trans rfl
    have hcz19_1 : wc.cell? ⟨gb184, 1, none⟩ = some (.string a0_1) := (b5_ BK184.out 1).trans rfl
    have hcz19_2 : wc.cell? ⟨gb184, 2, none⟩ = some (.bool a0_2) := (b5_ BK184.out 2).trans rfl
    have hcz19_3 : wc.cell? ⟨gb184, 3, none⟩ = some (.slice A0_3 l0_3.length c0_3) := (b5_ BK184.out 3).trans rfl
    have hfz19_0 := f1_ BK184.out 0
    have hfz19_1 := f1_ BK184.out 1
    have hfz19_2 := f1_ BK184.out 2
    have hfz19_3 := f1_ BK184.out 3
    go_upto_if 36 with (fail)
    go_cut [36] (fun v36 wc => ∃ (kq : Nat) (x36_17 : Bool), v36 = .bool x36_17 ∧ Aside0 (pattern_valid.j1 kq a0_0 x36_17 a0_0 a0_1 a0_2 l0_3 = some r) ∧ Aside0 (kq ≤ kj1) ∧ Aside0 (wc.heap[gb184]? = some (.cells #[.int .i64 a0_0, .string a0_1, .bool a0_2, (.slice A0_3 l0_3.length c0_3)] 35 (0, 0))) ∧ Aside0 (Below w.heap.size w wc))
    case first =>
     have H := HC18.out
     clear HC18
     by_cases c20 : a0_0 = 2
     ·
      rw [if_pos c20] at H
      have c20b0 : (a0_0 == 2) = true := beq_iff_eq.mpr c20
      have c20b1 : (a0_0 != 2) = false := bne_eq_false_iff_eq.mpr c20
      clear c20
      (first | rw [c20b0] | (simp only [i64_w, i32_w]; rw [c20b0]) | skip)
      have H' := m_ H
      clear H
      go_wp2
      go_meet
      case rel => exact ⟨_, ((a0_0 == 2)), (by first | rfl | (simp; done) | (simp [*]; done)), H', ⟨by have := HJ1.out; first | omega | exact Nat.le_refl _⟩, ⟨by (with_reducible repeat (first | refine b1_ ?_ _ | refine b2_ ?_ | refine b3_ ?_ _)); exact BK184.out⟩, ⟨by repeat (with_reducible first | exact HB.out | apply l1_ | apply l2_ | apply l3_ | refine l4_ ?_ GE184.out)⟩⟩
     rw [if_neg c20] at H
     have c20b0 : (a0_0 == 2) = false := beq_eq_false_iff_ne.mpr c20
     have c20b1 : (a0_0 != 2) = true := bne_iff_ne.mpr c20
     (first | rw [c20b0] | (simp only [i64_w, i32_w]; rw [c20b0]) | skip)
     have H' := m_ H
     clear H
     go_wp2
     go_meet
     case rel => exact ⟨_, ((a0_0 == 3)), (by first | rfl | (simp; done) | (simp [*]; done)), H', ⟨by have := HJ1.out; first | omega | exact Nat.le_refl _⟩, ⟨by (with_reducible repeat (first | refine b1_ ?_ _ | refine b2_ ?_ | refine b3_ ?_ _)); exact BK184.out⟩, ⟨by repeat (with_reducible first | exact HB.out | apply l1_ | apply l2_ | apply l3_ | refine l4_ ?_ GE184.out)⟩⟩
    case rest =>
     clear HC18
     (try clear c1); (try clear c2); (try clear p2); (try clear c4); (try clear c4b0); (try clear c4b1); (try clear c5); (try clear c5b0); (try clear c5b1); (try clear c8); (try clear c10); (try clear c10b0); (try clear c10b1); (try clear c12); (try clear c12b0); (try clear c12b1); (try clear c15); (try clear c16); (try clear c16b0); (try clear c16b1); (try clear c20); (try clear c20b0); (try clear c20b1); (try clear hcz11_0); (try clear hcz11_1); (try clear hcz11_2); (try clear hcz11_3); (try clear hcz13_0); (try clear hcz13_1); (try clear hcz13_2); (try clear hcz13_3); (try clear hcz14_0); (try clear hcz14_1); (try clear hcz14_2); (try clear hcz14_3); (try clear hcz17_0); (try clear hcz17_1); (try clear hcz17_2); (try clear hcz17_3); (try clear hcz19_0); (try clear hcz19_1); (try clear hcz19_2); (try clear hcz19_3); (try clear hcz6_0); (try clear hcz6_1); (try clear hcz6_2); (try clear hcz6_3); (try clear hcz7_0); (try clear hcz7_1); (try clear hcz7_2); (try clear hcz7_3); (try clear hcz9_0); (try clear hcz9_1); (try clear hcz9_2); (try clear hcz9_3); (try clear hfz11_0); (try clear hfz11_1); (try clear hfz11_2); (try clear hfz11_3); (try clear hfz13_0); (try clear hfz13_1); (try clear hfz13_2); (try clear hfz13_3); (try clear hfz14_0); (try clear hfz14_1); (try clear hfz14_2); (try clear hfz14_3); (try clear hfz17_0); (try clear hfz17_1); (try clear hfz17_2); (try clear hfz17_3); (try clear hfz19_0); (try clear hfz19_1); (try clear hfz19_2); (try clear hfz19_3); (try clear hfz6_0); (try clear hfz6_1); (try clear hfz6_2); (try clear hfz6_3); (try clear hfz7_0); (try clear hfz7_1); (try clear hfz7_2); (try clear hfz7_3); (try clear hfz9_0); (try clear hfz9_1); (try clear hfz9_2); (try clear hfz9_3); (try clear p2)
     obtain ⟨kq, x36_17, rfl, HA, HJ17, BK184, HB⟩ := hcut
     cases kq with
     | zero => exact absurd HA.out (by simp [pattern_valid.j1])
     | succ kj17 =>
      have H := HA.out
      clear HA
      simp only [pattern_valid.j1] at H
      by_cases c21 : x36_17 = true
      ·
       subst c21
       rw [if_pos rfl] at H
       obtain rfl := Option.some.inj H
       go_wp2
       go_ret
       exact ⟨by first | rfl | (simp [errW_none, errW_some] <;> rfl) | (simp [*, errW_none, errW_some] <;> rfl), by repeat (with_reducible first | exact HB.out | apply l1_ | apply l2_ | apply l3_ | refine l4_ ?_ GE184.out)⟩
      ·
       replace c21 := Bool.eq_false_iff.mpr c21
       subst c21
       rw [if_neg (show ¬ (false = true) by decide)] at H
       by_cases c22 : a0_0 = 4
       ·
        rw [if_pos c22] at H
        have c22b0 : (a0_0 == 4) = true := beq_iff_eq.mpr c22
        have c22b1 : (a0_0 != 4) = false := bne_eq_false_iff_eq.mpr c22
        clear c22
        have H' := m_ H
        clear H
        have hcz23_0 : wc.cell? ⟨gb184, 0, none⟩ = some (.int .i64 a0_0) := (b5_ BK184.out 0).trans rfl
        have hcz23_1 : wc.cell? ⟨gb184, 1, none⟩ = some (.string a0_1) := (b5_ BK184.out 1).trans rfl
        have hcz23_2 : wc.cell? ⟨gb184, 2, none⟩ = some (.bool a0_2) := (b5_ BK184.out 2).trans rfl
        have hcz23_3 : wc.cell? ⟨gb184, 3, none⟩ = some (.slice A0_3 l0_3.length c0_3) := (b5_ BK184.out 3).trans rfl
        have hfz23_0 := f1_ BK184.out 0
        have hfz23_1 := f1_ BK184.out 1
        have hfz23_2 := f1_ BK184.out 2
        have hfz23_3 := f1_ BK184.out 3
        go_wp2
        go_loopg [44] kj17 (fun kq v44 w' => ∃ (x44_3 : Int), v44 = .int .i64 x44_3 ∧ Aside0 (pattern_valid.l0 kq l0_3 (l0_3.length : Int) x44_3 a0_0 a0_1 a0_2 l0_3 = some r) ∧ Aside0 (kq ≤ kj17) ∧ Aside0 (w'.heap[gb184]? = some (.cells #[.int .i64 a0_0, .string a0_1, .bool a0_2, (.slice A0_3 l0_3.length c0_3)] 35 (0, 0))) ∧ Aside0 (Below w.heap.size w w'))
        case atStart => exact ⟨(0), (by first | rfl | (simp; done) | (simp [*]; done)), H', ⟨Nat.le_refl _⟩, ⟨by (with_reducible repeat (first | refine b1_ ?_ _ | refine b2_ ?_ | refine b3_ ?_ _)); exact BK184.out⟩, ⟨by repeat (with_reducible first | exact HB.out | apply l1_ | apply l2_ | apply l3_ | refine l4_ ?_ GE184.out)⟩⟩
        case round =>
         clear H'
         (try clear c1); (try clear c2); (try clear p2); (try clear c4); (try clear c4b0); (try clear c4b1); (try clear c5); (try clear c5b0); (try clear c5b1); (try clear c8); (try clear c10); (try clear c10b0); (try clear c10b1); (try clear c12); (try clear c12b0); (try clear c12b1); (try clear c15); (try clear c16); (try clear c16b0); (try clear c16b1); (try clear c20); (try clear c20b0); (try clear c20b1); (try clear c21); (try clear c22); (try clear c22b0); (try clear c22b1); (try clear hcz11_0); (try clear hcz11_1); (try clear hcz11_2); (try clear hcz11_3); (try clear hcz13_0); (try clear hcz13_1); (try clear hcz13_2); (try clear hcz13_3); (try clear hcz14_0); (try clear hcz14_1); (try clear hcz14_2); (try clear hcz14_3); (try clear hcz17_0); (try clear hcz17_1); (try clear hcz17_2); (try clear hcz17_3); (try clear hcz19_0); (try clear hcz19_1); (try clear hcz19_2); (try clear hcz19_3); (try clear hcz23_0); (try clear hcz23_1); (try clear hcz23_2); (try clear hcz23_3); (try clear hcz6_0); (try clear hcz6_1); (try clear hcz6_2); (try clear hcz6_3); (try clear hcz7_0); (try clear hcz7_1); (try clear hcz7_2); (try clear hcz7_3); (try clear hcz9_0); (try clear hcz9_1); (try clear hcz9_2); (try clear hcz9_3); (try clear hfz11_0); (try clear hfz11_1); (try clear hfz11_2); (try clear hfz11_3); (try clear hfz13_0); (try clear hfz13_1); (try clear hfz13_2); (try clear hfz13_3); (try clear hfz14_0); (try clear hfz14_1); (try clear hfz14_2); (try clear hfz14_3); (try clear hfz17_0); (try clear hfz17_1); (try clear hfz17_2); (try clear hfz17_3); (try clear hfz19_0); (try clear hfz19_1); (try clear hfz19_2); (try clear hfz19_3); (try clear hfz23_0); (try clear hfz23_1); (try clear hfz23_2); (try clear hfz23_3); (try clear hfz6_0); (try clear hfz6_1); (try clear hfz6_2); (try clear hfz6_3); (try clear hfz7_0); (try clear hfz7_1); (try clear hfz7_2); (try clear hfz7_3); (try clear hfz9_0); (try clear hfz9_1); (try clear hfz9_2); (try clear hfz9_3); (try clear p2)
         obtain ⟨x44_3, rfl, HA, HK3, BK184, HB⟩ := hrel
         cases gk with
         | zero => exact absurd HA.out (by simp [pattern_valid.l0])
         | succ k3 =>
          have H := HA.out
          clear HA
          simp only [pattern_valid.l0] at H
          by_cases c24 : x44_3 < (l0_3.length : Int)
          ·
           rw [if_pos c24] at H
           have c24b0 : decide (x44_3 < (l0_3.length : Int)) = true := decide_eq_true c24
           clear c24
           by_cases c25 : 0 ≤ x44_3
           ·
            rw [if_pos c25] at H
            have c25b0 : decide (0 ≤ x44_3) = true := decide_eq_true c25
            clear c25
            by_cases c26 : x44_3 < (l0_3.length : Int)
            ·
             rw [if_pos c26] at H
             have c26b0 : decide (x44_3 < (l0_3.length : Int)) = true := decide_eq_true c26
             clear c26
             by_cases c27 : ((rd_T58 l0_3 x44_3).f0) > ((rd_T58 l0_3 x44_3).f1)
             ·
              rw [if_pos c27] at H
              have c27b0 : decide (((rd_T58 l0_3 x44_3).f1) < ((rd_T58 l0_3 x44_3).f0)) = true := decide_eq_true c27
              clear c27
              obtain rfl := Option.some.inj H
              have p185 : 0 ≤ (x44_3 : Int) := o1_ (by with_reducible assumption)
              have q185 : x44_3 < (l0_3.length : Int) := o1_ (by with_reducible assumption)
              obtain ⟨ad185, e185, hx185_0, hx185_1⟩ := at_T58 HR0_3.out x44_3 p185 q185
              cases e185
              replace hx185_0 := (HB.out.cell (c1_ w _ hx185_0)).trans hx185_0
              replace hx185_1 := (HB.out.cell (c1_ w _ hx185_1)).trans hx185_1
              replace p185 := eq_true p185
              replace q185 := eq_true q185
              go_wp2_with (first | ((with_reducible refine gate_dst (N := 4) rfl ?_); (try (refine gate_guard (by rfl) ?_; dsimp only)); refine box_event ?hg (N := 4) ?hd (cs := #[.int .u8 0, .int .u8 0]) (t := 58) ?hr ?_; (case hd => rfl); (case hg => rfl); (case hr => first | (go_simp; done) | (go_simp; rfl)); intro gb186 hg w28 hbox hb; have BK186 := m_ (hbox); have GW186 := m_ ((by rw [hg]; exact (l6_ (by repeat (with_reducible first | exact HB.out | apply l1_ | apply l2_ | apply l3_ | refine l4_ ?_ GE184.out))) : w.heap.size ≤ gb186)); have GE186 := m_ ((by rw [hg]; exact (l6_ (by repeat (with_reducible first | exact HB.out | apply l1_ | apply l2_ | apply l3_ | refine l4_ ?_ GE184.out))) : w.heap.size ≤ gb186)); replace HB := m_ (l5_ (by repeat (with_reducible first | exact HB.out | apply l1_ | apply l2_ | apply l3_ | refine l4_ ?_ GE184.out)) hb); have NB184_186 := m_ ((by rw [hg]; exact Nat.ne_of_lt (blk_lt (g := gb184) (o := .cells #[.int .i64 a0_0, .string a0_1, .bool a0_2, .slice (some ad185) l0_3.length c0_3] 35 (0, 0)) (by (with_reducible repeat (first | refine b1_ ?_ _ | refine b2_ ?_ | refine b3_ ?_ _)); exact BK184.out)) : gb184 ≠ gb186)); have NB186_184 := m_ ((by rw [hg]; exact Nat.ne_of_gt (blk_lt (g := gb184) (o := .cells #[.int .i64 a0_0, .string a0_1, .bool a0_2, .slice (some ad185) l0_3.length c0_3] 35 (0, 0)) (by (with_reducible repeat (first | refine b1_ ?_ _ | refine b2_ ?_ | refine b3_ ?_ _)); exact BK184.out)) : gb186 ≠ gb184)); replace BK184 := m_ (b4_ (g := gb184) (o := .cells #[.int .i64 a0_0, .string a0_1, .bool a0_2, .slice (some ad185) l0_3.length c0_3] 35 (0, 0)) (by (with_reducible repeat (first | refine b1_ ?_ _ | refine b2_ ?_ | refine b3_ ?_ _)); exact BK184.out) hb); clear hb hbox hg; have hnb29 := NB186_184.out; have hnc29 := NB184_186.out; have hcz30_0 : w28.cell? ⟨gb186, 0, none⟩ = some (.int .u8 0) := (b5_ BK186.out 0).trans rfl; have hcz30_1 : w28.cell? ⟨gb186, 1, none⟩ = some (.int .u8 0) := (b5_ BK186.out 1).trans rfl; have hfz30_0 := f1_ BK186.out 0; have hfz30_1 := f1_ BK186.out 1))
              repeat (go_quiet (fail); try go_wp2_with (first | ((with_reducible refine gate_dst (N := 4) rfl ?_); (try (refine gate_guard (by rfl) ?_; dsimp only)); refine box_event ?hg (N := 4) ?hd (cs := #[.int .u8 0, .int .u8 0]) (t := 58) ?hr ?_; (case hd => rfl); (case hg => rfl); (case hr => first | (go_simp; done) | (go_simp; rfl)); intro gb186 hg w28 hbox hb; have BK186 := m_ (hbox); have GW186 := m_ ((by rw [hg]; exact (l6_ (by repeat (with_reducible first | exact HB.out | apply l1_ | apply l2_ | apply l3_ | refine l4_ ?_ GE184.out))) : w.heap.size ≤ gb186)); have GE186 := m_ ((by rw [hg]; exact (l6_ (by repeat (with_reducible first | exact HB.out | apply l1_ | apply l2_ | apply l3_ | refine l4_ ?_ GE184.out))) : w.heap.size ≤ gb186)); replace HB := m_ (l5_ (by repeat (with_reducible first | exact HB.out | apply l1_ | apply l2_ | apply l3_ | refine l4_ ?_ GE184.out)) hb); have NB184_186 := m_ ((by rw [hg]; exact Nat.ne_of_lt (blk_lt (g := gb184) (o := .cells #[.int .i64 a0_0, .string a0_1, .bool a0_2, .slice (some ad185) l0_3.length c0_3] 35 (0, 0)) (by (with_reducible repeat (first | refine b1_ ?_ _ | refine b2_ ?_ | refine b3_ ?_ _)); exact BK184.out)) : gb184 ≠ gb186)); have NB186_184 := m_ ((by rw [hg]; exact Nat.ne_of_gt (blk_lt (g := gb184) (o := .cells #[.int .i64 a0_0, .string a0_1, .bool a0_2, .slice (some ad185) l0_3.length c0_3] 35 (0, 0)) (by (with_reducible repeat (first | refine b1_ ?_ _ | refine b2_ ?_ | refine b3_ ?_ _)); exact BK184.out)) : gb186 ≠ gb184)); replace BK184 := m_ (b4_ (g := gb184) (o := .cells #[.int .i64 a0_0, .string a0_1, .bool a0_2, .slice (some ad185) l0_3.length c0_3] 35 (0, 0)) (by (with_reducible repeat (first | refine b1_ ?_ _ | refine b2_ ?_ | refine b3_ ?_ _)); exact BK184.out) hb); clear hb hbox hg; have hnb29 := NB186_184.out; have hnc29 := NB184_186.out; have hcz30_0 : w28.cell? ⟨gb186, 0, none⟩ = some (.int .u8 0) := (b5_ BK186.out 0).trans rfl; have hcz30_1 : w28.cell? ⟨gb186, 1, none⟩ = some (.int .u8 0) := (b5_ BK186.out 1).trans rfl; have hfz30_0 := f1_ BK186.out 0; have hfz30_1 := f1_ BK186.out 1)))
              go_ret
              exact ⟨by first | rfl | (simp [errW_none, errW_some] <;> rfl) | (simp [*, errW_none, errW_some] <;> rfl), by repeat (with_reducible first | exact HB.out | apply l1_ | apply l2_ | apply l3_ | refine l4_ ?_ GE184.out | refine l4_ ?_ GE186.out)⟩
             rw [if_neg c27] at H
             have c27b0 : decide (((rd_T58 l0_3 x44_3).f1) < ((rd_T58 l0_3 x44_3).f0)) = false := decide_eq_false c27
             clear c27
             by_cases c31 : x44_3 > 0
             ·
              rw [if_pos c31] at H
              have c31b0 : decide (0 < x44_3) = true := decide_eq_true c31
              clear c31
              obtain ⟨ji32, hji32⟩ : ∃ j_ : Int, (wrap64 (x44_3 - 1)) = j_ := ⟨_, rfl⟩
              first | rw [hji32] at H | simp only [hji32] at H
              have hji32w : (IntKind.i64.wrap (x44_3 - 1)) = ji32 := (i64_w _).trans hji32
              by_cases c33 : 0 ≤ (ji32)
              ·
               rw [if_pos c33] at H
               have c33b0 : decide (0 ≤ (ji32)) = true := decide_eq_true c33
               clear c33
               by_cases c34 : (ji32) < (l0_3.length : Int)
               ·
                rw [if_pos c34] at H
                have c34b0 : decide ((ji32) < (l0_3.length : Int)) = true := decide_eq_true c34
                clear c34
                by_cases c35 : (wrap64 ((rd_T58 l0_3 x44_3).f0)) ≤ (wrap64 ((wrap64 ((rd_T58 l0_3 (ji32)).f1)) + 1))
                ·
                 rw [if_pos c35] at H
                 have c35b0 : decide ((wrap64 ((rd_T58 l0_3 x44_3).f0)) ≤ (wrap64 ((wrap64 ((rd_T58 l0_3 (ji32)).f1)) + 1))) = true := decide_eq_true c35
                 clear c35
                 obtain rfl := Option.some.inj H
                 have p185 : 0 ≤ (x44_3 : Int) := o1_ (by with_reducible assumption)
                 have q185 : x44_3 < (l0_3.length : Int) := o1_ (by with_reducible assumption)
                 obtain ⟨ad185, e185, hx185_0, hx185_1⟩ := at_T58 HR0_3.out x44_3 p185 q185
                 cases e185
                 replace hx185_0 := (HB.out.cell (c1_ w _ hx185_0)).trans hx185_0
                 replace hx185_1 := (HB.out.cell (c1_ w _ hx185_1)).trans hx185_1
                 replace p185 := eq_true p185
                 replace q185 := eq_true q185
                 go_wp2_with (first | ((with_reducible refine gate_dst (N := 4) rfl ?_); (try (refine gate_guard (by rfl) ?_; dsimp only)); refine box_event ?hg (N := 4) ?hd (cs := #[.int .u8 0, .int .u8 0]) (t := 58) ?hr ?_; (case hd => rfl); (case hg => rfl); (case hr => first | (go_simp; done) | (go_simp; rfl)); intro gb186 hg w36 hbox hb; have BK186 := m_ (hbox); have GW186 := m_ ((by rw [hg]; exact (l6_ (by repeat (with_reducible first | exact HB.out | apply l1_ | apply l2_ | apply l3_ | refine l4_ ?_ GE184.out))) : w.heap.size ≤ gb186)); have GE186 := m_ ((by rw [hg]; exact (l6_ (by repeat (with_reducible first | exact HB.out | apply l1_ | apply l2_ | apply l3_ | refine l4_ ?_ GE184.out))) : w.heap.size ≤ gb186)); replace HB := m_ (l5_ (by repeat (with_reducible first | exact HB.out | apply l1_ | apply l2_ | apply l3_ | refine l4_ ?_ GE184.out)) hb); have NB184_186 := m_ ((by rw [hg]; exact Nat.ne_of_lt (blk_lt (g := gb184) (o := .cells #[.int .i64 a0_0, .string a0_1, .bool a0_2, .slice (some ad185) l0_3.length c0_3] 35 (0, 0)) (by (with_reducible repeat (first | refine b1_ ?_ _ | refine b2_ ?_ | refine b3_ ?_ _)); exact BK184.out)) : gb184 ≠ gb186)); have NB186_184 := m_ ((by rw [hg]; exact Nat.ne_of_gt (blk_lt (g := gb184) (o := .cells #[.int .i64 a0_0, .string a0_1, .bool a0_2, .slice (some ad185) l0_3.length c0_3] 35 (0, 0)) (by (with_reducible repeat (first | refine b1_ ?_ _ | refine b2_ ?_ | refine b3_ ?_ _)); exact BK184.out)) : gb186 ≠ gb184)); replace BK184 := m_ (b4_ (g := gb184) (o := .cells #[.int .i64 a0_0, .string a0_1, .bool a0_2, .slice (some ad185) l0_3.length c0_3] 35 (0, 0)) (by (with_reducible repeat (first | refine b1_ ?_ _ | refine b2_ ?_ | refine b3_ ?_ _)); exact BK184.out) hb); clear hb hbox hg; have hnb37 := NB186_184.out; have hnc37 := NB184_186.out; have hcz38_0 : w36.cell? ⟨gb186, 0, none⟩ = some (.int .u8 0) := (b5_ BK186.out 0).trans rfl; have hcz38_1 : w36.cell? ⟨gb186, 1, none⟩ = some (.int .u8 0) := (b5_ BK186.out 1).trans rfl; have hfz38_0 := f1_ BK186.out 0; have hfz38_1 := f1_ BK186.out 1; have hcz39_0 : w36.cell? ⟨gb184, 0, none⟩ = some (.int .i64 a0_0) := (b5_ BK184.out 0).trans rfl; have hcz39_1 : w36.cell? ⟨gb184, 1, none⟩ = some (.string a0_1) := (b5_ BK184.out 1).trans rfl; have hcz39_2 : w36.cell? ⟨gb184, 2, none⟩ = some (.bool a0_2) := (b5_ BK184.out 2).trans rfl; have hcz39_3 : w36.cell? ⟨gb184, 3, none⟩ = some (.slice (some ad185) l0_3.length c0_3) := (b5_ BK184.out 3).trans rfl; have hfz39_0 := f1_ BK184.out 0; have hfz39_1 := f1_ BK184.out 1; have hfz39_2 := f1_ BK184.out 2; have hfz39_3 := f1_ BK184.out 3; have p187 : 0 ≤ ((ji32) : Int) := o1_ (by with_reducible assumption); have q187 : (ji32) < (l0_3.length : Int) := o1_ (by with_reducible assumption); obtain ⟨ad187, e187, hx187_0, hx187_1⟩ := at_T58 HR0_3.out (ji32) p187 q187; obtain rfl : ad185 = ad187 := (by injection e187); have hn187_0 : ad185.block ≠ gb186 := Nat.ne_of_lt (Nat.lt_of_lt_of_le (by have := c1_ _ _ hx187_0; first | rwa [add_block] at this | exact this) GW186.out); have hn187_1 : ad185.block ≠ gb186 := Nat.ne_of_lt (Nat.lt_of_lt_of_le (by have := c1_ _ _ hx187_0; first | rwa [add_block] at this | exact this) GW186.out); replace hx187_0 := (HB.out.cell (c1_ w _ hx187_0)).trans hx187_0; replace hx187_1 := (HB.out.cell (c1_ w _ hx187_1)).trans hx187_1; replace hx187_0 := (cell_far (p := ⟨gb186, 0, none⟩) (by first | (rw [add_block]; exact hn187_0) | (show (Addr.add _ _).block ≠ _; rw [add_block]; exact hn187_0) | exact hn187_0) (.int .u8 ((rd_T58 l0_3 x44_3).f0))).trans hx187_0; replace hx187_1 := (cell_far (p := ⟨gb186, 0, none⟩) (by first | (rw [add_block]; exact hn187_0) | (show (Addr.add _ _).block ≠ _; rw [add_block]; exact hn187_0) | exact hn187_0) (.int .u8 ((rd_T58 l0_3 x44_3).f0))).trans hx187_1; replace hx187_0 := (cell_far (p := ⟨gb186, 1, none⟩) (by first | (rw [add_block]; exact hn187_1) | (show (Addr.add _ _).block ≠ _; rw [add_block]; exact hn187_1) | exact hn187_1) (.int .u8 ((rd_T58 l0_3 x44_3).f1))).trans hx187_0; replace hx187_1 := (cell_far (p := ⟨gb186, 1, none⟩) (by first | (rw [add_block]; exact hn187_1) | (show (Addr.add _ _).block ≠ _; rw [add_block]; exact hn187_1) | exact hn187_1) (.int .u8 ((rd_T58 l0_3 x44_3).f1))).trans hx187_1; (try have hy187_0 := fun (n_ : Nat) => ((congrArg (fun z_ : World => z_.cell? _) (show (((w36.drewN n_).setCell ⟨gb186, 0, none⟩ (.int .u8 ((rd_T58 l0_3 x44_3).f0))).setCell ⟨gb186, 1, none⟩ (.int .u8 ((rd_T58 l0_3 x44_3).f1))) = World.drewN _ n_ by simp only [fk_setCell_drewN])).trans ((show ∀ (X_ : World) (m_ : Nat) (p_ : Addr), (X_.drewN m_).cell? p_ = X_.cell? p_ from fun _ _ _ => rfl) _ n_ _)).trans hx187_0); (try have hy187_1 := fun (n_ : Nat) => ((congrArg (fun z_ : World => z_.cell? _) (show (((w36.drewN n_).setCell ⟨gb186, 0, none⟩ (.int .u8 ((rd_T58 l0_3 x44_3).f0))).setCell ⟨gb186, 1, none⟩ (.int .u8 ((rd_T58 l0_3 x44_3).f1))) = World.drewN _ n_ by simp only [fk_setCell_drewN])).trans ((show ∀ (X_ : World) (m_ : Nat) (p_ : Addr), (X_.drewN m_).cell? p_ = X_.cell? p_ from fun _ _ _ => rfl) _ n_ _)).trans hx187_1); clear hn187_0; clear hn187_1; replace p187 := eq_true p187; replace q187 := eq_true q187))
                 repeat (go_quiet (fail); try go_wp2_with (first | ((with_reducible refine gate_dst (N := 4) rfl ?_); (try (refine gate_guard (by rfl) ?_; dsimp only)); refine box_event ?hg (N := 4) ?hd (cs := #[.int .u8 0, .int .u8 0]) (t := 58) ?hr ?_; (case hd => rfl); (case hg => rfl); (case hr => first | (go_simp; done) | (go_simp; rfl)); intro gb186 hg w36 hbox hb; have BK186 := m_ (hbox); have GW186 := m_ ((by rw [hg]; exact (l6_ (by repeat (with_reducible first | exact HB.out | apply l1_ | apply l2_ | apply l3_ | refine l4_ ?_ GE184.out))) : w.heap.size ≤ gb186)); have GE186 := m_ ((by rw [hg]; exact (l6_ (by repeat (with_reducible first | exact HB.out | apply l1_ | apply l2_ | apply l3_ | refine l4_ ?_ GE184.out))) : w.heap.size ≤ gb186)); replace HB := m_ (l5_ (by repeat (with_reducible first | exact HB.out | apply l1_ | apply l2_ | apply l3_ | refine l4_ ?_ GE184.out)) hb); have NB184_186 := m_ ((by rw [hg]; exact Nat.ne_of_lt (blk_lt (g := gb184) (o := .cells #[.int .i64 a0_0, .string a0_1, .bool a0_2, .slice (some ad185) l0_3.length c0_3] 35 (0, 0)) (by (with_reducible repeat (first | refine b1_ ?_ _ | refine b2_ ?_ | refine b3_ ?_ _)); exact BK184.out)) : gb184 ≠ gb186)); have NB186_184 := m_ ((by rw [hg]; exact Nat.ne_of_gt (blk_lt (g := gb184) (o := .cells #[.int .i64 a0_0, .string a0_1, .bool a0_2, .slice (some ad185) l0_3.length c0_3] 35 (0, 0)) (by (with_reducible repeat (first | refine b1_ ?_ _ | refine b2_ ?_ | refine b3_ ?_ _)); exact BK184.out)) : gb186 ≠ gb184)); replace BK184 := m_ (b4_ (g := gb184) (o := .cells #[.int .i64 a0_0, .string a0_1, .bool a0_2, .slice (some ad185) l0_3.length c0_3] 35 (0, 0)) (by (with_reducible repeat (first | refine b1_ ?_ _ | refine b2_ ?_ | refine b3_ ?_ _)); exact BK184.out) hb); clear hb hbox hg; have hnb37 := NB186_184.out; have hnc37 := NB184_186.out; have hcz38_0 : w36.cell? ⟨gb186, 0, none⟩ = some (.int .u8 0) := (b5_ BK186.out 0).trans rfl; have hcz38_1 : w36.cell? ⟨gb186, 1, none⟩ = some (.int .u8 0) := (b5_ BK186.out 1).trans rfl; have hfz38_0 := f1_ BK186.out 0; have hfz38_1 := f1_ BK186.out 1; have hcz39_0 : w36.cell? ⟨gb184, 0, none⟩ = some (.int .i64 a0_0) := (b5_ BK184.out 0).trans rfl; have hcz39_1 : w36.cell? ⟨gb184, 1, none⟩ = some (.string a0_1) := (b5_ BK184.out 1).trans rfl; have hcz39_2 : w36.cell? ⟨gb184, 2, none⟩ = some (.bool a0_2) := (b5_ BK184.out 2).trans rfl; have hcz39_3 : w36.cell? ⟨gb184, 3, none⟩ = some (.slice (some ad185) l0_3.length c0_3) := (b5_ BK184.out 3).trans rfl; have hfz39_0 := f1_ BK184.out 0; have hfz39_1 := f1_ BK184.out 1; have hfz39_2 := f1_ BK184.out 2; have hfz39_3 := f1_ BK184.out 3; have p187 : 0 ≤ ((ji32) : Int) := o1_ (by with_reducible assumption); have q187 : (ji32) < (l0_3.length : Int) := o1_ (by with_reducible assumption); obtain ⟨ad187, e187, hx187_0, hx187_1⟩ := at_T58 HR0_3.out (ji32) p187 q187; obtain rfl : ad185 = ad187 := (by injection e187); have hn187_0 : ad185.block ≠ gb186 := Nat.ne_of_lt (Nat.lt_of_lt_of_le (by have := c1_ _ _ hx187_0; first | rwa [add_block] at this | exact this) GW186.out); have hn187_1 : ad185.block ≠ gb186 := Nat.ne_of_lt (Nat.lt_of_lt_of_le (by have := c1_ _ _ hx187_0; first | rwa [add_block] at this | exact this) GW186.out); replace hx187_0 := (HB.out.cell (c1_ w _ hx187_0)).trans hx187_0; replace hx187_1 := (HB.out.cell (c1_ w _ hx187_1)).trans hx187_1; replace hx187_0 := (cell_far (p := ⟨gb186, 0, none⟩) (by first | (rw [add_block]; exact hn187_0) | (show (Addr.add _ _).block ≠ _; rw [add_block]; exact hn187_0) | exact hn187_0) (.int .u8 ((rd_T58 l0_3 x44_3).f0))).trans hx187_0; replace hx187_1 := (cell_far (p := ⟨gb186, 0, none⟩) (by first | (rw [add_block]; exact hn187_0) | (show (Addr.add _ _).block ≠ _; rw [add_block]; exact hn187_0) | exact hn187_0) (.int .u8 ((rd_T58 l0_3 x44_3).f0))).trans hx187_1; replace hx187_0 := (cell_far (p := ⟨gb186, 1, none⟩) (by first | (rw [add_block]; exact hn187_1) | (show (Addr.add _ _).block ≠ _; rw [add_block]; exact hn187_1) | exact hn187_1) (.int .u8 ((rd_T58 l0_3 x44_3).f1))).trans hx187_0; replace hx187_1 := (cell_far (p := ⟨gb186, 1, none⟩) (by first | (rw [add_block]; exact hn187_1) | (show (Addr.add _ _).block ≠ _; rw [add_block]; exact hn187_1) | exact hn187_1) (.int .u8 ((rd_T58 l0_3 x44_3).f1))).trans hx187_1; (try have hy187_0 := fun (n_ : Nat) => ((congrArg (fun z_ : World => z_.cell? _) (show (((w36.drewN n_).setCell ⟨gb186, 0, none⟩ (.int .u8 ((rd_T58 l0_3 x44_3).f0))).setCell ⟨gb186, 1, none⟩ (.int .u8 ((rd_T58 l0_3 x44_3).f1))) = World.drewN _ n_ by simp only [fk_setCell_drewN])).trans ((show ∀ (X_ : World) (m_ : Nat) (p_ : Addr), (X_.drewN m_).cell? p_ = X_.cell? p_ from fun _ _ _ => rfl) _ n_ _)).trans hx187_0); (try have hy187_1 := fun (n_ : Nat) => ((congrArg (fun z_ : World => z_.cell? _) (show (((w36.drewN n_).setCell ⟨gb186, 0, none⟩ (.int .u8 ((rd_T58 l0_3 x44_3).f0))).setCell ⟨gb186, 1, none⟩ (.int .u8 ((rd_T58 l0_3 x44_3).f1))) = World.drewN _ n_ by simp only [fk_setCell_drewN])).trans ((show ∀ (X_ : World) (m_ : Nat) (p_ : Addr), (X_.drewN m_).cell? p_ = X_.cell? p_ from fun _ _ _ => rfl) _ n_ _)).trans hx187_1); clear hn187_0; clear hn187_1; replace p187 := eq_true p187; replace q187 := eq_true q187)))
                 go_ret
                 exact ⟨by first | rfl | (simp [errW_none, errW_some] <;> rfl) | (simp only [← hji32]; first | rfl | (simp [errW_none, errW_some] <;> rfl)) | (simp [*, errW_none, errW_some] <;> rfl), by repeat (with_reducible first | exact HB.out | apply l1_ | apply l2_ | apply l3_ | refine l4_ ?_ GE184.out | refine l4_ ?_ GE186.out)⟩
                rw [if_neg c35] at H
                have c35b0 : decide ((wrap64 ((rd_T58 l0_3 x44_3).f0)) ≤ (wrap64 ((wrap64 ((rd_T58 l0_3 (ji32)).f1)) + 1))) = false := decide_eq_false c35
                clear c35
                have H' := m_ H
                clear H
                have p185 : 0 ≤ (x44_3 : Int) := o1_ (by with_reducible assumption)
                have q185 : x44_3 < (l0_3.length : Int) := o1_ (by with_reducible assumption)
                obtain ⟨ad185, e185, hx185_0, hx185_1⟩ := at_T58 HR0_3.out x44_3 p185 q185
                cases e185
                replace hx185_0 := (HB.out.cell (c1_ w _ hx185_0)).trans hx185_0
                replace hx185_1 := (HB.out.cell (c1_ w _ hx185_1)).trans hx185_1
                replace p185 := eq_true p185
                replace q185 := eq_true q185
                go_wp2_with (first | ((with_reducible refine gate_dst (N := 4) rfl ?_); (try (refine gate_guard (by rfl) ?_; dsimp only)); refine box_event ?hg (N := 4) ?hd (cs := #[.int .u8 0, .int .u8 0]) (t := 58) ?hr ?_; (case hd => rfl); (case hg => rfl); (case hr => first | (go_simp; done) | (go_simp; rfl)); intro gb186 hg w40 hbox hb; have BK186 := m_ (hbox); have GW186 := m_ ((by rw [hg]; exact (l6_ (by repeat (with_reducible first | exact HB.out | apply l1_ | apply l2_ | apply l3_ | refine l4_ ?_ GE184.out))) : w.heap.size ≤ gb186)); have GE186 := m_ ((by rw [hg]; exact (l6_ (by repeat (with_reducible first | exact HB.out | apply l1_ | apply l2_ | apply l3_ | refine l4_ ?_ GE184.out))) : w.heap.size ≤ gb186)); replace HB := m_ (l5_ (by repeat (with_reducible first | exact HB.out | apply l1_ | apply l2_ | apply l3_ | refine l4_ ?_ GE184.out)) hb); have NB184_186 := m_ ((by rw [hg]; exact Nat.ne_of_lt (blk_lt (g := gb184) (o := .cells #[.int .i64 a0_0, .string a0_1, .bool a0_2, .slice (some ad185) l0_3.length c0_3] 35 (0, 0)) (by (with_reducible repeat (first | refine b1_ ?_ _ | refine b2_ ?_ | refine b3_ ?_ _)); exact BK184.out)) : gb184 ≠ gb186)); have NB186_184 := m_ ((by rw [hg]; exact Nat.ne_of_gt (blk_lt (g := gb184) (o := .cells #[.int .i64 a0_0, .string a0_1, .bool a0_2, .slice (some ad185) l0_3.length c0_3] 35 (0, 0)) (by (with_reducible repeat (first | refine b1_ ?_ _ | refine b2_ ?_ | refine b3_ ?_ _)); exact BK184.out)) : gb186 ≠ gb184)); replace BK184 := m_ (b4_ (g := gb184) (o := .cells #[.int .i64 a0_0, .string a0_1, .bool a0_2, .slice (some ad185) l0_3.length c0_3] 35 (0, 0)) (by (with_reducible repeat (first | refine b1_ ?_ _ | refine b2_ ?_ | refine b3_ ?_ _)); exact BK184.out) hb); clear hb hbox hg; have hnb41 := NB186_184.out; have hnc41 := NB184_186.out; have hcz42_0 : w40.cell? ⟨gb186, 0, none⟩ = some (.int .u8 0) := (b5_ BK186.out 0).trans rfl; have hcz42_1 : w40.cell? ⟨gb186, 1, none⟩ = some (.int .u8 0) := (b5_ BK186.out 1).trans rfl; have hfz42_0 := f1_ BK186.out 0; have hfz42_1 := f1_ BK186.out 1; have hcz43_0 : w40.cell? ⟨gb184, 0, none⟩ = some (.int .i64 a0_0) := (b5_ BK184.out 0).trans rfl; have hcz43_1 : w40.cell? ⟨gb184, 1, none⟩ = some (.string a0_1) := (b5_ BK184.out 1).trans rfl; have hcz43_2 : w40.cell? ⟨gb184, 2, none⟩ = some (.bool a0_2) := (b5_ BK184.out 2).trans rfl; have hcz43_3 : w40.cell? ⟨gb184, 3, none⟩ = some (.slice (some ad185) l0_3.length c0_3) := (b5_ BK184.out 3).trans rfl; have hfz43_0 := f1_ BK184.out 0; have hfz43_1 := f1_ BK184.out 1; have hfz43_2 := f1_ BK184.out 2; have hfz43_3 := f1_ BK184.out 3; have p187 : 0 ≤ ((ji32) : Int) := o1_ (by with_reducible assumption); have q187 : (ji32) < (l0_3.length : Int) := o1_ (by with_reducible assumption); obtain ⟨ad187, e187, hx187_0, hx187_1⟩ := at_T58 HR0_3.out (ji32) p187 q187; obtain rfl : ad185 = ad187 := (by injection e187); have hn187_0 : ad185.block ≠ gb186 := Nat.ne_of_lt (Nat.lt_of_lt_of_le (by have := c1_ _ _ hx187_0; first | rwa [add_block] at this | exact this) GW186.out); have hn187_1 : ad185.block ≠ gb186 := Nat.ne_of_lt (Nat.lt_of_lt_of_le (by have := c1_ _ _ hx187_0; first | rwa [add_block] at this | exact this) GW186.out); replace hx187_0 := (HB.out.cell (c1_ w _ hx187_0)).trans hx187_0; replace hx187_1 := (HB.out.cell (c1_ w _ hx187_1)).trans hx187_1; replace hx187_0 := (cell_far (p := ⟨gb186, 0, none⟩) (by first | (rw [add_block]; exact hn187_0) | (show (Addr.add _ _).block ≠ _; rw [add_block]; exact hn187_0) | exact hn187_0) (.int .u8 ((rd_T58 l0_3 x44_3).f0))).trans hx187_0; replace hx187_1 := (cell_far (p := ⟨gb186, 0, none⟩) (by first | (rw [add_block]; exact hn187_0) | (show (Addr.add _ _).block ≠ _; rw [add_block]; exact hn187_0) | exact hn187_0) (.int .u8 ((rd_T58 l0_3 x44_3).f0))).trans hx187_1; replace hx187_0 := (cell_far (p := ⟨gb186, 1, none⟩) (by first | (rw [add_block]; exact hn187_1) | (show (Addr.add _ _).block ≠ _; rw [add_block]; exact hn187_1) | exact hn187_1) (.int .u8 ((rd_T58 l0_3 x44_3).f1))).trans hx187_0; replace hx187_1 := (cell_far (p := ⟨gb186, 1, none⟩) (by first | (rw [add_block]; exact hn187_1) | (show (Addr.add _ _).block ≠ _; rw [add_block]; exact hn187_1) | exact hn187_1) (.int .u8 ((rd_T58 l0_3 x44_3).f1))).trans hx187_1; (try have hy187_0 := fun (n_ : Nat) => ((congrArg (fun z_ : World => z_.cell? _) (show (((w40.drewN n_).setCell ⟨gb186, 0, none⟩ (.int .u8 ((rd_T58 l0_3 x44_3).f0))).setCell ⟨gb186, 1, none⟩ (.int .u8 ((rd_T58 l0_3 x44_3).f1))) = World.drewN _ n_ by simp only [fk_setCell_drewN])).trans ((show ∀ (X_ : World) (m_ : Nat) (p_ : Addr), (X_.drewN m_).cell? p_ = X_.cell? p_ from fun _ _ _ => rfl) _ n_ _)).trans hx187_0); (try have hy187_1 := fun (n_ : Nat) => ((congrArg (fun z_ : World => z_.cell? _) (show (((w40.drewN n_).setCell ⟨gb186, 0, none⟩ (.int .u8 ((rd_T58 l0_3 x44_3).f0))).setCell ⟨gb186, 1, none⟩ (.int .u8 ((rd_T58 l0_3 x44_3).f1))) = World.drewN _ n_ by simp only [fk_setCell_drewN])).trans ((show ∀ (X_ : World) (m_ : Nat) (p_ : Addr), (X_.drewN m_).cell? p_ = X_.cell? p_ from fun _ _ _ => rfl) _ n_ _)).trans hx187_1); clear hn187_0; clear hn187_1; replace p187 := eq_true p187; replace q187 := eq_true q187))
                repeat (go_quiet (fail); try go_wp2_with (first | ((with_reducible refine gate_dst (N := 4) rfl ?_); (try (refine gate_guard (by rfl) ?_; dsimp only)); refine box_event ?hg (N := 4) ?hd (cs := #[.int .u8 0, .int .u8 0]) (t := 58) ?hr ?_; (case hd => rfl); (case hg => rfl); (case hr => first | (go_simp; done) | (go_simp; rfl)); intro gb186 hg w40 hbox hb; have BK186 := m_ (hbox); have GW186 := m_ ((by rw [hg]; exact (l6_ (by repeat (with_reducible first | exact HB.out | apply l1_ | apply l2_ | apply l3_ | refine l4_ ?_ GE184.out))) : w.heap.size ≤ gb186)); have GE186 := m_ ((by rw [hg]; exact (l6_ (by repeat (with_reducible first | exact HB.out | apply l1_ | apply l2_ | apply l3_ | refine l4_ ?_ GE184.out))) : w.heap.size ≤ gb186)); replace HB := m_ (l5_ (by repeat (with_reducible first | exact HB.out | apply l1_ | apply l2_ | apply l3_ | refine l4_ ?_ GE184.out)) hb); have NB184_186 := m_ ((by rw [hg]; exact Nat.ne_of_lt (blk_lt (g := gb184) (o := .cells #[.int .i64 a0_0, .string a0_1, .bool a0_2, .slice (some ad185) l0_3.length c0_3] 35 (0, 0)) (by (with_reducible repeat (first | refine b1_ ?_ _ | refine b2_ ?_ | refine b3_ ?_ _)); exact BK184.out)) : gb184 ≠ gb186)); have NB186_184 := m_ ((by rw [hg]; exact Nat.ne_of_gt (blk_lt (g := gb184) (o := .cells #[.int .i64 a0_0, .string a0_1, .bool a0_2, .slice (some ad185) l0_3.length c0_3] 35 (0, 0)) (by (with_reducible repeat (first | refine b1_ ?_ _ | refine b2_ ?_ | refine b3_ ?_ _)); exact BK184.out)) : gb186 ≠ gb184)); replace BK184 := m_ (b4_ (g := gb184) (o := .cells #[.int .i64 a0_0, .string a0_1, .bool a0_2, .slice (some ad185) l0_3.length c0_3] 35 (0, 0)) (by (with_reducible repeat (first | refine b1_ ?_ _ | refine b2_ ?_ | refine b3_ ?_ _)); exact BK184.out) hb); clear hb hbox hg; have hnb41 := NB186_184.out; have hnc41 := NB184_186.out; have hcz42_0 : w40.cell? ⟨gb186, 0, none⟩ = some (.int .u8 0) := (b5_ BK186.out 0).trans rfl; have hcz42_1 : w40.cell? ⟨gb186, 1, none⟩ = some (.int .u8 0) := (b5_ BK186.out 1).trans rfl; have hfz42_0 := f1_ BK186.out 0; have hfz42_1 := f1_ BK186.out 1; have hcz43_0 : w40.cell? ⟨gb184, 0, none⟩ = some (.int .i64 a0_0) := (b5_ BK184.out 0).trans rfl; have hcz43_1 : w40.cell? ⟨gb184, 1, none⟩ = some (.string a0_1) := (b5_ BK184.out 1).trans rfl; have hcz43_2 : w40.cell? ⟨gb184, 2, none⟩ = some (.bool a0_2) := (b5_ BK184.out 2).trans rfl; have hcz43_3 : w40.cell? ⟨gb184, 3, none⟩ = some (.slice (some ad185) l0_3.length c0_3) := (b5_ BK184.out 3).trans rfl; have hfz43_0 := f1_ BK184.out 0; have hfz43_1 := f1_ BK184.out 1; have hfz43_2 := f1_ BK184.out 2; have hfz43_3 := f1_ BK184.out 3; have p187 : 0 ≤ ((ji32) : Int) := o1_ (by with_reducible assumption); have q187 : (ji32) < (l0_3.length : Int) := o1_ (by with_reducible assumption); obtain ⟨ad187, e187, hx187_0, hx187_1⟩ := at_T58 HR0_3.out (ji32) p187 q187; obtain rfl : ad185 = ad187 := (by injection e187); have hn187_0 : ad185.block ≠ gb186 := Nat.ne_of_lt (Nat.lt_of_lt_of_le (by have := c1_ _ _ hx187_0; first | rwa [add_block] at this | exact this) GW186.out); have hn187_1 : ad185.block ≠ gb186 := Nat.ne_of_lt (Nat.lt_of_lt_of_le (by have := c1_ _ _ hx187_0; first | rwa [add_block] at this | exact this) GW186.out); replace hx187_0 := (HB.out.cell (c1_ w _ hx187_0)).trans hx187_0; replace hx187_1 := (HB.out.cell (c1_ w _ hx187_1)).trans hx187_1; replace hx187_0 := (cell_far (p := ⟨gb186, 0, none⟩) (by first | (rw [add_block]; exact hn187_0) | (show (Addr.add _ _).block ≠ _; rw [add_block]; exact hn187_0) | exact hn187_0) (.int .u8 ((rd_T58 l0_3 x44_3).f0))).trans hx187_0; replace hx187_1 := (cell_far (p := ⟨gb186, 0, none⟩) (by first | (rw [add_block]; exact hn187_0) | (show (Addr.add _ _).block ≠ _; rw [add_block]; exact hn187_0) | exact hn187_0) (.int .u8 ((rd_T58 l0_3 x44_3).f0))).trans hx187_1; replace hx187_0 := (cell_far (p := ⟨gb186, 1, none⟩) (by first | (rw [add_block]; exact hn187_1) | (show (Addr.add _ _).block ≠ _; rw [add_block]; exact hn187_1) | exact hn187_1) (.int .u8 ((rd_T58 l0_3 x44_3).f1))).trans hx187_0; replace hx187_1 := (cell_far (p := ⟨gb186, 1, none⟩) (by first | (rw [add_block]; exact hn187_1) | (show (Addr.add _ _).block ≠ _; rw [add_block]; exact hn187_1) | exact hn187_1) (.int .u8 ((rd_T58 l0_3 x44_3).f1))).trans hx187_1; (try have hy187_0 := fun (n_ : Nat) => ((congrArg (fun z_ : World => z_.cell? _) (show (((w40.drewN n_).setCell ⟨gb186, 0, none⟩ (.int .u8 ((rd_T58 l0_3 x44_3).f0))).setCell ⟨gb186, 1, none⟩ (.int .u8 ((rd_T58 l0_3 x44_3).f1))) = World.drewN _ n_ by simp only [fk_setCell_drewN])).trans ((show ∀ (X_ : World) (m_ : Nat) (p_ : Addr), (X_.drewN m_).cell? p_ = X_.cell? p_ from fun _ _ _ => rfl) _ n_ _)).trans hx187_0); (try have hy187_1 := fun (n_ : Nat) => ((congrArg (fun z_ : World => z_.cell? _) (show (((w40.drewN n_).setCell ⟨gb186, 0, none⟩ (.int .u8 ((rd_T58 l0_3 x44_3).f0))).setCell ⟨gb186, 1, none⟩ (.int .u8 ((rd_T58 l0_3 x44_3).f1))) = World.drewN _ n_ by simp only [fk_setCell_drewN])).trans ((show ∀ (X_ : World) (m_ : Nat) (p_ : Addr), (X_.drewN m_).cell? p_ = X_.cell? p_ from fun _ _ _ => rfl) _ n_ _)).trans hx187_1); clear hn187_0; clear hn187_1; replace p187 := eq_true p187; replace q187 := eq_true q187)))
                go_roundg k3
                case measure => have := HJ1.out; have := HJ17.out; have := HK3.out; omega
                case rel => exact ⟨(wrap64 (x44_3 + 1)), (by first | rfl | (simp; done) | (simp [*]; done)), H', ⟨by have := HJ1.out; have := HJ17.out; have := HK3.out; omega⟩, ⟨by (with_reducible repeat (first | refine b1_ ?_ _ | refine b2_ ?_ | refine b3_ ?_ _)); refine blk_far ?_ NB184_186.out _; (with_reducible repeat (first | refine b1_ ?_ _ | refine b2_ ?_ | refine b3_ ?_ _)); refine blk_far ?_ NB184_186.out _; (with_reducible repeat (first | refine b1_ ?_ _ | refine b2_ ?_ | refine b3_ ?_ _)); exact BK184.out⟩, ⟨by repeat (with_reducible first | exact HB.out | apply l1_ | apply l2_ | apply l3_ | refine l4_ ?_ GE184.out | refine l4_ ?_ GE186.out)⟩⟩
               rw [if_neg c34] at H
               exact absurd H (by simp)
              rw [if_neg c33] at H
              exact absurd H (by simp)
             rw [if_neg c31] at H
             have c31b0 : decide (0 < x44_3) = false := decide_eq_false c31
             clear c31
             have H' := m_ H
             clear H
             have p185 : 0 ≤ (x44_3 : Int) := o1_ (by with_reducible assumption)
             have q185 : x44_3 < (l0_3.length : Int) := o1_ (by with_reducible assumption)
             obtain ⟨ad185, e185, hx185_0, hx185_1⟩ := at_T58 HR0_3.out x44_3 p185 q185
             cases e185
             replace hx185_0 := (HB.out.cell (c1_ w _ hx185_0)).trans hx185_0
             replace hx185_1 := (HB.out.cell (c1_ w _ hx185_1)).trans hx185_1
             replace p185 := eq_true p185
             replace q185 := eq_true q185
             go_wp2_with (first | ((with_reducible refine gate_dst (N := 4) rfl ?_); (try (refine gate_guard (by rfl) ?_; dsimp only)); refine box_event ?hg (N := 4) ?hd (cs := #[.int .u8 0, .int .u8 0]) (t := 58) ?hr ?_; (case hd => rfl); (case hg => rfl); (case hr => first | (go_simp; done) | (go_simp; rfl)); intro gb186 hg w44 hbox hb; have BK186 := m_ (hbox); have GW186 := m_ ((by rw [hg]; exact (l6_ (by repeat (with_reducible first | exact HB.out | apply l1_ | apply l2_ | apply l3_ | refine l4_ ?_ GE184.out))) : w.heap.size ≤ gb186)); have GE186 := m_ ((by rw [hg]; exact (l6_ (by repeat (with_reducible first | exact HB.out | apply l1_ | apply l2_ | apply l3_ | refine l4_ ?_ GE184.out))) : w.heap.size ≤ gb186)); replace HB := m_ (l5_ (by repeat (with_reducible first | exact HB.out | apply l1_ | apply l2_ | apply l3_ | refine l4_ ?_ GE184.out)) hb); have NB184_186 := m_ ((by rw [hg]; exact Nat.ne_of_lt (blk_lt (g := gb184) (o := .cells #[.int .i64 a0_0, .string a0_1, .bool a0_2, .slice (some ad185) l0_3.length c0_3] 35 (0, 0)) (by (with_reducible repeat (first | refine b1_ ?_ _ | refine b2_ ?_ | refine b3_ ?_ _)); exact BK184.out)) : gb184 ≠ gb186)); have NB186_184 := m_ ((by rw [hg]; exact Nat.ne_of_gt (blk_lt (g := gb184) (o := .cells #[.int .i64 a0_0, .string a0_1, .bool a0_2, .slice (some ad185) l0_3.length c0_3] 35 (0, 0)) (by (with_reducible repeat (first | refine b1_ ?_ _ | refine b2_ ?_ | refine b3_ ?_ _)); exact BK184.out)) : gb186 ≠ gb184)); replace BK184 := m_ (b4_ (g := gb184) (o := .cells #[.int .i64 a0_0, .string a0_1, .bool a0_2, .slice (some ad185) l0_3.length c0_3] 35 (0, 0)) (by (with_reducible repeat (first | refine b1_ ?_ _ | refine b2_ ?_ | refine b3_ ?_ _)); exact BK184.out) hb); clear hb hbox hg; have hnb45 := NB186_184.out; have hnc45 := NB184_186.out; have hcz46_0 : w44.cell? ⟨gb186, 0, none⟩ = some (.int .u8 0) := (b5_ BK186.out 0).trans rfl; have hcz46_1 : w44.cell? ⟨gb186, 1, none⟩ = some (.int .u8 0) := (b5_ BK186.out 1).trans rfl; have hfz46_0 := f1_ BK186.out 0; have hfz46_1 := f1_ BK186.out 1))
             repeat (go_quiet (fail); try go_wp2_with (first | ((with_reducible refine gate_dst (N := 4) rfl ?_); (try (refine gate_guard (by rfl) ?_; dsimp only)); refine box_event ?hg (N := 4) ?hd (cs := #[.int .u8 0, .int .u8 0]) (t := 58) ?hr ?_; (case hd => rfl); (case hg => rfl); (case hr => first | (go_simp; done) | (go_simp; rfl)); intro gb186 hg w44 hbox hb; have BK186 := m_ (hbox); have GW186 := m_ ((by rw [hg]; exact (l6_ (by repeat (with_reducible first | exact HB.out | apply l1_ | apply l2_ | apply l3_ | refine l4_ ?_ GE184.out))) : w.heap.size ≤ gb186)); have GE186 := m_ ((by rw [hg]; exact (l6_ (by repeat (with_reducible first | exact HB.out | apply l1_ | apply l2_ | apply l3_ | refine l4_ ?_ GE184.out))) : w.heap.size ≤ gb186)); replace HB := m_ (l5_ (by repeat (with_reducible first | exact HB.out | apply l1_ | apply l2_ | apply l3_ | refine l4_ ?_ GE184.out)) hb); have NB184_186 := m_ ((by rw [hg]; exact Nat.ne_of_lt (blk_lt (g := gb184) (o := .cells #[.int .i64 a0_0, .string a0_1, .bool a0_2, .slice (some ad185) l0_3.length c0_3] 35 (0, 0)) (by (with_reducible repeat (first | refine b1_ ?_ _ | refine b2_ ?_ | refine b3_ ?_ _)); exact BK184.out)) : gb184 ≠ gb186)); have NB186_184 := m_ ((by rw [hg]; exact Nat.ne_of_gt (blk_lt (g := gb184) (o := .cells #[.int .i64 a0_0, .string a0_1, .bool a0_2, .slice (some ad185) l0_3.length c0_3] 35 (0, 0)) (by (with_reducible repeat (first | refine b1_ ?_ _ | refine b2_ ?_ | refine b3_ ?_ _)); exact BK184.out)) : gb186 ≠ gb184)); replace BK184 := m_ (b4_ (g := gb184) (o := .cells #[.int .i64 a0_0, .string a0_1, .bool a0_2, .slice (some ad185) l0_3.length c0_3] 35 (0, 0)) (by (with_reducible repeat (first | refine b1_ ?_ _ | refine b2_ ?_ | refine b3_ ?_ _)); exact BK184.out) hb); clear hb hbox hg; have hnb45 := NB186_184.out; have hnc45 := NB184_186.out; have hcz46_0 : w44.cell? ⟨gb186, 0, none⟩ = some (.int .u8 0) := (b5_ BK186.out 0).trans rfl; have hcz46_1 : w44.cell? ⟨gb186, 1, none⟩ = some (.int .u8 0) := (b5_ BK186.out 1).trans rfl; have hfz46_0 := f1_ BK186.out 0; have hfz46_1 := f1_ BK186.out 1)))
             go_roundg k3
             case measure => have := HJ1.out; have := HJ17.out; have := HK3.out; omega
             case rel => exact ⟨(wrap64 (x44_3 + 1)), (by first | rfl | (simp; done) | (simp [*]; done)), H', ⟨by have := HJ1.out; have := HJ17.out; have := HK3.out; omega⟩, ⟨by (with_reducible repeat (first | refine b1_ ?_ _ | refine b2_ ?_ | refine b3_ ?_ _)); refine blk_far ?_ NB184_186.out _; (with_reducible repeat (first | refine b1_ ?_ _ | refine b2_ ?_ | refine b3_ ?_ _)); refine blk_far ?_ NB184_186.out _; (with_reducible repeat (first | refine b1_ ?_ _ | refine b2_ ?_ | refine b3_ ?_ _)); exact BK184.out⟩, ⟨by repeat (with_reducible first | exact HB.out | apply l1_ | apply l2_ | apply l3_ | refine l4_ ?_ GE184.out | refine l4_ ?_ GE186.out)⟩⟩
            rw [if_neg c26] at H
            exact absurd H (by simp)
           rw [if_neg c25] at H
           exact absurd H (by simp)
          rw [if_neg c24] at H
          have c24b0 : decide (x44_3 < (l0_3.length : Int)) = false := decide_eq_false c24
          clear c24
          obtain rfl := Option.some.inj H
          go_wp2
          repeat (go_quiet (fail); try go_wp2)
          go_ret
          exact ⟨by first | rfl | (simp [errW_none, errW_some] <;> rfl) | (simp [*, errW_none, errW_some] <;> rfl), by repeat (with_reducible first | exact HB.out | apply l1_ | apply l2_ | apply l3_ | refine l4_ ?_ GE184.out)⟩
       rw [if_neg c22] at H
       have c22b0 : (a0_0 == 4) = false := beq_eq_false_iff_ne.mpr c22
       have c22b1 : (a0_0 != 4) = true := bne_iff_ne.mpr c22
       obtain rfl := Option.some.inj H
       go_wp2
       repeat (go_quiet (fail); try go_wp2)
       go_ret
       exact ⟨by first | rfl | (simp [errW_none, errW_some] <;> rfl) | (simp [*, errW_none, errW_some] <;> rfl), by repeat (with_reducible first | exact HB.out | apply l1_ | apply l2_ | apply l3_ | refine l4_ ?_ GE184.out)⟩
end Go.Proofs.Ytbekhjcnmifnnaa.Q
