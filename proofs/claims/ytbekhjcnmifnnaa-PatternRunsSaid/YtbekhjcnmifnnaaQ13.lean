import Derived.Test.YtbekhjcnmifnnaaQ0
set_option linter.unusedVariables false
set_option linter.unusedSimpArgs false
namespace Go.Proofs.Ytbekhjcnmifnnaa.Q
open Go.RowKit Go.Proofs.YtbekhjcnmifnnaaW.PrintWords Go.Proofs.YtbekhjcnmifnnaaW.PrintLast Go.Proofs.YtbekhjcnmifnnaaW.PrintMore
def pattern_one.l0 : Nat → Int → List (S58) → Int → Int → Int → ByteArray → Bool → List (S58) → Option (Bool)
 | 0, _, _, _, _, _, _, _, _ => none
 | k + 1, x1, x19, x20, x21, x192000, x192001, x192002, x192003 => if x21 < x20 then (if 0 ≤ x21 then (if x21 < (x19.length : Int) then (if x1 ≥ ((rd_T58 x19 x21).f0) then (if x1 ≤ ((rd_T58 x19 x21).f1) then (some (!x192002)) else (pattern_one.l0 k x1 x19 x20 (wrap64 (x21 + 1)) x192000 x192001 x192002 x192003)) else (pattern_one.l0 k x1 x19 x20 (wrap64 (x21 + 1)) x192000 x192001 x192002 x192003)) else (none)) else (none)) else (some x192002)
def pattern_one.f (k : Nat) (a0_0 : Int) (a0_1 : ByteArray) (a0_2 : Bool) (l0_3 : List (S58)) (a1 : Int) : Option (Bool) := if a0_0 = 1 then (if 0 < (a0_1.size : Int) then (some ((bt a0_1 0) == a1)) else (none)) else (if a0_0 = 2 then (some true) else (pattern_one.l0 k a1 l0_3 (l0_3.length : Int) 0 a0_0 a0_1 a0_2 l0_3))
theorem pattern_one.mono_l : ∀ k, (∀ y0 y1 y2 y3 y4 y5 y6 y7, LeO (pattern_one.l0 k y0 y1 y2 y3 y4 y5 y6 y7) (pattern_one.l0 (k + 1) y0 y1 y2 y3 y4 y5 y6 y7))
 | 0 => fun _ _ _ _ _ _ _ _ r h => by simp [pattern_one.l0] at h
 | k + 1 => by
  have ih0 := pattern_one.mono_l k
  ·
   intro y0 y1 y2 y3 y4 y5 y6 y7
   unfold pattern_one.l0
   repeat' first
   | (with_reducible exact ih0 _ _ _ _ _ _ _ _)
   | (with_reducible exact LeO.refl _)
   | (with_reducible exact LeO.none _)
   | (with_reducible refine LeO.ite ?_ ?_)
   | (with_reducible refine LeO.bind ?_ (fun _ => ?_))
theorem pattern_one.mono : ∀ a0 a1 a2 a3 a4 k, LeO (pattern_one.f k a0 a1 a2 a3 a4) (pattern_one.f (k + 1) a0 a1 a2 a3 a4) := by
 intro a0 a1 a2 a3 a4 k
 have ih0 := pattern_one.mono_l k
 unfold pattern_one.f
 repeat' first
  | (with_reducible exact ih0 _ _ _ _ _ _ _ _)
  | (with_reducible exact LeO.refl _)
  | (with_reducible exact LeO.none _)
  | (with_reducible refine LeO.ite ?_ ?_)
  | (with_reducible refine LeO.bind ?_ (fun _ => ?_))
set_option maxHeartbeats 8000000 in
set_option maxRecDepth 100000 in
theorem pattern_one.calls (k : Nat) (a0_0 : Int) (a0_1 : ByteArray) (a0_2 : Bool) (A0_3 : Option Addr) (c0_3 : Nat) (l0_3 : List (S58)) (a1 : Int) (r : Bool) (w : World) (hr0_3 : Kd.C k58 w A0_3 l0_3.length l0_3) (hc0_3 : l0_3.length ≤ c0_3) (h : pattern_one.f k a0_0 a0_1 a0_2 l0_3 a1 = some r) :
 Calls Try.prog 49 #[.agg #[.int .i64 a0_0, .string a0_1, .bool a0_2, .slice A0_3 l0_3.length c0_3], .int .u8 a1] w fun e w' => e = .returned (.bool r) ∧ Below w.heap.size w w' := by
 have hu35 := Try.underlying35
 have hu58 := Try.underlying58
 have HR0_3 := m_ hr0_3
 have HC0_3 := m_ hc0_3
 clear hr0_3 hc0_3
 have HB := m_ (Below.refl w.heap.size w)
 have H : (if a0_0 = 1 then (if 0 < (a0_1.size : Int) then (some ((bt a0_1 0) == a1)) else (none)) else (if a0_0 = 2 then (some true) else (pattern_one.l0 k a1 l0_3 (l0_3.length : Int) 0 a0_0 a0_1 a0_2 l0_3))) = some r := h
 clear h
 by_cases c3 : a0_0 = 1
 ·
  rw [if_pos c3] at H
  have c3b0 : (a0_0 == 1) = true := beq_iff_eq.mpr c3
  have c3b1 : (a0_0 != 1) = false := bne_eq_false_iff_eq.mpr c3
  clear c3
  by_cases c4 : 0 < (a0_1.size : Int)
  ·
   rw [if_pos c4] at H
   have c4b0 : decide (0 < (a0_1.size : Int)) = true := decide_eq_true c4
   have c4b1 : decide (0 < a0_1.size) = true := decide_eq_true (by omega)
   clear c4
   obtain rfl := Option.some.inj H
   go_enter Try.func49, Try.ntmps49
   go_wp2_with (first | ((with_reducible refine gate_dst (N := 2) rfl ?_); refine box_event ?hg (N := 2) ?hd (cs := #[.int .i64 a0_0, .string a0_1, .bool a0_2, .slice A0_3 l0_3.length c0_3]) (t := 35) ?hr ?_; (case hd => rfl); (case hg => rfl); (case hr => first | (go_simp; done) | (go_simp; rfl)); intro gb191 hg w6 hbox hb; have BK191 := m_ (hbox); have GW191 := m_ ((by rw [hg]; exact (l6_ (by repeat (with_reducible first | exact HB.out | apply l1_ | apply l2_ | apply l3_))) : w.heap.size ≤ gb191)); have GE191 := m_ ((by rw [hg]; exact (l6_ (by repeat (with_reducible first | exact HB.out | apply l1_ | apply l2_ | apply l3_))) : w.heap.size ≤ gb191)); replace HB := m_ (l5_ (by repeat (with_reducible first | exact HB.out | apply l1_ | apply l2_ | apply l3_)) hb); clear hb hbox hg; have hcz7_0 : w6.cell? ⟨gb191, 0, none⟩ = some (.int .i64 a0_0) := (b5_ BK191.out 0).trans rfl; have hcz7_1 : w6.cell? ⟨gb191, 1, none⟩ = some (.string a0_1) := (b5_ BK191.out 1).trans rfl; have hcz7_2 : w6.cell? ⟨gb191, 2, none⟩ = some (.bool a0_2) := (b5_ BK191.out 2).trans rfl; have hcz7_3 : w6.cell? ⟨gb191, 3, none⟩ = some (.slice A0_3 l0_3.length c0_3) := (b5_ BK191.out 3).trans rfl; have hfz7_0 := f1_ BK191.out 0; have hfz7_1 := f1_ BK191.out 1; have hfz7_2 := f1_ BK191.out 2; have hfz7_3 := f1_ BK191.out 3; have p5 : 0 ≤ (0 : Int) := (by omega); have q5 : 0 < a0_1.size := (by have : (0 : Int) < (a0_1.size : Int) := o1_ (by with_reducible assumption); omega); have hx5 : ∀ h : 0 < a0_1.size, ((a0_1[0]'h).toNat : Int) = bt a0_1 0 := bt_at a0_1 0; clear p5; have qi5 : (0 < (a0_1.size : Int)) = True := eq_true (o1_ (by with_reducible assumption)); replace q5 := eq_true q5))
   go_ret
   exact ⟨by first | rfl | (simp [errW_none, errW_some] <;> rfl) | (simp [*, errW_none, errW_some] <;> rfl), by repeat (with_reducible first | exact HB.out | apply l1_ | apply l2_ | apply l3_ | refine l4_ ?_ GE191.out)⟩
  rw [if_neg c4] at H
  exact absurd H (by simp)
 rw [if_neg c3] at H
 have c3b0 : (a0_0 == 1) = false := beq_eq_false_iff_ne.mpr c3
 have c3b1 : (a0_0 != 1) = true := bne_iff_ne.mpr c3
 by_cases c8 : a0_0 = 2
 ·
  rw [if_pos c8] at H
  have c8b0 : (a0_0 == 2) = true := beq_iff_eq.mpr c8
  have c8b1 : (a0_0 != 2) = false := bne_eq_false_iff_eq.mpr c8
  clear c8
  obtain rfl := Option.some.inj H
  go_enter Try.func49, Try.ntmps49
  go_wp2_with (first | ((with_reducible refine gate_dst (N := 2) rfl ?_); refine box_event ?hg (N := 2) ?hd (cs := #[.int .i64 a0_0, .string a0_1, .bool a0_2, .slice A0_3 l0_3.length c0_3]) (t := 35) ?hr ?_; (case hd => rfl); (case hg => rfl); (case hr => first | (go_simp; done) | (go_simp; rfl)); intro gb191 hg w9 hbox hb; have BK191 := m_ (hbox); have GW191 := m_ ((by rw [hg]; exact (l6_ (by repeat (with_reducible first | exact HB.out | apply l1_ | apply l2_ | apply l3_))) : w.heap.size ≤ gb191)); have GE191 := m_ ((by rw [hg]; exact (l6_ (by repeat (with_reducible first | exact HB.out | apply l1_ | apply l2_ | apply l3_))) : w.heap.size ≤ gb191)); replace HB := m_ (l5_ (by repeat (with_reducible first | exact HB.out | apply l1_ | apply l2_ | apply l3_)) hb); clear hb hbox hg; have hcz10_0 : w9.cell? ⟨gb191, 0, none⟩ = some (.int .i64 a0_0) := (b5_ BK191.out 0).trans rfl; have hcz10_1 : w9.cell? ⟨gb191, 1, none⟩ = some (.string a0_1) := (b5_ BK191.out 1).trans rfl; have hcz10_2 : w9.cell? ⟨gb191, 2, none⟩ = some (.bool a0_2) := (b5_ BK191.out 2).trans rfl; have hcz10_3 : w9.cell? ⟨gb191, 3, none⟩ = some (.slice A0_3 l0_3.length c0_3) := (b5_ BK191.out 3).trans rfl; have hfz10_0 := f1_ BK191.out 0; have hfz10_1 := f1_ BK191.out 1; have hfz10_2 := f1_ BK191.out 2; have hfz10_3 := f1_ BK191.out 3))
  go_ret
  exact ⟨by first | rfl | (simp [errW_none, errW_some] <;> rfl) | (simp [*, errW_none, errW_some] <;> rfl), by repeat (with_reducible first | exact HB.out | apply l1_ | apply l2_ | apply l3_ | refine l4_ ?_ GE191.out)⟩
 rw [if_neg c8] at H
 have c8b0 : (a0_0 == 2) = false := beq_eq_false_iff_ne.mpr c8
 have c8b1 : (a0_0 != 2) = true := bne_iff_ne.mpr c8
 have H' := m_ H
 clear H
 go_enter Try.func49, Try.ntmps49
 go_wp2_with (first | ((with_reducible refine gate_dst (N := 2) rfl ?_); refine box_event ?hg (N := 2) ?hd (cs := #[.int .i64 a0_0, .string a0_1, .bool a0_2, .slice A0_3 l0_3.length c0_3]) (t := 35) ?hr ?_; (case hd => rfl); (case hg => rfl); (case hr => first | (go_simp; done) | (go_simp; rfl)); intro gb191 hg w11 hbox hb; have BK191 := m_ (hbox); have GW191 := m_ ((by rw [hg]; exact (l6_ (by repeat (with_reducible first | exact HB.out | apply l1_ | apply l2_ | apply l3_))) : w.heap.size ≤ gb191)); have GE191 := m_ ((by rw [hg]; exact (l6_ (by repeat (with_reducible first | exact HB.out | apply l1_ | apply l2_ | apply l3_))) : w.heap.size ≤ gb191)); replace HB := m_ (l5_ (by repeat (with_reducible first | exact HB.out | apply l1_ | apply l2_ | apply l3_)) hb); clear hb hbox hg; have hcz12_0 : w11.cell? ⟨gb191, 0, none⟩ = some (.int .i64 a0_0) := (b5_ BK191.out 0).trans rfl; have hcz12_1 : w11.cell? ⟨gb191, 1, none⟩ = some (.string a0_1) := (b5_ BK191.out 1).trans rfl; have hcz12_2 : w11.cell? ⟨gb191, 2, none⟩ = some (.bool a0_2) := (b5_ BK191.out 2).trans rfl; have hcz12_3 : w11.cell? ⟨gb191, 3, none⟩ = some (.slice A0_3 l0_3.length c0_3) := (b5_ BK191.out 3).trans rfl; have hfz12_0 := f1_ BK191.out 0; have hfz12_1 := f1_ BK191.out 1; have hfz12_2 := f1_ BK191.out 2; have hfz12_3 := f1_ BK191.out 3))
 go_loopg [21] k (fun kq v21 w' => ∃ (x21_1 : Int), v21 = .int .i64 x21_1 ∧ Aside0 (pattern_one.l0 kq a1 l0_3 (l0_3.length : Int) x21_1 a0_0 a0_1 a0_2 l0_3 = some r) ∧ Aside0 (kq ≤ k) ∧ Aside0 (w'.heap[gb191]? = some (.cells #[.int .i64 a0_0, .string a0_1, .bool a0_2, (.slice A0_3 l0_3.length c0_3)] 35 (0, 0))) ∧ Aside0 (Below w.heap.size w w'))
 case atStart => exact ⟨(0), (by first | rfl | (simp; done) | (simp [*]; done)), H', ⟨Nat.le_refl _⟩, ⟨by (with_reducible repeat (first | refine b1_ ?_ _ | refine b2_ ?_ | refine b3_ ?_ _)); exact BK191.out⟩, ⟨by repeat (with_reducible first | exact HB.out | apply l1_ | apply l2_ | apply l3_ | refine l4_ ?_ GE191.out)⟩⟩
 case round =>
  clear H'
  (try clear p2); (try clear c3); (try clear c3b0); (try clear c3b1); (try clear c4); (try clear c4b0); (try clear c4b1); (try clear p5); (try clear q5); (try clear hx5); (try clear qi5); (try clear c8); (try clear c8b0); (try clear c8b1); (try clear hcz10_0); (try clear hcz10_1); (try clear hcz10_2); (try clear hcz10_3); (try clear hcz12_0); (try clear hcz12_1); (try clear hcz12_2); (try clear hcz12_3); (try clear hcz7_0); (try clear hcz7_1); (try clear hcz7_2); (try clear hcz7_3); (try clear hfz10_0); (try clear hfz10_1); (try clear hfz10_2); (try clear hfz10_3); (try clear hfz12_0); (try clear hfz12_1); (try clear hfz12_2); (try clear hfz12_3); (try clear hfz7_0); (try clear hfz7_1); (try clear hfz7_2); (try clear hfz7_3); (try clear p5); (try clear q5)
  obtain ⟨x21_1, rfl, HA, HK1, BK191, HB⟩ := hrel
  cases gk with
  | zero => exact absurd HA.out (by simp [pattern_one.l0])
  | succ k1 =>
   have H := HA.out
   clear HA
   simp only [pattern_one.l0] at H
   by_cases c13 : x21_1 < (l0_3.length : Int)
   ·
    rw [if_pos c13] at H
    have c13b0 : decide (x21_1 < (l0_3.length : Int)) = true := decide_eq_true c13
    clear c13
    by_cases c14 : 0 ≤ x21_1
    ·
     rw [if_pos c14] at H
     have c14b0 : decide (0 ≤ x21_1) = true := decide_eq_true c14
     clear c14
     by_cases c15 : x21_1 < (l0_3.length : Int)
     ·
      rw [if_pos c15] at H
      have c15b0 : decide (x21_1 < (l0_3.length : Int)) = true := decide_eq_true c15
      clear c15
      by_cases c16 : a1 ≥ ((rd_T58 l0_3 x21_1).f0)
      ·
       rw [if_pos c16] at H
       have c16b0 : decide (((rd_T58 l0_3 x21_1).f0) ≤ a1) = true := decide_eq_true c16
       clear c16
       by_cases c17 : a1 ≤ ((rd_T58 l0_3 x21_1).f1)
       ·
        rw [if_pos c17] at H
        have c17b0 : decide (a1 ≤ ((rd_T58 l0_3 x21_1).f1)) = true := decide_eq_true c17
        clear c17
        obtain rfl := Option.some.inj H
        have p192 : 0 ≤ (x21_1 : Int) := o1_ (by with_reducible assumption)
        have q192 : x21_1 < (l0_3.length : Int) := o1_ (by with_reducible assumption)
        obtain ⟨ad192, e192, hx192_0, hx192_1⟩ := at_T58 HR0_3.out x21_1 p192 q192
        cases e192
        replace hx192_0 := (HB.out.cell (c1_ w _ hx192_0)).trans hx192_0
        replace hx192_1 := (HB.out.cell (c1_ w _ hx192_1)).trans hx192_1
        replace p192 := eq_true p192
        replace q192 := eq_true q192
        go_wp2_with (first | ((with_reducible refine gate_dst (N := 6) rfl ?_); refine box_event ?hg (N := 6) ?hd (cs := #[.int .u8 0, .int .u8 0]) (t := 58) ?hr ?_; (case hd => rfl); (case hg => rfl); (case hr => first | (go_simp; done) | (go_simp; rfl)); intro gb193 hg w18 hbox hb; have BK193 := m_ (hbox); have GW193 := m_ ((by rw [hg]; exact (l6_ (by repeat (with_reducible first | exact HB.out | apply l1_ | apply l2_ | apply l3_ | refine l4_ ?_ GE191.out))) : w.heap.size ≤ gb193)); have GE193 := m_ ((by rw [hg]; exact (l6_ (by repeat (with_reducible first | exact HB.out | apply l1_ | apply l2_ | apply l3_ | refine l4_ ?_ GE191.out))) : w.heap.size ≤ gb193)); replace HB := m_ (l5_ (by repeat (with_reducible first | exact HB.out | apply l1_ | apply l2_ | apply l3_ | refine l4_ ?_ GE191.out)) hb); have NB191_193 := m_ ((by rw [hg]; exact Nat.ne_of_lt (blk_lt (g := gb191) (o := .cells #[.int .i64 a0_0, .string a0_1, .bool a0_2, .slice (some ad192) l0_3.length c0_3] 35 (0, 0)) (by (with_reducible repeat (first | refine b1_ ?_ _ | refine b2_ ?_ | refine b3_ ?_ _)); exact BK191.out)) : gb191 ≠ gb193)); have NB193_191 := m_ ((by rw [hg]; exact Nat.ne_of_gt (blk_lt (g := gb191) (o := .cells #[.int .i64 a0_0, .string a0_1, .bool a0_2, .slice (some ad192) l0_3.length c0_3] 35 (0, 0)) (by (with_reducible repeat (first | refine b1_ ?_ _ | refine b2_ ?_ | refine b3_ ?_ _)); exact BK191.out)) : gb193 ≠ gb191)); replace BK191 := m_ (b4_ (g := gb191) (o := .cells #[.int .i64 a0_0, .string a0_1, .bool a0_2, .slice (some ad192) l0_3.length c0_3] 35 (0, 0)) (by (with_reducible repeat (first | refine b1_ ?_ _ | refine b2_ ?_ | refine b3_ ?_ _)); exact BK191.out) hb); clear hb hbox hg; have hnb19 := NB193_191.out; have hnc19 := NB191_193.out; have hcz20_0 : w18.cell? ⟨gb193, 0, none⟩ = some (.int .u8 0) := (b5_ BK193.out 0).trans rfl; have hcz20_1 : w18.cell? ⟨gb193, 1, none⟩ = some (.int .u8 0) := (b5_ BK193.out 1).trans rfl; have hfz20_0 := f1_ BK193.out 0; have hfz20_1 := f1_ BK193.out 1; have hcz21_0 : w18.cell? ⟨gb191, 0, none⟩ = some (.int .i64 a0_0) := (b5_ BK191.out 0).trans rfl; have hcz21_1 : w18.cell? ⟨gb191, 1, none⟩ = some (.string a0_1) := (b5_ BK191.out 1).trans rfl; have hcz21_2 : w18.cell? ⟨gb191, 2, none⟩ = some (.bool a0_2) := (b5_ BK191.out 2).trans rfl; have hcz21_3 : w18.cell? ⟨gb191, 3, none⟩ = some (.slice (some ad192) l0_3.length c0_3) := (b5_ BK191.out 3).trans rfl; have hfz21_0 := f1_ BK191.out 0; have hfz21_1 := f1_ BK191.out 1; have hfz21_2 := f1_ BK191.out 2; have hfz21_3 := f1_ BK191.out 3))
        go_ret
        exact ⟨by first | rfl | (simp [errW_none, errW_some] <;> rfl) | (simp [*, errW_none, errW_some] <;> rfl), by repeat (with_reducible first | exact HB.out | apply l1_ | apply l2_ | apply l3_ | refine l4_ ?_ GE191.out | refine l4_ ?_ GE193.out)⟩
       rw [if_neg c17] at H
       have c17b0 : decide (a1 ≤ ((rd_T58 l0_3 x21_1).f1)) = false := decide_eq_false c17
       clear c17
       have H' := m_ H
       clear H
       have p192 : 0 ≤ (x21_1 : Int) := o1_ (by with_reducible assumption)
       have q192 : x21_1 < (l0_3.length : Int) := o1_ (by with_reducible assumption)
       obtain ⟨ad192, e192, hx192_0, hx192_1⟩ := at_T58 HR0_3.out x21_1 p192 q192
       cases e192
       replace hx192_0 := (HB.out.cell (c1_ w _ hx192_0)).trans hx192_0
       replace hx192_1 := (HB.out.cell (c1_ w _ hx192_1)).trans hx192_1
       replace p192 := eq_true p192
       replace q192 := eq_true q192
       go_wp2_with (first | ((with_reducible refine gate_dst (N := 6) rfl ?_); refine box_event ?hg (N := 6) ?hd (cs := #[.int .u8 0, .int .u8 0]) (t := 58) ?hr ?_; (case hd => rfl); (case hg => rfl); (case hr => first | (go_simp; done) | (go_simp; rfl)); intro gb193 hg w22 hbox hb; have BK193 := m_ (hbox); have GW193 := m_ ((by rw [hg]; exact (l6_ (by repeat (with_reducible first | exact HB.out | apply l1_ | apply l2_ | apply l3_ | refine l4_ ?_ GE191.out))) : w.heap.size ≤ gb193)); have GE193 := m_ ((by rw [hg]; exact (l6_ (by repeat (with_reducible first | exact HB.out | apply l1_ | apply l2_ | apply l3_ | refine l4_ ?_ GE191.out))) : w.heap.size ≤ gb193)); replace HB := m_ (l5_ (by repeat (with_reducible first | exact HB.out | apply l1_ | apply l2_ | apply l3_ | refine l4_ ?_ GE191.out)) hb); have NB191_193 := m_ ((by rw [hg]; exact Nat.ne_of_lt (blk_lt (g := gb191) (o := .cells #[.int .i64 a0_0, .string a0_1, .bool a0_2, .slice (some ad192) l0_3.length c0_3] 35 (0, 0)) (by (with_reducible repeat (first | refine b1_ ?_ _ | refine b2_ ?_ | refine b3_ ?_ _)); exact BK191.out)) : gb191 ≠ gb193)); have NB193_191 := m_ ((by rw [hg]; exact Nat.ne_of_gt (blk_lt (g := gb191) (o := .cells #[.int .i64 a0_0, .string a0_1, .bool a0_2, .slice (some ad192) l0_3.length c0_3] 35 (0, 0)) (by (with_reducible repeat (first | refine b1_ ?_ _ | refine b2_ ?_ | refine b3_ ?_ _)); exact BK191.out)) : gb193 ≠ gb191)); replace BK191 := m_ (b4_ (g := gb191) (o := .cells #[.int .i64 a0_0, .string a0_1, .bool a0_2, .slice (some ad192) l0_3.length c0_3] 35 (0, 0)) (by (with_reducible repeat (first | refine b1_ ?_ _ | refine b2_ ?_ | refine b3_ ?_ _)); exact BK191.out) hb); clear hb hbox hg; have hnb23 := NB193_191.out; have hnc23 := NB191_193.out; have hcz24_0 : w22.cell? ⟨gb193, 0, none⟩ = some (.int .u8 0) := (b5_ BK193.out 0).trans rfl; have hcz24_1 : w22.cell? ⟨gb193, 1, none⟩ = some (.int .u8 0) := (b5_ BK193.out 1).trans rfl; have hfz24_0 := f1_ BK193.out 0; have hfz24_1 := f1_ BK193.out 1))
       go_roundg k1
       case measure => have := HK1.out; omega
       case rel => exact ⟨(wrap64 (x21_1 + 1)), (by first | rfl | (simp; done) | (simp [*]; done)), H', ⟨by have := HK1.out; omega⟩, ⟨by (with_reducible repeat (first | refine b1_ ?_ _ | refine b2_ ?_ | refine b3_ ?_ _)); refine blk_far ?_ NB191_193.out _; (with_reducible repeat (first | refine b1_ ?_ _ | refine b2_ ?_ | refine b3_ ?_ _)); refine blk_far ?_ NB191_193.out _; (with_reducible repeat (first | refine b1_ ?_ _ | refine b2_ ?_ | refine b3_ ?_ _)); exact BK191.out⟩, ⟨by repeat (with_reducible first | exact HB.out | apply l1_ | apply l2_ | apply l3_ | refine l4_ ?_ GE191.out | refine l4_ ?_ GE193.out)⟩⟩
      rw [if_neg c16] at H
      have c16b0 : decide (((rd_T58 l0_3 x21_1).f0) ≤ a1) = false := decide_eq_false c16
      clear c16
      have H' := m_ H
      clear H
      have p192 : 0 ≤ (x21_1 : Int) := o1_ (by with_reducible assumption)
      have q192 : x21_1 < (l0_3.length : Int) := o1_ (by with_reducible assumption)
      obtain ⟨ad192, e192, hx192_0, hx192_1⟩ := at_T58 HR0_3.out x21_1 p192 q192
      cases e192
      replace hx192_0 := (HB.out.cell (c1_ w _ hx192_0)).trans hx192_0
      replace hx192_1 := (HB.out.cell (c1_ w _ hx192_1)).trans hx192_1
      replace p192 := eq_true p192
      replace q192 := eq_true q192
      go_wp2_with (first | ((with_reducible refine gate_dst (N := 6) rfl ?_); refine box_event ?hg (N := 6) ?hd (cs := #[.int .u8 0, .int .u8 0]) (t := 58) ?hr ?_; (case hd => rfl); (case hg => rfl); (case hr => first | (go_simp; done) | (go_simp; rfl)); intro gb193 hg w25 hbox hb; have BK193 := m_ (hbox); have GW193 := m_ ((by rw [hg]; exact (l6_ (by repeat (with_reducible first | exact HB.out | apply l1_ | apply l2_ | apply l3_ | refine l4_ ?_ GE191.out))) : w.heap.size ≤ gb193)); have GE193 := m_ ((by rw [hg]; exact (l6_ (by repeat (with_reducible first | exact HB.out | apply l1_ | apply l2_ | apply l3_ | refine l4_ ?_ GE191.out))) : w.heap.size ≤ gb193)); replace HB := m_ (l5_ (by repeat (with_reducible first | exact HB.out | apply l1_ | apply l2_ | apply l3_ | refine l4_ ?_ GE191.out)) hb); have NB191_193 := m_ ((by rw [hg]; exact Nat.ne_of_lt (blk_lt (g := gb191) (o := .cells #[.int .i64 a0_0, .string a0_1, .bool a0_2, .slice (some ad192) l0_3.length c0_3] 35 (0, 0)) (by (with_reducible repeat (first | refine b1_ ?_ _ | refine b2_ ?_ | refine b3_ ?_ _)); exact BK191.out)) : gb191 ≠ gb193)); have NB193_191 := m_ ((by rw [hg]; exact Nat.ne_of_gt (blk_lt (g := gb191) (o := .cells #[.int .i64 a0_0, .string a0_1, .bool a0_2, .slice (some ad192) l0_3.length c0_3] 35 (0, 0)) (by (with_reducible repeat (first | refine b1_ ?_ _ | refine b2_ ?_ | refine b3_ ?_ _)); exact BK191.out)) : gb193 ≠ gb191)); replace BK191 := m_ (b4_ (g := gb191) (o := .cells #[.int .i64 a0_0, .string a0_1, .bool a0_2, .slice (some ad192) l0_3.length c0_3] 35 (0, 0)) (by (with_reducible repeat (first | refine b1_ ?_ _ | refine b2_ ?_ | refine b3_ ?_ _)); exact BK191.out) hb); clear hb hbox hg; have hnb26 := NB193_191.out; have hnc26 := NB191_193.out; have hcz27_0 : w25.cell? ⟨gb193, 0, none⟩ = some (.int .u8 0) := (b5_ BK193.out 0).trans rfl; have hcz27_1 : w25.cell? ⟨gb193, 1, none⟩ = some (.int .u8 0) := (b5_ BK193.out 1).trans rfl; have hfz27_0 := f1_ BK193.out 0; have hfz27_1 := f1_ BK193.out 1))
      go_roundg k1
      case measure => have := HK1.out; omega
      case rel => exact ⟨(wrap64 (x21_1 + 1)), (by first | rfl | (simp; done) | (simp [*]; done)), H', ⟨by have := HK1.out; omega⟩, ⟨by (with_reducible repeat (first | refine b1_ ?_ _ | refine b2_ ?_ | refine b3_ ?_ _)); refine blk_far ?_ NB191_193.out _; (with_reducible repeat (first | refine b1_ ?_ _ | refine b2_ ?_ | refine b3_ ?_ _)); refine blk_far ?_ NB191_193.out _; (with_reducible repeat (first | refine b1_ ?_ _ | refine b2_ ?_ | refine b3_ ?_ _)); exact BK191.out⟩, ⟨by repeat (with_reducible first | exact HB.out | apply l1_ | apply l2_ | apply l3_ | refine l4_ ?_ GE191.out | refine l4_ ?_ GE193.out)⟩⟩
     rw [if_neg c15] at H
     exact absurd H (by simp)
    rw [if_neg c14] at H
    exact absurd H (by simp)
   rw [if_neg c13] at H
   have c13b0 : decide (x21_1 < (l0_3.length : Int)) = false := decide_eq_false c13
   clear c13
   obtain rfl := Option.some.inj H
   have hcz28_0 : wr.cell? ⟨gb191, 0, none⟩ = some (.int .i64 a0_0) := (b5_ BK191.out 0).trans rfl
   have hcz28_1 : wr.cell? ⟨gb191, 1, none⟩ = some (.string a0_1) := (b5_ BK191.out 1).trans rfl
   have hcz28_2 : wr.cell? ⟨gb191, 2, none⟩ = some (.bool a0_2) := (b5_ BK191.out 2).trans rfl
   have hcz28_3 : wr.cell? ⟨gb191, 3, none⟩ = some (.slice A0_3 l0_3.length c0_3) := (b5_ BK191.out 3).trans rfl
   have hfz28_0 := f1_ BK191.out 0
   have hfz28_1 := f1_ BK191.out 1
   have hfz28_2 := f1_ BK191.out 2
   have hfz28_3 := f1_ BK191.out 3
   go_wp2
   go_ret
   exact ⟨by first | rfl | (simp [errW_none, errW_some] <;> rfl) | (simp [*, errW_none, errW_some] <;> rfl), by repeat (with_reducible first | exact HB.out | apply l1_ | apply l2_ | apply l3_ | refine l4_ ?_ GE191.out)⟩
end Go.Proofs.Ytbekhjcnmifnnaa.Q
