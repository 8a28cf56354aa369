-- Written by a program of this session's (wip/fork/fprint.py over the kit's print.py). Not trusted: Lean checks it.
import Derived.Test.YteffbobpffkjlaaQ0
import Derived.Test.YteffbobpffkjlaaQ7
import Derived.Test.YteffbobpffkjlaaQ10
import Derived.Test.YteffbobpffkjlaaQ11
import Derived.Test.YteffbobpffkjlaaQ12
namespace Go.Proofs.Yteffbobpffkjlaa.Q
open Go.RowKit Go.Proofs.YteffbobpffkjlaaW.PrintWords Go.Proofs.YteffbobpffkjlaaW.PrintLast Go.Proofs.YteffbobpffkjlaaW.PrintMore
attribute [local go_sem] max2_int min2_int max_two min_two max_three min_three max_four min_four   -- for this text's walks alone
set_option linter.unusedVariables false
set_option linter.unusedSimpArgs false

/-! ### jobshellref32_Pick: function 13 -/
def jobshellref32_Pick.j0 : Nat → List Int → Int → Bool → Int → Int → Int → List Int → Option (Int × Int × Int × Int × List Int × Int)
  | 0, _, _, _, _, _, _, _ => none
  | k + 1, x1, x8, x33, x212000, x212001, x212002, x212003 => if x33 = true then (if 0 < (x212003.length : Int) then (if 1 ≤ (x212003.length : Int) then ((some (x212003.drop 1 : List Int)).bind fun y217 => (if ([] : List Int).length + y217.length < 17592186044416 then ((some (([] : List Int) ++ y217 : List Int)).bind fun y222 => (if (rd x212003 0) ≥ 0 then (if (x1.length : Int) = 0 then (none) else (if 0 ≤ (Int.tmod (rd x212003 0) (x1.length : Int)) then (if (Int.tmod (rd x212003 0) (x1.length : Int)) < (x1.length : Int) then (if x212000 = 3 then ((jobshellref32_Mix.f (IntKind.u64.wrap (x212002 + 11400714819323198485))).bind fun t226 => (if (IntKind.u64.wrap ((x1.length : Int))) = 0 then (none) else (if 0 ≤ (wrap64 (Int.tmod t226 (IntKind.u64.wrap ((x1.length : Int))))) then (if (wrap64 (Int.tmod t226 (IntKind.u64.wrap ((x1.length : Int))))) < (x1.length : Int) then (some (rd x1 (wrap64 (Int.tmod t226 (IntKind.u64.wrap ((x1.length : Int))))), x212000, rd x1 (wrap64 (Int.tmod t226 (IntKind.u64.wrap ((x1.length : Int))))), IntKind.u64.wrap (x212002 + 11400714819323198485), y222, 0)) else (none)) else (none)))) else (some (rd x1 (Int.tmod (rd x212003 0) (x1.length : Int)), x212000, rd x1 (Int.tmod (rd x212003 0) (x1.length : Int)), x212002, y222, 0))) else (none)) else (none))) else (if x212000 = 3 then ((jobshellref32_Mix.f (IntKind.u64.wrap (x212002 + 11400714819323198485))).bind fun t228 => (if (IntKind.u64.wrap ((x1.length : Int))) = 0 then (none) else (if 0 ≤ (wrap64 (Int.tmod t228 (IntKind.u64.wrap ((x1.length : Int))))) then (if (wrap64 (Int.tmod t228 (IntKind.u64.wrap ((x1.length : Int))))) < (x1.length : Int) then (some (rd x1 (wrap64 (Int.tmod t228 (IntKind.u64.wrap ((x1.length : Int))))), x212000, rd x1 (wrap64 (Int.tmod t228 (IntKind.u64.wrap ((x1.length : Int))))), IntKind.u64.wrap (x212002 + 11400714819323198485), y222, 0)) else (none)) else (none)))) else (some (x8, x212000, x8, x212002, y222, 0))))) else (none))) else (none)) else (none)) else (if x212000 = 3 then ((jobshellref32_Mix.f (IntKind.u64.wrap (x212002 + 11400714819323198485))).bind fun t230 => (if (IntKind.u64.wrap ((x1.length : Int))) = 0 then (none) else (if 0 ≤ (wrap64 (Int.tmod t230 (IntKind.u64.wrap ((x1.length : Int))))) then (if (wrap64 (Int.tmod t230 (IntKind.u64.wrap ((x1.length : Int))))) < (x1.length : Int) then (some (rd x1 (wrap64 (Int.tmod t230 (IntKind.u64.wrap ((x1.length : Int))))), x212000, rd x1 (wrap64 (Int.tmod t230 (IntKind.u64.wrap ((x1.length : Int))))), IntKind.u64.wrap (x212002 + 11400714819323198485), x212003, 0)) else (none)) else (none)))) else (some (x8, x212000, x8, x212002, x212003, 0)))
def jobshellref32_Pick.f (k : Nat) (a0_0 : Int) (a0_1 : Int) (a0_2 : Int) (l0_3 : List Int) (l1 : List Int) : Option (Int × Int × Int × Int × List Int × Int) := (jobshellref32_Valid.f k a0_0 a0_1 a0_2 l0_3).bind fun t213 => (if t213 = 0 then ((jobshellref32_right.f k l1).bind fun t214 => (if t214 = true then ((jobshellref32_fair.f k a0_1 l1).bind fun t215 => (if a0_0 = 2 then (jobshellref32_Pick.j0 k l1 t215 (decide ((l0_3.length : Int) > 0)) a0_0 a0_1 a0_2 l0_3) else (jobshellref32_Pick.j0 k l1 t215 false a0_0 a0_1 a0_2 l0_3))) else (some (0, 0, 0, 0, ([] : List Int), 1)))) else (some (0, 0, 0, 0, ([] : List Int), t213)))
theorem jobshellref32_Pick.mono_l : ∀ k, (∀ y0 y1 y2 y3 y4 y5 y6, LeO (jobshellref32_Pick.j0 k y0 y1 y2 y3 y4 y5 y6) (jobshellref32_Pick.j0 (k + 1) y0 y1 y2 y3 y4 y5 y6))
  | 0 => fun _ _ _ _ _ _ _ r h => by simp [jobshellref32_Pick.j0] at h
  | k + 1 => by
    have ih0 := jobshellref32_Pick.mono_l k
    · intro y0 y1 y2 y3 y4 y5 y6
      unfold jobshellref32_Pick.j0
      repeat' first
      | (with_reducible exact ih0 _ _ _ _ _ _ _)
      | (with_reducible exact jobshellref32_Valid.mono _ _ _ _ _)
      | (with_reducible exact jobshellref32_fair.mono _ _ _)
      | (with_reducible exact jobshellref32_right.mono _ _)
      | (with_reducible exact LeO.refl _)
      | (with_reducible exact LeO.none _)
      | (with_reducible refine LeO.ite ?_ ?_)
      | (with_reducible refine LeO.bind ?_ (fun _ => ?_))
      | exact ih0 _ _ _ _ _ _ _
      | exact jobshellref32_Valid.mono _ _ _ _ _
      | exact jobshellref32_fair.mono _ _ _
      | exact jobshellref32_right.mono _ _
      | exact LeO.none _
      | refine LeO.ite ?_ ?_
      | refine LeO.bind ?_ (fun _ => ?_)
theorem jobshellref32_Pick.mono : ∀ a0 a1 a2 a3 a4 k, LeO (jobshellref32_Pick.f k a0 a1 a2 a3 a4) (jobshellref32_Pick.f (k + 1) a0 a1 a2 a3 a4) := by
  intro a0 a1 a2 a3 a4 k
  have ih0 := jobshellref32_Pick.mono_l k
  unfold jobshellref32_Pick.f
  repeat' first
      | (with_reducible exact ih0 _ _ _ _ _ _ _)
      | (with_reducible exact jobshellref32_Valid.mono _ _ _ _ _)
      | (with_reducible exact jobshellref32_fair.mono _ _ _)
      | (with_reducible exact jobshellref32_right.mono _ _)
      | (with_reducible exact LeO.refl _)
      | (with_reducible exact LeO.none _)
      | (with_reducible refine LeO.ite ?_ ?_)
      | (with_reducible refine LeO.bind ?_ (fun _ => ?_))
      | exact ih0 _ _ _ _ _ _ _
      | exact jobshellref32_Valid.mono _ _ _ _ _
      | exact jobshellref32_fair.mono _ _ _
      | exact jobshellref32_right.mono _ _
      | exact LeO.none _
      | refine LeO.ite ?_ ?_
      | refine LeO.bind ?_ (fun _ => ?_)
set_option maxHeartbeats 8000000 in
set_option maxRecDepth 100000 in
theorem jobshellref32_Pick.calls (k : Nat) (a0_0 : Int) (a0_1 : Int) (a0_2 : Int) (P0_3_ : Nat → Prop) (A0_3 : Option Addr) (c0_3 : Nat) (l0_3 : List Int) (A1 : Option Addr) (c1 : Nat) (l1 : List Int) (r1 : Int) (r2 : Int) (r3 : Int) (r4 : Int) (r5 : List Int) (r6 : Int) (w : World) (hs0_3 : Kd.V (Kd.int .i64) 3 w w.heap.size (fun k_ => P0_3_ k_) (.slice A0_3 l0_3.length c0_3) l0_3) (hr1 : Kd.C (Kd.int .i64) w A1 l1.length l1) (hc1 : l1.length ≤ c1) (h : jobshellref32_Pick.f k a0_0 a0_1 a0_2 l0_3 l1 = some (r1, r2, r3, r4, r5, r6)) :
    Calls Try.prog 13 #[.agg #[.int .i64 a0_0, .int .i64 a0_1, .int .u64 a0_2, .slice A0_3 l0_3.length c0_3], .slice A1 l1.length c1] w fun e w' => ∃ v4_ : Value, e = .returned (.tuple #[.int .i64 r1, .agg #[.int .i64 r2, .int .i64 r3, .int .u64 r4, v4_], .int .i64 r6]) ∧ Kd.V (Kd.int .i64) 3 w' w.heap.size (fun k_ => (P0_3_ k_ ∨ w.heap.size ≤ k_)) v4_ r5 ∧ Below w.heap.size w w' := by
  have hu25 := Try.underlying25
  have HO0_3 := Aside0.mk (show Kd.V (Kd.int .i64) 3 w w.heap.size (fun k_ => (P0_3_ k_ ∨ w.heap.size ≤ k_)) (.slice A0_3 l0_3.length c0_3) l0_3 from Kd.V_mono hs0_3 (fun k_ hk => .inl hk))
  have HR1 := Aside0.mk hr1
  have HC1 := Aside0.mk hc1
  clear hr1 hc1
  have HB := Aside0.mk (Below.refl w.heap.size w)
  have H : ((jobshellref32_Valid.f k a0_0 a0_1 a0_2 l0_3).bind fun t213 => (if t213 = 0 then ((jobshellref32_right.f k l1).bind fun t214 => (if t214 = true then ((jobshellref32_fair.f k a0_1 l1).bind fun t215 => (if a0_0 = 2 then (jobshellref32_Pick.j0 k l1 t215 (decide ((l0_3.length : Int) > 0)) a0_0 a0_1 a0_2 l0_3) else (jobshellref32_Pick.j0 k l1 t215 false a0_0 a0_1 a0_2 l0_3))) else (some (0, 0, 0, 0, ([] : List Int), 1)))) else (some (0, 0, 0, 0, ([] : List Int), t213)))) = some (r1, r2, r3, r4, r5, r6) := h
  clear h
  replace H := Option.bind_eq_some_iff.mp H
  obtain ⟨t213, A30, H⟩ := H
  replace H : (if t213 = 0 then ((jobshellref32_right.f k l1).bind fun t214 => (if t214 = true then ((jobshellref32_fair.f k a0_1 l1).bind fun t215 => (if a0_0 = 2 then (jobshellref32_Pick.j0 k l1 t215 (decide ((l0_3.length : Int) > 0)) a0_0 a0_1 a0_2 l0_3) else (jobshellref32_Pick.j0 k l1 t215 false a0_0 a0_1 a0_2 l0_3))) else (some (0, 0, 0, 0, ([] : List Int), 1)))) else (some (0, 0, 0, 0, ([] : List Int), t213))) = some (r1, r2, r3, r4, r5, r6) := H
  have A3 := Aside0.mk A30
  clear A30
  by_cases c4 : t213 = 0
  · rw [if_pos c4] at H
    have c4b0 : (t213 == 0) = true := beq_iff_eq.mpr c4
    have c4b1 : (t213 != 0) = false := bne_eq_false_iff_eq.mpr c4
    clear c4
    replace H := Option.bind_eq_some_iff.mp H
    obtain ⟨t214, A50, H⟩ := H
    replace H : (if t214 = true then ((jobshellref32_fair.f k a0_1 l1).bind fun t215 => (if a0_0 = 2 then (jobshellref32_Pick.j0 k l1 t215 (decide ((l0_3.length : Int) > 0)) a0_0 a0_1 a0_2 l0_3) else (jobshellref32_Pick.j0 k l1 t215 false a0_0 a0_1 a0_2 l0_3))) else (some (0, 0, 0, 0, ([] : List Int), 1))) = some (r1, r2, r3, r4, r5, r6) := H
    have A5 := Aside0.mk A50
    clear A50
    by_cases c6 : t214 = true
    · subst c6
      have H1 : ((jobshellref32_fair.f k a0_1 l1).bind fun t215 => (if a0_0 = 2 then (jobshellref32_Pick.j0 k l1 t215 (decide ((l0_3.length : Int) > 0)) a0_0 a0_1 a0_2 l0_3) else (jobshellref32_Pick.j0 k l1 t215 false a0_0 a0_1 a0_2 l0_3))) = some (r1, r2, r3, r4, r5, r6) := by rw [if_pos rfl] at H; exact H
      clear H
      have H := H1
      clear H1
      replace H := Option.bind_eq_some_iff.mp H
      obtain ⟨t215, A70, H⟩ := H
      replace H : (if a0_0 = 2 then (jobshellref32_Pick.j0 k l1 t215 (decide ((l0_3.length : Int) > 0)) a0_0 a0_1 a0_2 l0_3) else (jobshellref32_Pick.j0 k l1 t215 false a0_0 a0_1 a0_2 l0_3)) = some (r1, r2, r3, r4, r5, r6) := H
      have A7 := Aside0.mk A70
      clear A70
      have HC8 := Aside0.mk H
      clear H
      go_enter Try.func13, Try.ntmps13
      go_upto_region 7 with (first | ((with_reducible refine gate_dst (N := 2) rfl ?_); (try (refine gate_guard (by rfl) ?_; dsimp only)); refine box_event ?hg (N := 2) ?hd (cs := #[.int .i64 a0_0, .int .i64 a0_1, .int .u64 a0_2, .slice A0_3 l0_3.length c0_3]) (t := 25) ?hr ?_; (case hd => rfl); (case hg => rfl); (case hr => first | (go_simp; done) | (go_simp; rfl)); intro gb211 hg w9 hbox hb; have n0_ := Aside0.mk (Kd.V_below (Kd.V_elderB (by (with_reducible repeat (first | apply Kd.V_alloc | apply Kd.V_drewN | apply Kd.V_drew)); exact HO0_3.out) gb211 (Nat.le_of_eq hg.symm)) hb); have n1_ := Aside0.mk (below_step (by repeat (first | (with_reducible first | exact HB.out | apply below_alloc | apply pw_below_drewN | apply below_drew1) | exact HB.out)) hb); have n2_ := Aside0.mk (hbox); have n3_ := Aside0.mk ((by rw [hg]; exact (below_size (by repeat (first | (with_reducible first | exact HB.out | apply below_alloc | apply pw_below_drewN | apply below_drew1) | exact HB.out))) : w.heap.size ≤ gb211)); have n4_ := Aside0.mk ((by rw [hg]; exact (below_size (by repeat (first | (with_reducible first | exact HB.out | apply below_alloc | apply pw_below_drewN | apply below_drew1) | exact HB.out))) : w.heap.size ≤ gb211)); clear HO0_3; clear HB; have HO0_3 := n0_; have HB := n1_; have BK211 := n2_; have GW211 := n3_; have GE211 := n4_; clear n0_ n1_ n2_ n3_ n4_; clear hb hbox hg) | ((with_reducible refine gate_dst (N := 5) rfl ?_); (try (refine gate_guard (by rfl) ?_; dsimp only)); refine box_event ?hg (N := 5) ?hd (cs := #[.int .i64 0, .int .i64 0, .int .u64 0, .slice none 0 0]) (t := 25) ?hr ?_; (case hd => rfl); (case hg => rfl); (case hr => first | (go_simp; done) | (go_simp; rfl)); intro gb212 hg w10 hbox hb; have n0_ := Aside0.mk (Kd.V_below (Kd.V_elderB (by (with_reducible repeat (first | apply Kd.V_alloc | apply Kd.V_drewN | apply Kd.V_drew)); exact HO0_3.out) gb212 (Nat.le_of_eq hg.symm)) hb); have n1_ := Aside0.mk (blk_below (g := gb211) (o := .cells #[.int .i64 a0_0, .int .i64 a0_1, .int .u64 a0_2, .slice A0_3 l0_3.length c0_3] 25 (0, 0)) (by (with_reducible repeat (first | refine blk_drewN ?_ _ | refine blk_drew ?_ | refine blk_alloc ?_ _)); exact BK211.out) hb); have n2_ := Aside0.mk (below_step (by repeat (first | (with_reducible first | exact HB.out | apply below_alloc | apply pw_below_drewN | apply below_drew1 | refine below_set ?_ GE211.out) | exact HB.out)) hb); have n3_ := Aside0.mk (hbox); have n4_ := Aside0.mk ((by rw [hg]; exact (below_size (by repeat (first | (with_reducible first | exact HB.out | apply below_alloc | apply pw_below_drewN | apply below_drew1 | refine below_set ?_ GE211.out) | exact HB.out))) : w.heap.size ≤ gb212)); have n5_ := Aside0.mk ((by rw [hg]; exact (below_size (by repeat (first | (with_reducible first | exact HB.out | apply below_alloc | apply pw_below_drewN | apply below_drew1 | refine below_set ?_ GE211.out) | exact HB.out))) : w.heap.size ≤ gb212)); have n6_ := Aside0.mk ((by rw [hg]; exact Nat.ne_of_lt (blk_lt (g := gb211) (o := .cells #[.int .i64 a0_0, .int .i64 a0_1, .int .u64 a0_2, .slice A0_3 l0_3.length c0_3] 25 (0, 0)) (by (with_reducible repeat (first | refine blk_drewN ?_ _ | refine blk_drew ?_ | refine blk_alloc ?_ _)); exact BK211.out)) : gb211 ≠ gb212)); have n7_ := Aside0.mk ((by rw [hg]; exact Nat.ne_of_gt (blk_lt (g := gb211) (o := .cells #[.int .i64 a0_0, .int .i64 a0_1, .int .u64 a0_2, .slice A0_3 l0_3.length c0_3] 25 (0, 0)) (by (with_reducible repeat (first | refine blk_drewN ?_ _ | refine blk_drew ?_ | refine blk_alloc ?_ _)); exact BK211.out)) : gb212 ≠ gb211)); clear HO0_3; clear BK211; clear HB; have HO0_3 := n0_; have BK211 := n1_; have HB := n2_; have BK212 := n3_; have GW212 := n4_; have GE212 := n5_; have NB211_212 := n6_; have NB212_211 := n7_; clear n0_ n1_ n2_ n3_ n4_ n5_ n6_ n7_; clear hb hbox hg; have hnb11 := NB211_212.out; have hnc11 := NB212_211.out; have hcz12_0 : w10.cell? ⟨gb211, 0, none⟩ = some (.int .i64 a0_0) := (blk_cell BK211.out 0).trans rfl; have hcz12_1 : w10.cell? ⟨gb211, 1, none⟩ = some (.int .i64 a0_1) := (blk_cell BK211.out 1).trans rfl; have hcz12_2 : w10.cell? ⟨gb211, 2, none⟩ = some (.int .u64 a0_2) := (blk_cell BK211.out 2).trans rfl; have hcz12_3 : w10.cell? ⟨gb211, 3, none⟩ = some (.slice A0_3 l0_3.length c0_3) := (blk_cell BK211.out 3).trans rfl; have hfz12_0 := blk_frozen BK211.out 0; have hfz12_1 := blk_frozen BK211.out 1; have hfz12_2 := blk_frozen BK211.out 2; have hfz12_3 := blk_frozen BK211.out 3) | ((with_reducible refine gate_callee (f := 10) rfl ?_); refine goesL_ (some 12) rfl rfl Try.func10 (by kernel_rfl) rfl #[.agg #[.int .i64 a0_0, .int .i64 a0_1, .int .u64 a0_2, .slice A0_3 l0_3.length c0_3]] rfl (by (try simp only [List.map_toArray, List.map_cons, List.map_nil]); first | done | rfl | (simp only [List.length_drop, List.length_take]; rfl)) ?_; (with_reducible refine (jobshellref32_Valid.calls k a0_0 a0_1 a0_2 _ _ l0_3 t213 _ ?side1 ?side2 A3.out).mono ?_); (case side1 => repeat (first | exact (Kd.V_reads' HO0_3.out).2.2 | (with_reducible refine Kd.C_alloc ?_ _) | (with_reducible refine Kd.C_drewN ?_ _) | (with_reducible refine Kd.C_drew ?_))); (case side2 => exact (Kd.V_reads' HO0_3.out).2.1); rintro e w13 ⟨rfl, hb⟩; refine ⟨_, rfl, ?_⟩; have n0_ := Aside0.mk (Kd.V_below (by (with_reducible repeat (first | apply Kd.V_alloc | apply Kd.V_drewN | apply Kd.V_drew)); exact HO0_3.out) hb); have n1_ := Aside0.mk (blk_below (g := gb211) (o := .cells #[.int .i64 a0_0, .int .i64 a0_1, .int .u64 a0_2, .slice A0_3 l0_3.length c0_3] 25 (0, 0)) (by (with_reducible repeat (first | refine blk_drewN ?_ _ | refine blk_drew ?_ | refine blk_alloc ?_ _)); exact BK211.out) hb); have n2_ := Aside0.mk (blk_below (g := gb212) (o := .cells #[.int .i64 0, .int .i64 0, .int .u64 0, .slice none 0 0] 25 (0, 0)) (by (with_reducible repeat (first | refine blk_drewN ?_ _ | refine blk_drew ?_ | refine blk_alloc ?_ _)); exact BK212.out) hb); have n3_ := Aside0.mk (below_step (by repeat (first | (with_reducible first | exact HB.out | apply below_alloc | apply pw_below_drewN | apply below_drew1 | refine below_set ?_ GE211.out | refine below_set ?_ GE212.out) | exact HB.out)) hb); clear HO0_3; clear BK211; clear BK212; clear HB; have HO0_3 := n0_; have BK211 := n1_; have BK212 := n2_; have HB := n3_; clear n0_ n1_ n2_ n3_; (try clear hb); (try clear hb2); (try clear hk); (try clear hi)) | ((with_reducible refine gate_callee (f := 19) rfl ?_); refine goesL_ (some 18) rfl rfl Try.func19 (by kernel_rfl) rfl #[.slice A1 l1.length c1] rfl (by (try simp only [List.map_toArray, List.map_cons, List.map_nil]); first | done | rfl | (simp only [List.length_drop, List.length_take]; rfl)) ?_; (with_reducible refine (jobshellref32_right.calls k _ _ l1 true _ ?side1 ?side2 A5.out).mono ?_); (case side1 => repeat (first | exact (Kd.C_below HR1.out HB.out) | (with_reducible refine Kd.C_alloc ?_ _) | (with_reducible refine Kd.C_drewN ?_ _) | (with_reducible refine Kd.C_drew ?_))); (case side2 => exact HC1.out); rintro e w' ⟨rfl, ⟨nd, rfl⟩⟩; refine ⟨_, rfl, ?_⟩; have hcz14_0 : w13.cell? ⟨gb211, 0, none⟩ = some (.int .i64 a0_0) := (blk_cell BK211.out 0).trans rfl; have hcz14_1 : w13.cell? ⟨gb211, 1, none⟩ = some (.int .i64 a0_1) := (blk_cell BK211.out 1).trans rfl; have hcz14_2 : w13.cell? ⟨gb211, 2, none⟩ = some (.int .u64 a0_2) := (blk_cell BK211.out 2).trans rfl; have hcz14_3 : w13.cell? ⟨gb211, 3, none⟩ = some (.slice A0_3 l0_3.length c0_3) := (blk_cell BK211.out 3).trans rfl; have hfz14_0 := blk_frozen BK211.out 0; have hfz14_1 := blk_frozen BK211.out 1; have hfz14_2 := blk_frozen BK211.out 2; have hfz14_3 := blk_frozen BK211.out 3) | ((with_reducible refine gate_callee (f := 20) rfl ?_); refine goesL_ (some 24) rfl rfl Try.func20 (by kernel_rfl) rfl #[.int .i64 a0_1, .slice A1 l1.length c1] rfl (by (try simp only [List.map_toArray, List.map_cons, List.map_nil]); first | done | rfl | (simp only [List.length_drop, List.length_take]; rfl)) ?_; (with_reducible refine (jobshellref32_fair.calls k a0_1 _ _ l1 t215 _ ?side1 ?side2 A7.out).mono ?_); (case side1 => repeat (first | exact (Kd.C_below HR1.out (by repeat (first | (with_reducible first | exact HB.out | apply below_alloc | apply pw_below_drewN | apply below_drew1 | refine below_set ?_ GE211.out | refine below_set ?_ GE212.out) | exact HB.out))) | (with_reducible refine Kd.C_alloc ?_ _) | (with_reducible refine Kd.C_drewN ?_ _) | (with_reducible refine Kd.C_drew ?_))); (case side2 => exact HC1.out); rintro e w' ⟨rfl, ⟨nd, rfl⟩⟩; refine ⟨_, rfl, ?_⟩))
      (try simp only [Act.put, List.setIfInBounds_toArray, List.set_cons_zero, List.set_cons_succ])
      go_cut [33] (fun v33 wc => ∃ (kq : Nat) (x33_7 : Bool), v33 = .bool x33_7 ∧ Aside0 (jobshellref32_Pick.j0 kq l1 t215 x33_7 a0_0 a0_1 a0_2 l0_3 = some (r1, r2, r3, r4, r5, r6)) ∧ Aside0 (kq ≤ k) ∧ Aside0 (Kd.V (Kd.int .i64) 3 wc w.heap.size (fun k_ => (P0_3_ k_ ∨ w.heap.size ≤ k_) ∧ k_ ≠ gb211 ∧ k_ ≠ gb212) (.slice A0_3 l0_3.length c0_3) l0_3) ∧ Aside0 (wc.heap[gb211]? = some (.cells #[.int .i64 a0_0, .int .i64 a0_1, .int .u64 a0_2, (.slice A0_3 l0_3.length c0_3)] 25 (0, 0))) ∧ Aside0 (wc.heap[gb212]? = some (.cells #[.int .i64 0, .int .i64 0, .int .u64 0, (.slice none 0 0)] 25 (0, 0))) ∧ Aside0 (Below w.heap.size w wc))
      case first =>
        have H := HC8.out
        clear HC8
        by_cases c15 : a0_0 = 2
        · rw [if_pos c15] at H
          have c15b0 : (a0_0 == 2) = true := beq_iff_eq.mpr c15
          have c15b1 : (a0_0 != 2) = false := bne_eq_false_iff_eq.mpr c15
          clear c15
          (first | rw [c15b0] | (simp only [i64_w, i32_w]; rw [c15b0]) | skip)
          have H' := Aside0.mk H
          clear H
          have hnb16 := NB211_212.out
          have hnc16 := NB212_211.out
          have hcz17_0 : w13.cell? ⟨gb211, 0, none⟩ = some (.int .i64 a0_0) := (blk_cell BK211.out 0).trans rfl
          have hcz17_1 : w13.cell? ⟨gb211, 1, none⟩ = some (.int .i64 a0_1) := (blk_cell BK211.out 1).trans rfl
          have hcz17_2 : w13.cell? ⟨gb211, 2, none⟩ = some (.int .u64 a0_2) := (blk_cell BK211.out 2).trans rfl
          have hcz17_3 : w13.cell? ⟨gb211, 3, none⟩ = some (.slice A0_3 l0_3.length c0_3) := (blk_cell BK211.out 3).trans rfl
          have hfz17_0 := blk_frozen BK211.out 0
          have hfz17_1 := blk_frozen BK211.out 1
          have hfz17_2 := blk_frozen BK211.out 2
          have hfz17_3 := blk_frozen BK211.out 3
          go_wp2
          go_meet
          case rel => exact ⟨_, (decide ((l0_3.length : Int) > 0)), (by first | rfl | (simp; done) | (simp [*]; done)), H', ⟨by first | omega | exact Nat.le_refl _⟩, ⟨by (with_reducible repeat (first | apply Kd.V_alloc | apply Kd.V_drewN | apply Kd.V_drew)); exact Kd.V_mono HO0_3.out (fun _ hk => (And.intro (hk.1.1) ((And.intro (hk.1.2) (hk.2)))))⟩, ⟨by (with_reducible repeat (first | refine blk_drewN ?_ _ | refine blk_drew ?_ | refine blk_alloc ?_ _)); exact BK211.out⟩, ⟨by (with_reducible repeat (first | refine blk_drewN ?_ _ | refine blk_drew ?_ | refine blk_alloc ?_ _)); exact BK212.out⟩, ⟨by repeat (first | (with_reducible first | exact HB.out | apply below_alloc | apply pw_below_drewN | apply below_drew1 | refine below_set ?_ GE211.out | refine below_set ?_ GE212.out) | exact HB.out)⟩⟩
        · rw [if_neg c15] at H
          have c15b0 : (a0_0 == 2) = false := beq_eq_false_iff_ne.mpr c15
          have c15b1 : (a0_0 != 2) = true := bne_iff_ne.mpr c15
          (first | rw [c15b0] | (simp only [i64_w, i32_w]; rw [c15b0]) | skip)
          have H' := Aside0.mk H
          clear H
          have hnb18 := NB211_212.out
          have hnc18 := NB212_211.out
          have hcz19_0 : w13.cell? ⟨gb211, 0, none⟩ = some (.int .i64 a0_0) := (blk_cell BK211.out 0).trans rfl
          have hcz19_1 : w13.cell? ⟨gb211, 1, none⟩ = some (.int .i64 a0_1) := (blk_cell BK211.out 1).trans rfl
          have hcz19_2 : w13.cell? ⟨gb211, 2, none⟩ = some (.int .u64 a0_2) := (blk_cell BK211.out 2).trans rfl
          have hcz19_3 : w13.cell? ⟨gb211, 3, none⟩ = some (.slice A0_3 l0_3.length c0_3) := (blk_cell BK211.out 3).trans rfl
          have hfz19_0 := blk_frozen BK211.out 0
          have hfz19_1 := blk_frozen BK211.out 1
          have hfz19_2 := blk_frozen BK211.out 2
          have hfz19_3 := blk_frozen BK211.out 3
          go_wp2
          go_meet
          case rel => exact ⟨_, (false), (by first | rfl | (simp; done) | (simp [*]; done)), H', ⟨by first | omega | exact Nat.le_refl _⟩, ⟨by (with_reducible repeat (first | apply Kd.V_alloc | apply Kd.V_drewN | apply Kd.V_drew)); exact Kd.V_mono HO0_3.out (fun _ hk => (And.intro (hk.1.1) ((And.intro (hk.1.2) (hk.2)))))⟩, ⟨by (with_reducible repeat (first | refine blk_drewN ?_ _ | refine blk_drew ?_ | refine blk_alloc ?_ _)); exact BK211.out⟩, ⟨by (with_reducible repeat (first | refine blk_drewN ?_ _ | refine blk_drew ?_ | refine blk_alloc ?_ _)); exact BK212.out⟩, ⟨by repeat (first | (with_reducible first | exact HB.out | apply below_alloc | apply pw_below_drewN | apply below_drew1 | refine below_set ?_ GE211.out | refine below_set ?_ GE212.out) | exact HB.out)⟩⟩
      case rest =>
        clear HC8
        try clear c1
        try clear c2
        try clear p2
        try clear c4
        try clear c4b0
        try clear c4b1
        try clear c6
        try clear c10
        try clear c11
        try clear c13
        try clear c15
        try clear c15b0
        try clear c15b1
        try clear c16
        try clear c18
        try clear c19
        try clear hcz12_0
        try clear hcz12_1
        try clear hcz12_2
        try clear hcz12_3
        try clear hcz14_0
        try clear hcz14_1
        try clear hcz14_2
        try clear hcz14_3
        try clear hcz17_0
        try clear hcz17_1
        try clear hcz17_2
        try clear hcz17_3
        try clear hcz19_0
        try clear hcz19_1
        try clear hcz19_2
        try clear hcz19_3
        try clear hfz12_0
        try clear hfz12_1
        try clear hfz12_2
        try clear hfz12_3
        try clear hfz14_0
        try clear hfz14_1
        try clear hfz14_2
        try clear hfz14_3
        try clear hfz17_0
        try clear hfz17_1
        try clear hfz17_2
        try clear hfz17_3
        try clear hfz19_0
        try clear hfz19_1
        try clear hfz19_2
        try clear hfz19_3
        obtain ⟨kq, x33_7, rfl, HA, HJ7, HO_212003, BK211, BK212, HB⟩ := hcut
        cases kq with
        | zero => exact absurd HA.out (by simp [jobshellref32_Pick.j0])
        | succ kj7 =>
          have H := HA.out
          clear HA
          simp only [jobshellref32_Pick.j0] at H
          by_cases c20 : x33_7 = true
          · subst c20
            have H1 : (if 0 < (l0_3.length : Int) then (if 1 ≤ (l0_3.length : Int) then ((some (l0_3.drop 1 : List Int)).bind fun y217 => (if ([] : List Int).length + y217.length < 17592186044416 then ((some (([] : List Int) ++ y217 : List Int)).bind fun y222 => (if (rd l0_3 0) ≥ 0 then (if (l1.length : Int) = 0 then (none) else (if 0 ≤ (Int.tmod (rd l0_3 0) (l1.length : Int)) then (if (Int.tmod (rd l0_3 0) (l1.length : Int)) < (l1.length : Int) then (if a0_0 = 3 then ((jobshellref32_Mix.f (IntKind.u64.wrap (a0_2 + 11400714819323198485))).bind fun t226 => (if (IntKind.u64.wrap ((l1.length : Int))) = 0 then (none) else (if 0 ≤ (wrap64 (Int.tmod t226 (IntKind.u64.wrap ((l1.length : Int))))) then (if (wrap64 (Int.tmod t226 (IntKind.u64.wrap ((l1.length : Int))))) < (l1.length : Int) then (some (rd l1 (wrap64 (Int.tmod t226 (IntKind.u64.wrap ((l1.length : Int))))), a0_0, rd l1 (wrap64 (Int.tmod t226 (IntKind.u64.wrap ((l1.length : Int))))), IntKind.u64.wrap (a0_2 + 11400714819323198485), y222, 0)) else (none)) else (none)))) else (some (rd l1 (Int.tmod (rd l0_3 0) (l1.length : Int)), a0_0, rd l1 (Int.tmod (rd l0_3 0) (l1.length : Int)), a0_2, y222, 0))) else (none)) else (none))) else (if a0_0 = 3 then ((jobshellref32_Mix.f (IntKind.u64.wrap (a0_2 + 11400714819323198485))).bind fun t228 => (if (IntKind.u64.wrap ((l1.length : Int))) = 0 then (none) else (if 0 ≤ (wrap64 (Int.tmod t228 (IntKind.u64.wrap ((l1.length : Int))))) then (if (wrap64 (Int.tmod t228 (IntKind.u64.wrap ((l1.length : Int))))) < (l1.length : Int) then (some (rd l1 (wrap64 (Int.tmod t228 (IntKind.u64.wrap ((l1.length : Int))))), a0_0, rd l1 (wrap64 (Int.tmod t228 (IntKind.u64.wrap ((l1.length : Int))))), IntKind.u64.wrap (a0_2 + 11400714819323198485), y222, 0)) else (none)) else (none)))) else (some (t215, a0_0, t215, a0_2, y222, 0))))) else (none))) else (none)) else (none)) = some (r1, r2, r3, r4, r5, r6) := by rw [if_pos rfl] at H; exact H
            clear H
            have H := H1
            clear H1
            by_cases c21 : 0 < (l0_3.length : Int)
            · rw [if_pos c21] at H
              have c21b0 : decide (0 < (l0_3.length : Int)) = true := decide_eq_true c21
              have c21b1 : decide (0 < l0_3.length) = true := decide_eq_true (by omega)
              clear c21
              by_cases c22 : 1 ≤ (l0_3.length : Int)
              · rw [if_pos c22] at H
                have c22b0 := eq_true c22
                have c22b1 : decide (1 ≤ (l0_3.length : Int)) = true := decide_eq_true c22
                clear c22
                obtain ⟨y217, hy217⟩ : ∃ y_ : List Int, y_ = (l0_3.drop 1) := ⟨_, rfl⟩
                replace H : (if ([] : List Int).length + y217.length < 17592186044416 then ((some (([] : List Int) ++ y217 : List Int)).bind fun y222 => (if (rd l0_3 0) ≥ 0 then (if (l1.length : Int) = 0 then (none) else (if 0 ≤ (Int.tmod (rd l0_3 0) (l1.length : Int)) then (if (Int.tmod (rd l0_3 0) (l1.length : Int)) < (l1.length : Int) then (if a0_0 = 3 then ((jobshellref32_Mix.f (IntKind.u64.wrap (a0_2 + 11400714819323198485))).bind fun t226 => (if (IntKind.u64.wrap ((l1.length : Int))) = 0 then (none) else (if 0 ≤ (wrap64 (Int.tmod t226 (IntKind.u64.wrap ((l1.length : Int))))) then (if (wrap64 (Int.tmod t226 (IntKind.u64.wrap ((l1.length : Int))))) < (l1.length : Int) then (some (rd l1 (wrap64 (Int.tmod t226 (IntKind.u64.wrap ((l1.length : Int))))), a0_0, rd l1 (wrap64 (Int.tmod t226 (IntKind.u64.wrap ((l1.length : Int))))), IntKind.u64.wrap (a0_2 + 11400714819323198485), y222, 0)) else (none)) else (none)))) else (some (rd l1 (Int.tmod (rd l0_3 0) (l1.length : Int)), a0_0, rd l1 (Int.tmod (rd l0_3 0) (l1.length : Int)), a0_2, y222, 0))) else (none)) else (none))) else (if a0_0 = 3 then ((jobshellref32_Mix.f (IntKind.u64.wrap (a0_2 + 11400714819323198485))).bind fun t228 => (if (IntKind.u64.wrap ((l1.length : Int))) = 0 then (none) else (if 0 ≤ (wrap64 (Int.tmod t228 (IntKind.u64.wrap ((l1.length : Int))))) then (if (wrap64 (Int.tmod t228 (IntKind.u64.wrap ((l1.length : Int))))) < (l1.length : Int) then (some (rd l1 (wrap64 (Int.tmod t228 (IntKind.u64.wrap ((l1.length : Int))))), a0_0, rd l1 (wrap64 (Int.tmod t228 (IntKind.u64.wrap ((l1.length : Int))))), IntKind.u64.wrap (a0_2 + 11400714819323198485), y222, 0)) else (none)) else (none)))) else (some (t215, a0_0, t215, a0_2, y222, 0))))) else (none)) = some (r1, r2, r3, r4, r5, r6) := by first | (rw [hy217]; with_reducible exact H) | (have H2_ := (Option.bind_some _ _).symm.trans H; rw [hy217]; with_reducible exact H2_) | (have H2_ := (Option.bind_some _ _).symm.trans H; with_reducible exact H2_) | with_reducible exact H | (rw [hy217]; exact H) | exact H
                have Ny217 := Aside0.mk hy217
                clear hy217
                by_cases c23 : ([] : List Int).length + y217.length < 17592186044416
                · rw [if_pos c23] at H
                  have LMc23 := Aside0.mk c23
                  clear c23
                  obtain ⟨y222, hy222⟩ : ∃ y_ : List Int, y_ = (([] : List Int) ++ y217) := ⟨_, rfl⟩
                  replace H : (if (rd l0_3 0) ≥ 0 then (if (l1.length : Int) = 0 then (none) else (if 0 ≤ (Int.tmod (rd l0_3 0) (l1.length : Int)) then (if (Int.tmod (rd l0_3 0) (l1.length : Int)) < (l1.length : Int) then (if a0_0 = 3 then ((jobshellref32_Mix.f (IntKind.u64.wrap (a0_2 + 11400714819323198485))).bind fun t226 => (if (IntKind.u64.wrap ((l1.length : Int))) = 0 then (none) else (if 0 ≤ (wrap64 (Int.tmod t226 (IntKind.u64.wrap ((l1.length : Int))))) then (if (wrap64 (Int.tmod t226 (IntKind.u64.wrap ((l1.length : Int))))) < (l1.length : Int) then (some (rd l1 (wrap64 (Int.tmod t226 (IntKind.u64.wrap ((l1.length : Int))))), a0_0, rd l1 (wrap64 (Int.tmod t226 (IntKind.u64.wrap ((l1.length : Int))))), IntKind.u64.wrap (a0_2 + 11400714819323198485), y222, 0)) else (none)) else (none)))) else (some (rd l1 (Int.tmod (rd l0_3 0) (l1.length : Int)), a0_0, rd l1 (Int.tmod (rd l0_3 0) (l1.length : Int)), a0_2, y222, 0))) else (none)) else (none))) else (if a0_0 = 3 then ((jobshellref32_Mix.f (IntKind.u64.wrap (a0_2 + 11400714819323198485))).bind fun t228 => (if (IntKind.u64.wrap ((l1.length : Int))) = 0 then (none) else (if 0 ≤ (wrap64 (Int.tmod t228 (IntKind.u64.wrap ((l1.length : Int))))) then (if (wrap64 (Int.tmod t228 (IntKind.u64.wrap ((l1.length : Int))))) < (l1.length : Int) then (some (rd l1 (wrap64 (Int.tmod t228 (IntKind.u64.wrap ((l1.length : Int))))), a0_0, rd l1 (wrap64 (Int.tmod t228 (IntKind.u64.wrap ((l1.length : Int))))), IntKind.u64.wrap (a0_2 + 11400714819323198485), y222, 0)) else (none)) else (none)))) else (some (t215, a0_0, t215, a0_2, y222, 0)))) = some (r1, r2, r3, r4, r5, r6) := by first | (rw [hy222]; with_reducible exact H) | (have H2_ := (Option.bind_some _ _).symm.trans H; rw [hy222]; with_reducible exact H2_) | (have H2_ := (Option.bind_some _ _).symm.trans H; with_reducible exact H2_) | with_reducible exact H | (rw [hy222]; exact H) | exact H
                  have Ny222 := Aside0.mk hy222
                  clear hy222
                  by_cases c24 : (rd l0_3 0) ≥ 0
                  · rw [if_pos c24] at H
                    have c24b0 : decide (0 ≤ (rd l0_3 0)) = true := decide_eq_true c24
                    clear c24
                    by_cases c25 : (l1.length : Int) = 0
                    · rw [if_pos c25] at H
                      exact absurd H (by simp)
                    · rw [if_neg c25] at H
                      have c25b0 : ((l1.length : Int) == 0) = false := beq_eq_false_iff_ne.mpr c25
                      have c25b1 : ((l1.length : Int) != 0) = true := bne_iff_ne.mpr c25
                      have c25b2 : ¬ (l1 = []) := fun h_ => c25 (by rw [h_]; rfl)
                      obtain ⟨ji26, hji26⟩ : ∃ j_ : Int, (Int.tmod (rd l0_3 0) (l1.length : Int)) = j_ := ⟨_, rfl⟩
                      replace H : (if 0 ≤ (ji26) then (if (ji26) < (l1.length : Int) then (if a0_0 = 3 then ((jobshellref32_Mix.f (IntKind.u64.wrap (a0_2 + 11400714819323198485))).bind fun t226 => (if (IntKind.u64.wrap ((l1.length : Int))) = 0 then (none) else (if 0 ≤ (wrap64 (Int.tmod t226 (IntKind.u64.wrap ((l1.length : Int))))) then (if (wrap64 (Int.tmod t226 (IntKind.u64.wrap ((l1.length : Int))))) < (l1.length : Int) then (some (rd l1 (wrap64 (Int.tmod t226 (IntKind.u64.wrap ((l1.length : Int))))), a0_0, rd l1 (wrap64 (Int.tmod t226 (IntKind.u64.wrap ((l1.length : Int))))), IntKind.u64.wrap (a0_2 + 11400714819323198485), y222, 0)) else (none)) else (none)))) else (some (rd l1 (ji26), a0_0, rd l1 (ji26), a0_2, y222, 0))) else (none)) else (none)) = some (r1, r2, r3, r4, r5, r6) := by first | (rw [hji26] at H; exact H) | (simp only [hji26] at H ⊢; exact H)
                      by_cases c27 : 0 ≤ (ji26)
                      · rw [if_pos c27] at H
                        have c27b0 : decide (0 ≤ (ji26)) = true := decide_eq_true c27
                        clear c27
                        by_cases c28 : (ji26) < (l1.length : Int)
                        · rw [if_pos c28] at H
                          have c28b0 : decide ((ji26) < (l1.length : Int)) = true := decide_eq_true c28
                          clear c28
                          by_cases c29 : a0_0 = 3
                          · rw [if_pos c29] at H
                            have c29b0 : (a0_0 == 3) = true := beq_iff_eq.mpr c29
                            have c29b1 : (a0_0 != 3) = false := bne_eq_false_iff_eq.mpr c29
                            clear c29
                            replace H := Option.bind_eq_some_iff.mp H
                            obtain ⟨t226, A300, H⟩ := H
                            replace H : (if (IntKind.u64.wrap ((l1.length : Int))) = 0 then (none) else (if 0 ≤ (wrap64 (Int.tmod t226 (IntKind.u64.wrap ((l1.length : Int))))) then (if (wrap64 (Int.tmod t226 (IntKind.u64.wrap ((l1.length : Int))))) < (l1.length : Int) then (some (rd l1 (wrap64 (Int.tmod t226 (IntKind.u64.wrap ((l1.length : Int))))), a0_0, rd l1 (wrap64 (Int.tmod t226 (IntKind.u64.wrap ((l1.length : Int))))), IntKind.u64.wrap (a0_2 + 11400714819323198485), y222, 0)) else (none)) else (none))) = some (r1, r2, r3, r4, r5, r6) := H
                            have A30 := Aside0.mk A300
                            clear A300
                            by_cases c31 : (IntKind.u64.wrap ((l1.length : Int))) = 0
                            · rw [if_pos c31] at H
                              exact absurd H (by simp)
                            · rw [if_neg c31] at H
                              have c31b0 : ((IntKind.u64.wrap ((l1.length : Int))) == 0) = false := beq_eq_false_iff_ne.mpr c31
                              have c31b1 : ((IntKind.u64.wrap ((l1.length : Int))) != 0) = true := bne_iff_ne.mpr c31
                              obtain ⟨ji32, hji32⟩ : ∃ j_ : Int, (wrap64 (Int.tmod t226 (IntKind.u64.wrap ((l1.length : Int))))) = j_ := ⟨_, rfl⟩
                              replace H : (if 0 ≤ (ji32) then (if (ji32) < (l1.length : Int) then (some (rd l1 (ji32), a0_0, rd l1 (ji32), IntKind.u64.wrap (a0_2 + 11400714819323198485), y222, 0)) else (none)) else (none)) = some (r1, r2, r3, r4, r5, r6) := by first | (rw [hji32] at H; exact H) | (simp only [hji32] at H ⊢; exact H)
                              (try rw [hji32] at A30)
                              have hji32w : (IntKind.i64.wrap (Int.tmod t226 (IntKind.u64.wrap ((l1.length : Int))))) = ji32 := (i64_w _).trans hji32
                              by_cases c33 : 0 ≤ (ji32)
                              · rw [if_pos c33] at H
                                have c33b0 : decide (0 ≤ (ji32)) = true := decide_eq_true c33
                                clear c33
                                by_cases c34 : (ji32) < (l1.length : Int)
                                · rw [if_pos c34] at H
                                  have c34b0 : decide ((ji32) < (l1.length : Int)) = true := decide_eq_true c34
                                  clear c34
                                  simp only [Option.some.injEq, Prod.mk.injEq] at H
                                  obtain ⟨rfl, rfl, rfl, rfl, rfl, rfl⟩ := H
                                  have hnb35 := NB211_212.out
                                  have hnc35 := NB212_211.out
                                  have hcz36_0 : wc.cell? ⟨gb211, 0, none⟩ = some (.int .i64 a0_0) := (blk_cell BK211.out 0).trans rfl
                                  have hcz36_1 : wc.cell? ⟨gb211, 1, none⟩ = some (.int .i64 a0_1) := (blk_cell BK211.out 1).trans rfl
                                  have hcz36_2 : wc.cell? ⟨gb211, 2, none⟩ = some (.int .u64 a0_2) := (blk_cell BK211.out 2).trans rfl
                                  have hcz36_3 : wc.cell? ⟨gb211, 3, none⟩ = some (.slice A0_3 l0_3.length c0_3) := (blk_cell BK211.out 3).trans rfl
                                  have hfz36_0 := blk_frozen BK211.out 0
                                  have hfz36_1 := blk_frozen BK211.out 1
                                  have hfz36_2 := blk_frozen BK211.out 2
                                  have hfz36_3 := blk_frozen BK211.out 3
                                  have p216 : 0 ≤ (0 : Int) := (by omega)
                                  have q216 : 0 < (l0_3.length : Int) := of_decide_eq_true (by first | (with_reducible assumption) | assumption)
                                  obtain ⟨ad216, e216, hx216_0⟩ := Kd.at_int (Kd.V_reads' HO_212003.out).2.2 0 p216 q216
                                  cases e216
                                  have qi216 : (0 < l0_3.length) = True := eq_true (by omega)
                                  (try rw [show ((0 : Int)).toNat = 0 from rfl] at hx216_0)
                                  (try rw [Addr.add_zero'] at hx216_0)
                                  replace p216 := eq_true p216
                                  replace q216 := eq_true q216
                                  have q37 : (1 : Int) ≤ ((l0_3.length : Int) : Int) := of_decide_eq_true (by first | (with_reducible assumption) | assumption)
                                  obtain ⟨i037, hi037, _, hsz37, _⟩ := info_parts info3
                                  have hroom37 : l0_3.length ≤ c0_3 := (Kd.V_reads' HO_212003.out).2.1
                                  have hC37 : Kd.F (Kd.int .i64) _ _ (some ad216) l0_3.length l0_3 := (Kd.V_at (base := w.heap.size) HO_212003.out).2.2
                                  have hcut37 := cut_from (P := Try.prog) 23 3 .i64 Try.underlying23 hi037 1 hsz37 (some ad216) l0_3.length c0_3 1 (by omega) q37
                                  have hr37 := Kd.F_cut (m := (1 : Int).toNat) (c := c0_3) hC37 (by omega) hroom37
                                  obtain ⟨A37, hA37⟩ : ∃ A1, A1 = (if c0_3 = (1 : Int).toNat then (some ad216) else ((some ad216) : Option Addr).map (·.add ((1 : Int).toNat * 1))) := ⟨_, rfl⟩
                                  obtain ⟨c37, hc37⟩ : ∃ c1, c1 = c0_3 - (1 : Int).toNat := ⟨_, rfl⟩
                                  have hy37 : y217.length = l0_3.length - (1 : Int).toNat := (by rw [Ny217.out, List.length_drop] <;> omega)
                                  rw [show (l0_3).drop (1 : Int).toNat = y217 from Ny217.out.symm] at hr37
                                  replace hr37 : Kd.F (Kd.int .i64) _ _ A37 y217.length y217 := (by rw [hA37]; exact hr37)
                                  rw [← hy37, ← hA37, ← hc37] at hcut37
                                  have HO221 := Aside0.mk (show Kd.V (Kd.int .i64) 3 _ w.heap.size _ (.slice A37 y217.length c37) y217 from Kd.V_mk (by rw [hy37, hc37]; exact Nat.sub_le_sub_right hroom37 _) hr37)
                                  have HC221 := Aside0.mk (show y217.length ≤ c37 from by rw [hy37, hc37]; exact Nat.sub_le_sub_right hroom37 _)
                                  clear hr37 hC37 hroom37 hi037 hsz37 hc37
                                  have KY37 := Aside0.mk hy37
                                  have KA37 := Aside0.mk hA37
                                  clear hy37 hA37
                                  replace q37 := eq_true q37
                                  try go_wp2_with (first | ((with_reducible refine gate_builtin (b := .append) (xs := #[.tmp 38, .tmp 41]) rfl ?_); (try (refine gate_guard (by rfl) ?_; dsimp only)); at_builtin; refine Kd.R_append_rows (Kd.int .i64) (w0 := w) w.heap.size rfl (.tmp 38) (.tmp 41) 23 3 (.int .i64 0) 8 rfl Try.underlying23 info3 rfl (by decide) (by omega) (.slice none 0 0) ([] : List Int) y217 _ _ _ (fun k_ => (w.heap.size ≤ k_)) (fun _ => False) rfl rfl ?aO ?aR (fun _ _ h => h) (fun _ h => h.elim) ?aF ?aB ?aS ?aL ?_; (case aR => repeat (first | exact (Kd.V_reads' HO221.out).2.2 | (with_reducible refine Kd.C_alloc ?_ _) | (with_reducible refine Kd.C_drewN ?_ _) | (with_reducible refine Kd.C_drew ?_))); (case aB => exact (by repeat (first | (with_reducible first | exact HB.out | apply below_alloc | apply pw_below_drewN | apply below_drew1 | refine below_set ?_ GE211.out | refine below_set ?_ GE212.out) | exact HB.out))); (case aF => exact (fun k_ hk => (Nat.le_trans (below_size (by repeat (first | (with_reducible first | exact HB.out | apply below_alloc | apply pw_below_drewN | apply below_drew1 | refine below_set ?_ GE211.out | refine below_set ?_ GE212.out) | exact HB.out))) hk))); (case aO => exact ((Kd.R_nil _ _ _ _ (fun k_ => (w.heap.size ≤ k_))))); (case aS => exact (below_size (by repeat (first | (with_reducible first | exact HB.out | apply below_alloc | apply pw_below_drewN | apply below_drew1 | refine below_set ?_ GE211.out | refine below_set ?_ GE212.out) | exact HB.out)))); (case aL => have := LMc23.out; omega); intro v223 w38 ho hb hg hat; rw [← Ny222.out] at ho; have n0_ := Aside0.mk (Kd.V_afterv (Kd.V_apart_nil (by (with_reducible repeat (first | apply Kd.V_alloc | apply Kd.V_drewN | apply Kd.V_drew)); exact HO_212003.out)) hg hat); have n1_ := Aside0.mk (blk_grown (g := gb211) (o := .cells #[.int .i64 a0_0, .int .i64 a0_1, .int .u64 a0_2, .slice (some ad216) l0_3.length c0_3] 25 (0, 0)) (by (with_reducible repeat (first | refine blk_drewN ?_ _ | refine blk_drew ?_ | refine blk_alloc ?_ _)); exact BK211.out) hg (by simp [Value.ownBlock])); have n2_ := Aside0.mk (blk_grown (g := gb212) (o := .cells #[.int .i64 0, .int .i64 0, .int .u64 0, .slice none 0 0] 25 (0, 0)) (by (with_reducible repeat (first | refine blk_drewN ?_ _ | refine blk_drew ?_ | refine blk_alloc ?_ _)); exact BK212.out) hg (by simp [Value.ownBlock])); have n3_ := Aside0.mk (Kd.V_afterv (Kd.V_apart_nil (by (with_reducible repeat (first | apply Kd.V_alloc | apply Kd.V_drewN | apply Kd.V_drew)); exact HO221.out)) hg hat); have n4_ := Aside0.mk (hb); have n5_ := Aside0.mk (ho); clear HO_212003; clear BK211; clear BK212; clear HO221; clear HB; have HO_212003 := n0_; have BK211 := n1_; have BK212 := n2_; have HO221 := n3_; have HB := n4_; have HO224 := n5_; clear n0_ n1_ n2_ n3_ n4_ n5_; clear ho hb hg hat; obtain ⟨Ao39, co39, eo39⟩ := Kd.R_slice HO224.out; subst eo39; have hcz40_0 : w38.cell? ⟨gb211, 0, none⟩ = some (.int .i64 a0_0) := (blk_cell BK211.out 0).trans rfl; have hcz40_1 : w38.cell? ⟨gb211, 1, none⟩ = some (.int .i64 a0_1) := (blk_cell BK211.out 1).trans rfl; have hcz40_2 : w38.cell? ⟨gb211, 2, none⟩ = some (.int .u64 a0_2) := (blk_cell BK211.out 2).trans rfl; have hcz40_3 : w38.cell? ⟨gb211, 3, none⟩ = some (.slice (some ad216) l0_3.length c0_3) := (blk_cell BK211.out 3).trans rfl; have hfz40_0 := blk_frozen BK211.out 0; have hfz40_1 := blk_frozen BK211.out 1; have hfz40_2 := blk_frozen BK211.out 2; have hfz40_3 := blk_frozen BK211.out 3; have p225 : 0 ≤ ((ji26) : Int) := of_decide_eq_true (by first | (with_reducible assumption) | assumption); have q225 : (ji26) < (l1.length : Int) := of_decide_eq_true (by first | (with_reducible assumption) | assumption); obtain ⟨ad225, e225, hx225_0⟩ := Kd.at_int HR1.out (ji26) p225 q225; cases e225; have hn225_0 : ad225.block ≠ gb211 := Nat.ne_of_lt (Nat.lt_of_lt_of_le (by have := World.block_lt_of_cell? _ _ hx225_0; first | rwa [add_block] at this | exact this) GW211.out); replace hx225_0 := (HB.out.cell (World.block_lt_of_cell? w _ hx225_0)).trans hx225_0; replace hx225_0 := (cell_far (p := ⟨gb211, 3, none⟩) (by first | (rw [add_block]; exact hn225_0) | (show (Addr.add _ _).block ≠ _; rw [add_block]; exact hn225_0) | exact hn225_0) (.slice Ao39 y222.length co39)).trans hx225_0; clear hn225_0; replace p225 := eq_true p225; replace q225 := eq_true q225) | ((with_reducible refine gate_callee (f := 21) rfl ?_); refine goesL_ (some 64) rfl rfl Try.func21 (by kernel_rfl) rfl #[.int .u64 (IntKind.u64.wrap (a0_2 + 11400714819323198485))] rfl (by (try simp only [List.map_toArray, List.map_cons, List.map_nil]); first | done | rfl | (simp only [List.length_drop, List.length_take]; rfl)) ?_; (with_reducible refine (jobshellref32_Mix.calls (IntKind.u64.wrap (a0_2 + 11400714819323198485)) t226 _ A30.out).mono ?_); rintro e w' ⟨rfl, ⟨nd, rfl⟩⟩; refine ⟨_, rfl, ?_⟩; have p227 : 0 ≤ ((ji32) : Int) := of_decide_eq_true (by first | (with_reducible assumption) | assumption); have q227 : (ji32) < (l1.length : Int) := of_decide_eq_true (by first | (with_reducible assumption) | assumption); obtain ⟨ad227, e227, hx227_0⟩ := Kd.at_int HR1.out (ji32) p227 q227; obtain rfl : ad225 = ad227 := (by injection e227); have hn227_0 : ad225.block ≠ gb211 := Nat.ne_of_lt (Nat.lt_of_lt_of_le (by have := World.block_lt_of_cell? _ _ hx227_0; first | rwa [add_block] at this | exact this) GW211.out); have hn227_1 : ad225.block ≠ gb211 := Nat.ne_of_lt (Nat.lt_of_lt_of_le (by have := World.block_lt_of_cell? _ _ hx227_0; first | rwa [add_block] at this | exact this) GW211.out); replace hx227_0 := (HB.out.cell (World.block_lt_of_cell? w _ hx227_0)).trans hx227_0; replace hx227_0 := (cell_far (p := ⟨gb211, 3, none⟩) (by first | (rw [add_block]; exact hn227_0) | (show (Addr.add _ _).block ≠ _; rw [add_block]; exact hn227_0) | exact hn227_0) (.slice Ao39 y222.length co39)).trans hx227_0; replace hx227_0 := (cell_far (p := ⟨gb211, 2, none⟩) (by first | (rw [add_block]; exact hn227_1) | (show (Addr.add _ _).block ≠ _; rw [add_block]; exact hn227_1) | exact hn227_1) (.int .u64 (IntKind.u64.wrap (a0_2 + 11400714819323198485)))).trans hx227_0; clear hn227_0; clear hn227_1; replace p227 := eq_true p227; replace q227 := eq_true q227))
                                  have n0_ : Aside0 (Kd.V (Kd.int .i64) 3 (((w38.setCell ⟨gb211, 3, none⟩ (.slice Ao39 y222.length co39)).setCell ⟨gb211, 2, none⟩ (.int .u64 (IntKind.u64.wrap (a0_2 + 11400714819323198485)))).setCell ⟨gb211, 1, none⟩ (.int .i64 (rd l1 (ji32)))) w.heap.size (fun k_ => (P0_3_ k_ ∨ w.heap.size ≤ k_) ∧ some k_ ≠ (.slice Ao39 y222.length co39 : Value).ownBlock ∧ k_ ≠ gb211 ∧ k_ ≠ gb212) (.slice (some ad216) l0_3.length c0_3) l0_3) := ⟨by (with_reducible repeat (first | apply Kd.V_alloc | apply Kd.V_drewN | apply Kd.V_drew)); exact Kd.V_mono (Kd.V_far (p := ⟨gb211, 1, none⟩) (Kd.V_far (p := ⟨gb211, 2, none⟩) (Kd.V_far (p := ⟨gb211, 3, none⟩) (Kd.V_mono HO_212003.out (fun k_ hk => (⟨hk, hk.1.2.1⟩ : _ ∧ k_ ≠ gb211))) (fun _ hk => hk.2) (.slice Ao39 y222.length co39)) (fun _ hk => hk.2) (.int .u64 (IntKind.u64.wrap (a0_2 + 11400714819323198485)))) (fun _ hk => hk.2) (.int .i64 (rd l1 (ji32)))) (fun _ hk => (And.intro (hk.1.1.1) ((And.intro (hk.1.2) ((And.intro (hk.1.1.2.1) (hk.1.1.2.2)))))))⟩
                                  have n1_ : Aside0 (Kd.V (Kd.int .i64) 3 (((w38.setCell ⟨gb211, 3, none⟩ (.slice Ao39 y222.length co39)).setCell ⟨gb211, 2, none⟩ (.int .u64 (IntKind.u64.wrap (a0_2 + 11400714819323198485)))).setCell ⟨gb211, 1, none⟩ (.int .i64 (rd l1 (ji32)))) w.heap.size (fun k_ => (P0_3_ k_ ∨ w.heap.size ≤ k_) ∧ some k_ ≠ (.slice Ao39 y222.length co39 : Value).ownBlock ∧ k_ ≠ gb211 ∧ k_ ≠ gb212) (.slice A37 y217.length c37) y217) := ⟨by (with_reducible repeat (first | apply Kd.V_alloc | apply Kd.V_drewN | apply Kd.V_drew)); exact Kd.V_mono (Kd.V_far (p := ⟨gb211, 1, none⟩) (Kd.V_far (p := ⟨gb211, 2, none⟩) (Kd.V_far (p := ⟨gb211, 3, none⟩) (Kd.V_mono HO221.out (fun k_ hk => (⟨hk, hk.1.2.1⟩ : _ ∧ k_ ≠ gb211))) (fun _ hk => hk.2) (.slice Ao39 y222.length co39)) (fun _ hk => hk.2) (.int .u64 (IntKind.u64.wrap (a0_2 + 11400714819323198485)))) (fun _ hk => hk.2) (.int .i64 (rd l1 (ji32)))) (fun _ hk => (And.intro (hk.1.1.1) ((And.intro (hk.1.2) ((And.intro (hk.1.1.2.1) (hk.1.1.2.2)))))))⟩
                                  have n2_ : Aside0 (Kd.R (Kd.int .i64) 3 (((w38.setCell ⟨gb211, 3, none⟩ (.slice Ao39 y222.length co39)).setCell ⟨gb211, 2, none⟩ (.int .u64 (IntKind.u64.wrap (a0_2 + 11400714819323198485)))).setCell ⟨gb211, 1, none⟩ (.int .i64 (rd l1 (ji32)))) w.heap.size (fun k_ => (w.heap.size ≤ k_)) (.slice Ao39 y222.length co39) y222) := ⟨by (with_reducible repeat (first | apply Kd.R_alloc | apply Kd.R_drewN | apply Kd.R_drew)); exact Kd.R_mono (Kd.R_far (p := ⟨gb211, 1, none⟩) (Kd.R_far (p := ⟨gb211, 2, none⟩) (Kd.R_far (p := ⟨gb211, 3, none⟩) (Kd.R_types HO224.out BK211.out (by decide)) (fun _ hk => hk.2) (.slice Ao39 y222.length co39)) (fun _ hk => hk.2) (.int .u64 (IntKind.u64.wrap (a0_2 + 11400714819323198485)))) (fun _ hk => hk.2) (.int .i64 (rd l1 (ji32)))) (fun _ hk => hk.1)⟩
                                  have n3_ : Aside0 ((((w38.setCell ⟨gb211, 3, none⟩ (.slice Ao39 y222.length co39)).setCell ⟨gb211, 2, none⟩ (.int .u64 (IntKind.u64.wrap (a0_2 + 11400714819323198485)))).setCell ⟨gb211, 1, none⟩ (.int .i64 (rd l1 (ji32)))).heap[gb211]? = some (.cells #[.int .i64 a0_0, .int .i64 (rd l1 (ji32)), .int .u64 (IntKind.u64.wrap (a0_2 + 11400714819323198485)), .slice Ao39 y222.length co39] 25 (0, 0))) := ⟨by (with_reducible repeat (first | refine blk_drewN ?_ _ | refine blk_drew ?_ | refine blk_alloc ?_ _)); refine blk_put (cs := #[.int .i64 a0_0, .int .i64 a0_1, .int .u64 (IntKind.u64.wrap (a0_2 + 11400714819323198485)), .slice Ao39 y222.length co39]) ?_ 1 _ rfl; (with_reducible repeat (first | refine blk_drewN ?_ _ | refine blk_drew ?_ | refine blk_alloc ?_ _)); refine blk_put (cs := #[.int .i64 a0_0, .int .i64 a0_1, .int .u64 a0_2, .slice Ao39 y222.length co39]) ?_ 2 _ rfl; (with_reducible repeat (first | refine blk_drewN ?_ _ | refine blk_drew ?_ | refine blk_alloc ?_ _)); refine blk_put (cs := #[.int .i64 a0_0, .int .i64 a0_1, .int .u64 a0_2, .slice (some ad216) l0_3.length c0_3]) ?_ 3 _ rfl; (with_reducible repeat (first | refine blk_drewN ?_ _ | refine blk_drew ?_ | refine blk_alloc ?_ _)); exact BK211.out⟩
                                  have n4_ : Aside0 ((((w38.setCell ⟨gb211, 3, none⟩ (.slice Ao39 y222.length co39)).setCell ⟨gb211, 2, none⟩ (.int .u64 (IntKind.u64.wrap (a0_2 + 11400714819323198485)))).setCell ⟨gb211, 1, none⟩ (.int .i64 (rd l1 (ji32)))).heap[gb212]? = some (.cells #[.int .i64 0, .int .i64 0, .int .u64 0, .slice none 0 0] 25 (0, 0))) := ⟨by (with_reducible repeat (first | refine blk_drewN ?_ _ | refine blk_drew ?_ | refine blk_alloc ?_ _)); refine blk_far ?_ NB212_211.out _; (with_reducible repeat (first | refine blk_drewN ?_ _ | refine blk_drew ?_ | refine blk_alloc ?_ _)); refine blk_far ?_ NB212_211.out _; (with_reducible repeat (first | refine blk_drewN ?_ _ | refine blk_drew ?_ | refine blk_alloc ?_ _)); refine blk_far ?_ NB212_211.out _; (with_reducible repeat (first | refine blk_drewN ?_ _ | refine blk_drew ?_ | refine blk_alloc ?_ _)); exact BK212.out⟩
                                  have n5_ : Aside0 (Below w.heap.size w (((w38.setCell ⟨gb211, 3, none⟩ (.slice Ao39 y222.length co39)).setCell ⟨gb211, 2, none⟩ (.int .u64 (IntKind.u64.wrap (a0_2 + 11400714819323198485)))).setCell ⟨gb211, 1, none⟩ (.int .i64 (rd l1 (ji32))))) := ⟨by repeat (first | (with_reducible first | exact HB.out | apply below_alloc | apply pw_below_drewN | apply below_drew1 | refine below_set ?_ GE211.out | refine below_set ?_ GE212.out) | exact HB.out)⟩
                                  (try clear HO_212003)
                                  (try clear HO221)
                                  (try clear HO224)
                                  (try clear BK211)
                                  (try clear BK212)
                                  (try clear HB)
                                  (try simp only [fk_setCell_drewN, World.drewN_drewN])
                                  generalize (((w38.setCell ⟨gb211, 3, none⟩ (.slice Ao39 y222.length co39)).setCell ⟨gb211, 2, none⟩ (.int .u64 (IntKind.u64.wrap (a0_2 + 11400714819323198485)))).setCell ⟨gb211, 1, none⟩ (.int .i64 (rd l1 (ji32)))) = w41 at n0_ n1_ n2_ n3_ n4_ n5_ ⊢
                                  have HO_212003 := n0_
                                  have HO221 := n1_
                                  have HO224 := n2_
                                  have BK211 := n3_
                                  have BK212 := n4_
                                  have HB := n5_
                                  clear n0_ n1_ n2_ n3_ n4_ n5_
                                  (try (rw [drewN_self w41]; generalize hq_ : World.drewN w41 _ = w41; have n0_ : Aside0 (Kd.V (Kd.int .i64) 3 w41 w.heap.size (fun k_ => (P0_3_ k_ ∨ w.heap.size ≤ k_) ∧ some k_ ≠ (.slice Ao39 y222.length co39 : Value).ownBlock ∧ k_ ≠ gb211 ∧ k_ ≠ gb212) (.slice A37 y217.length c37) y217) := ⟨by rw [← hq_]; exact (by (with_reducible repeat (first | apply Kd.V_alloc | apply Kd.V_drewN | apply Kd.V_drew)); exact HO221.out)⟩; have n1_ : Aside0 (Kd.R (Kd.int .i64) 3 w41 w.heap.size (fun k_ => (w.heap.size ≤ k_)) (.slice Ao39 y222.length co39) y222) := ⟨by rw [← hq_]; exact (by (with_reducible repeat (first | apply Kd.R_alloc | apply Kd.R_drewN | apply Kd.R_drew)); exact HO224.out)⟩; have n2_ : Aside0 (Kd.V (Kd.int .i64) 3 w41 w.heap.size (fun k_ => (P0_3_ k_ ∨ w.heap.size ≤ k_) ∧ some k_ ≠ (.slice Ao39 y222.length co39 : Value).ownBlock ∧ k_ ≠ gb211 ∧ k_ ≠ gb212) (.slice (some ad216) l0_3.length c0_3) l0_3) := ⟨by rw [← hq_]; exact (by (with_reducible repeat (first | apply Kd.V_alloc | apply Kd.V_drewN | apply Kd.V_drew)); exact HO_212003.out)⟩; have n3_ : Aside0 (w41.heap[gb211]? = some (.cells #[.int .i64 a0_0, .int .i64 (rd l1 (ji32)), .int .u64 (IntKind.u64.wrap (a0_2 + 11400714819323198485)), .slice Ao39 y222.length co39] 25 (0, 0))) := ⟨by rw [← hq_]; exact (by (with_reducible repeat (first | refine blk_drewN ?_ _ | refine blk_drew ?_ | refine blk_alloc ?_ _)); exact BK211.out)⟩; have n4_ : Aside0 (w41.heap[gb212]? = some (.cells #[.int .i64 0, .int .i64 0, .int .u64 0, .slice none 0 0] 25 (0, 0))) := ⟨by rw [← hq_]; exact (by (with_reducible repeat (first | refine blk_drewN ?_ _ | refine blk_drew ?_ | refine blk_alloc ?_ _)); exact BK212.out)⟩; have n5_ : Aside0 (Below w.heap.size w w41) := ⟨by rw [← hq_]; exact (by repeat (first | (with_reducible first | exact HB.out | apply below_alloc | apply pw_below_drewN | apply below_drew1 | refine below_set ?_ GE211.out | refine below_set ?_ GE212.out) | exact HB.out))⟩; clear HO221 HO224 HO_212003 BK211 BK212 HB hq_; have HO221 := n0_; have HO224 := n1_; have HO_212003 := n2_; have BK211 := n3_; have BK212 := n4_; have HB := n5_; clear n0_ n1_ n2_ n3_ n4_ n5_))
                                  have n0_ := Aside0.mk (Kd.V_drew HO_212003.out)
                                  have n1_ := Aside0.mk (Kd.V_drew HO221.out)
                                  have n2_ := Aside0.mk (Kd.R_drew HO224.out)
                                  have n3_ := Aside0.mk (blk_drew BK211.out)
                                  have n4_ := Aside0.mk (blk_drew BK212.out)
                                  have n5_ := Aside0.mk (below_drew1 HB.out)
                                  clear HO_212003
                                  clear HO221
                                  clear HO224
                                  clear BK211
                                  clear BK212
                                  clear HB
                                  have HO_212003 := n0_
                                  have HO221 := n1_
                                  have HO224 := n2_
                                  have BK211 := n3_
                                  have BK212 := n4_
                                  have HB := n5_
                                  clear n0_ n1_ n2_ n3_ n4_ n5_
                                  refine start_ (n := 5) (S := fun w' => w'.cell? ⟨gb211, 0, none⟩ = some (.int .i64 a0_0) ∧ w'.cell? ⟨gb211, 1, none⟩ = some (.int .i64 (rd l1 (ji32))) ∧ w'.cell? ⟨gb211, 2, none⟩ = some (.int .u64 (IntKind.u64.wrap (a0_2 + 11400714819323198485))) ∧ w'.cell? ⟨gb211, 3, none⟩ = some (.slice Ao39 y222.length co39)) (ds := []) #[false, false, false, false, false] (by kernel_rfl) rfl rfl ⟨(blk_cell BK211.out 0).trans rfl, (blk_cell BK211.out 1).trans rfl, (blk_cell BK211.out 2).trans rfl, (blk_cell BK211.out 3).trans rfl⟩ (fun hHeld => ?_)
                                  generalize w41.drew = w42 at HO_212003 HO221 HO224 BK211 BK212 HB hHeld ⊢
                                  refine pure_ (i := 0) (N := some 74) (v := ?_) (a' := ?_) #[true, false, false, false, false] rfl rfl (by kernel_rfl) (fun _ _ _ h => h) (Or.inl ⟨by rfl, ?_⟩) ?_ ?_
                                  rotate_left
                                  · intro w'
                                    go_simp
                                    with_reducible rfl
                                  rotate_left
                                  · simp only [Act.put, List.setIfInBounds_toArray, List.set_cons_zero, List.set_cons_succ, i64_w, i32_w]
                                    rfl
                                  refine pure_ (i := 2) (N := some 4) (v := ?_) (a' := ?_) #[true, false, true, false, false] rfl rfl (by kernel_rfl) (fun _ _ _ h => h) (Or.inl ⟨by rfl, ?_⟩) ?_ ?_
                                  rotate_left
                                  · intro w'
                                    go_simp
                                    with_reducible rfl
                                  rotate_left
                                  · simp only [Act.put, List.setIfInBounds_toArray, List.set_cons_zero, List.set_cons_succ, i64_w, i32_w]
                                    rfl
                                  refine take_ (i := 1) (N := some 75) (v := ?_) (a' := ?_) #[true, true, true, false, false] rfl rfl (by kernel_rfl) (fun _ _ _ h => h) (Or.inl ⟨by rfl, ?_⟩) hHeld ?_ ?_
                                  rotate_left
                                  · rintro w' ⟨s0, s1, s2, s3⟩
                                    go_simp
                                    with_reducible rfl
                                  rotate_left
                                  · simp only [Act.put, List.setIfInBounds_toArray, List.set_cons_zero, List.set_cons_succ, i64_w, i32_w]
                                    rfl
                                  refine one_ (i := 3) (N := none) #[true, true, true, true, false] rfl rfl (by kernel_rfl) (by decide) (fun K hK => ?_)
                                  have hs43 : w42.cell? ⟨gb212, 0, none⟩ = some (.int .i64 0) := (blk_cell BK212.out 0).trans rfl
                                  have hfs43 := blk_frozen BK212.out 0
                                  have hns43_0 := NB211_212.out
                                  have hms43_0 := NB212_211.out
                                  have hs44 : w42.cell? ⟨gb212, 1, none⟩ = some (.int .i64 0) := (blk_cell BK212.out 1).trans rfl
                                  have hfs44 := blk_frozen BK212.out 1
                                  have hns44_0 := NB211_212.out
                                  have hms44_0 := NB212_211.out
                                  have hs45 : w42.cell? ⟨gb212, 2, none⟩ = some (.int .u64 0) := (blk_cell BK212.out 2).trans rfl
                                  have hfs45 := blk_frozen BK212.out 2
                                  have hns45_0 := NB211_212.out
                                  have hms45_0 := NB212_211.out
                                  have hs46 : w42.cell? ⟨gb212, 3, none⟩ = some (.slice none 0 0) := (blk_cell BK212.out 3).trans rfl
                                  have hfs46 := blk_frozen BK212.out 3
                                  have hns46_0 := NB211_212.out
                                  have hms46_0 := NB212_211.out
                                  refine skip_ (w1 := ?_) (by rfl) rfl ?_ ?_
                                  rotate_left
                                  · go_simp
                                    rfl
                                  refine hK.out _ _ ⟨((cell_far (p := ⟨gb212, _, none⟩) NB211_212.out _).trans (((cell_far (p := ⟨gb212, _, none⟩) NB211_212.out _).trans (((cell_far (p := ⟨gb212, _, none⟩) NB211_212.out _).trans (((cell_far (p := ⟨gb212, _, none⟩) NB211_212.out _).trans (hHeld.1)))))))), ((cell_far (p := ⟨gb212, _, none⟩) NB211_212.out _).trans (((cell_far (p := ⟨gb212, _, none⟩) NB211_212.out _).trans (((cell_far (p := ⟨gb212, _, none⟩) NB211_212.out _).trans (((cell_far (p := ⟨gb212, _, none⟩) NB211_212.out _).trans (hHeld.2.1)))))))), ((cell_far (p := ⟨gb212, _, none⟩) NB211_212.out _).trans (((cell_far (p := ⟨gb212, _, none⟩) NB211_212.out _).trans (((cell_far (p := ⟨gb212, _, none⟩) NB211_212.out _).trans (((cell_far (p := ⟨gb212, _, none⟩) NB211_212.out _).trans (hHeld.2.2.1)))))))), ((cell_far (p := ⟨gb212, _, none⟩) NB211_212.out _).trans (((cell_far (p := ⟨gb212, _, none⟩) NB211_212.out _).trans (((cell_far (p := ⟨gb212, _, none⟩) NB211_212.out _).trans (((cell_far (p := ⟨gb212, _, none⟩) NB211_212.out _).trans (hHeld.2.2.2))))))))⟩ (fun hHeld => ?_)
                                  clear hK K
                                  refine pure_ (i := 4) (N := some 6) (v := ?_) (a' := ?_) #[true, true, true, true, true] rfl rfl (by kernel_rfl) (fun _ _ _ h => h) (Or.inl ⟨by rfl, ?_⟩) ?_ ?_
                                  rotate_left
                                  · intro w'
                                    go_simp
                                    with_reducible rfl
                                  rotate_left
                                  · simp only [Act.put, List.setIfInBounds_toArray, List.set_cons_zero, List.set_cons_succ, i64_w, i32_w]
                                    rfl
                                  refine done_ (by kernel_rfl) ?_
                                  try go_wp2
                                  refine bodyPost_ret (results_list (rs := [.tmp 4, .cell 5 25, .tmp 6]) rfl (by simp) (.tmp (.cell gb212 25 #[.int .i64 a0_0, .int .i64 (rd l1 (ji32)), .int .u64 (IntKind.u64.wrap (a0_2 + 11400714819323198485)), .slice Ao39 y222.length co39] (0, 0) _ rfl (by (with_reducible repeat (first | refine blk_drewN ?_ _ | refine blk_drew ?_ | refine blk_alloc ?_ _)); refine blk_put (cs := #[.int .i64 a0_0, .int .i64 (rd l1 (ji32)), .int .u64 (IntKind.u64.wrap (a0_2 + 11400714819323198485)), .slice none 0 0]) ?_ 3 _ rfl; (with_reducible repeat (first | refine blk_drewN ?_ _ | refine blk_drew ?_ | refine blk_alloc ?_ _)); refine blk_put (cs := #[.int .i64 a0_0, .int .i64 (rd l1 (ji32)), .int .u64 0, .slice none 0 0]) ?_ 2 _ rfl; (with_reducible repeat (first | refine blk_drewN ?_ _ | refine blk_drew ?_ | refine blk_alloc ?_ _)); refine blk_put (cs := #[.int .i64 a0_0, .int .i64 0, .int .u64 0, .slice none 0 0]) ?_ 1 _ rfl; (with_reducible repeat (first | refine blk_drewN ?_ _ | refine blk_drew ?_ | refine blk_alloc ?_ _)); refine blk_put (cs := #[.int .i64 0, .int .i64 0, .int .u64 0, .slice none 0 0]) ?_ 0 _ rfl; (with_reducible repeat (first | refine blk_drewN ?_ _ | refine blk_drew ?_ | refine blk_alloc ?_ _)); exact BK212.out) Try.underlying25 rfl (by kernel_rfl) (.tmp .nil)))) rfl ?_
                                  exact ⟨_, by first | rfl | (simp [errW_none, errW_some] <;> rfl) | (simp only [← hji26, ← hji32]; first | rfl | (simp [errW_none, errW_some] <;> rfl)) | (simp [*, errW_none, errW_some] <;> rfl), Kd.V_mono (Kd.R_V (by (with_reducible repeat (first | apply Kd.R_alloc | apply Kd.R_drewN | apply Kd.R_drew)); exact Kd.R_mono (Kd.R_far (p := ⟨gb212, 3, none⟩) (Kd.R_far (p := ⟨gb212, 2, none⟩) (Kd.R_far (p := ⟨gb212, 1, none⟩) (Kd.R_far (p := ⟨gb212, 0, none⟩) (Kd.R_types HO224.out BK212.out (by decide)) (fun _ hk => hk.2) (.int .i64 a0_0)) (fun _ hk => hk.2) (.int .i64 (rd l1 (ji32)))) (fun _ hk => hk.2) (.int .u64 (IntKind.u64.wrap (a0_2 + 11400714819323198485)))) (fun _ hk => hk.2) (.slice Ao39 y222.length co39)) (fun _ hk => hk.1))) (fun k_ hk => by first | exact ⟨(.inr (hk.1)), hk.2⟩ | exact (.inr (hk))), by repeat (first | (with_reducible first | exact HB.out | apply below_alloc | apply pw_below_drewN | apply below_drew1 | refine below_set ?_ GE211.out | refine below_set ?_ GE212.out) | exact HB.out)⟩
                                · rw [if_neg c34] at H
                                  exact absurd H (by simp)
                              · rw [if_neg c33] at H
                                exact absurd H (by simp)
                          · rw [if_neg c29] at H
                            have c29b0 : (a0_0 == 3) = false := beq_eq_false_iff_ne.mpr c29
                            have c29b1 : (a0_0 != 3) = true := bne_iff_ne.mpr c29
                            simp only [Option.some.injEq, Prod.mk.injEq] at H
                            obtain ⟨rfl, rfl, rfl, rfl, rfl, rfl⟩ := H
                            have hnb47 := NB211_212.out
                            have hnc47 := NB212_211.out
                            have hcz48_0 : wc.cell? ⟨gb211, 0, none⟩ = some (.int .i64 a0_0) := (blk_cell BK211.out 0).trans rfl
                            have hcz48_1 : wc.cell? ⟨gb211, 1, none⟩ = some (.int .i64 a0_1) := (blk_cell BK211.out 1).trans rfl
                            have hcz48_2 : wc.cell? ⟨gb211, 2, none⟩ = some (.int .u64 a0_2) := (blk_cell BK211.out 2).trans rfl
                            have hcz48_3 : wc.cell? ⟨gb211, 3, none⟩ = some (.slice A0_3 l0_3.length c0_3) := (blk_cell BK211.out 3).trans rfl
                            have hfz48_0 := blk_frozen BK211.out 0
                            have hfz48_1 := blk_frozen BK211.out 1
                            have hfz48_2 := blk_frozen BK211.out 2
                            have hfz48_3 := blk_frozen BK211.out 3
                            have p216 : 0 ≤ (0 : Int) := (by omega)
                            have q216 : 0 < (l0_3.length : Int) := of_decide_eq_true (by first | (with_reducible assumption) | assumption)
                            obtain ⟨ad216, e216, hx216_0⟩ := Kd.at_int (Kd.V_reads' HO_212003.out).2.2 0 p216 q216
                            cases e216
                            have qi216 : (0 < l0_3.length) = True := eq_true (by omega)
                            (try rw [show ((0 : Int)).toNat = 0 from rfl] at hx216_0)
                            (try rw [Addr.add_zero'] at hx216_0)
                            replace p216 := eq_true p216
                            replace q216 := eq_true q216
                            have q49 : (1 : Int) ≤ ((l0_3.length : Int) : Int) := of_decide_eq_true (by first | (with_reducible assumption) | assumption)
                            obtain ⟨i049, hi049, _, hsz49, _⟩ := info_parts info3
                            have hroom49 : l0_3.length ≤ c0_3 := (Kd.V_reads' HO_212003.out).2.1
                            have hC49 : Kd.F (Kd.int .i64) _ _ (some ad216) l0_3.length l0_3 := (Kd.V_at (base := w.heap.size) HO_212003.out).2.2
                            have hcut49 := cut_from (P := Try.prog) 23 3 .i64 Try.underlying23 hi049 1 hsz49 (some ad216) l0_3.length c0_3 1 (by omega) q49
                            have hr49 := Kd.F_cut (m := (1 : Int).toNat) (c := c0_3) hC49 (by omega) hroom49
                            obtain ⟨A49, hA49⟩ : ∃ A1, A1 = (if c0_3 = (1 : Int).toNat then (some ad216) else ((some ad216) : Option Addr).map (·.add ((1 : Int).toNat * 1))) := ⟨_, rfl⟩
                            obtain ⟨c49, hc49⟩ : ∃ c1, c1 = c0_3 - (1 : Int).toNat := ⟨_, rfl⟩
                            have hy49 : y217.length = l0_3.length - (1 : Int).toNat := (by rw [Ny217.out, List.length_drop] <;> omega)
                            rw [show (l0_3).drop (1 : Int).toNat = y217 from Ny217.out.symm] at hr49
                            replace hr49 : Kd.F (Kd.int .i64) _ _ A49 y217.length y217 := (by rw [hA49]; exact hr49)
                            rw [← hy49, ← hA49, ← hc49] at hcut49
                            have HO221 := Aside0.mk (show Kd.V (Kd.int .i64) 3 _ w.heap.size _ (.slice A49 y217.length c49) y217 from Kd.V_mk (by rw [hy49, hc49]; exact Nat.sub_le_sub_right hroom49 _) hr49)
                            have HC221 := Aside0.mk (show y217.length ≤ c49 from by rw [hy49, hc49]; exact Nat.sub_le_sub_right hroom49 _)
                            clear hr49 hC49 hroom49 hi049 hsz49 hc49
                            have KY49 := Aside0.mk hy49
                            have KA49 := Aside0.mk hA49
                            clear hy49 hA49
                            replace q49 := eq_true q49
                            try go_wp2_with (first | ((with_reducible refine gate_builtin (b := .append) (xs := #[.tmp 38, .tmp 41]) rfl ?_); (try (refine gate_guard (by rfl) ?_; dsimp only)); at_builtin; refine Kd.R_append_rows (Kd.int .i64) (w0 := w) w.heap.size rfl (.tmp 38) (.tmp 41) 23 3 (.int .i64 0) 8 rfl Try.underlying23 info3 rfl (by decide) (by omega) (.slice none 0 0) ([] : List Int) y217 _ _ _ (fun k_ => (w.heap.size ≤ k_)) (fun _ => False) rfl rfl ?aO ?aR (fun _ _ h => h) (fun _ h => h.elim) ?aF ?aB ?aS ?aL ?_; (case aR => repeat (first | exact (Kd.V_reads' HO221.out).2.2 | (with_reducible refine Kd.C_alloc ?_ _) | (with_reducible refine Kd.C_drewN ?_ _) | (with_reducible refine Kd.C_drew ?_))); (case aB => exact (by repeat (first | (with_reducible first | exact HB.out | apply below_alloc | apply pw_below_drewN | apply below_drew1 | refine below_set ?_ GE211.out | refine below_set ?_ GE212.out) | exact HB.out))); (case aF => exact (fun k_ hk => (Nat.le_trans (below_size (by repeat (first | (with_reducible first | exact HB.out | apply below_alloc | apply pw_below_drewN | apply below_drew1 | refine below_set ?_ GE211.out | refine below_set ?_ GE212.out) | exact HB.out))) hk))); (case aO => exact ((Kd.R_nil _ _ _ _ (fun k_ => (w.heap.size ≤ k_))))); (case aS => exact (below_size (by repeat (first | (with_reducible first | exact HB.out | apply below_alloc | apply pw_below_drewN | apply below_drew1 | refine below_set ?_ GE211.out | refine below_set ?_ GE212.out) | exact HB.out)))); (case aL => have := LMc23.out; omega); intro v223 w50 ho hb hg hat; rw [← Ny222.out] at ho; have n0_ := Aside0.mk (Kd.V_afterv (Kd.V_apart_nil (by (with_reducible repeat (first | apply Kd.V_alloc | apply Kd.V_drewN | apply Kd.V_drew)); exact HO_212003.out)) hg hat); have n1_ := Aside0.mk (blk_grown (g := gb211) (o := .cells #[.int .i64 a0_0, .int .i64 a0_1, .int .u64 a0_2, .slice (some ad216) l0_3.length c0_3] 25 (0, 0)) (by (with_reducible repeat (first | refine blk_drewN ?_ _ | refine blk_drew ?_ | refine blk_alloc ?_ _)); exact BK211.out) hg (by simp [Value.ownBlock])); have n2_ := Aside0.mk (blk_grown (g := gb212) (o := .cells #[.int .i64 0, .int .i64 0, .int .u64 0, .slice none 0 0] 25 (0, 0)) (by (with_reducible repeat (first | refine blk_drewN ?_ _ | refine blk_drew ?_ | refine blk_alloc ?_ _)); exact BK212.out) hg (by simp [Value.ownBlock])); have n3_ := Aside0.mk (Kd.V_afterv (Kd.V_apart_nil (by (with_reducible repeat (first | apply Kd.V_alloc | apply Kd.V_drewN | apply Kd.V_drew)); exact HO221.out)) hg hat); have n4_ := Aside0.mk (hb); have n5_ := Aside0.mk (ho); clear HO_212003; clear BK211; clear BK212; clear HO221; clear HB; have HO_212003 := n0_; have BK211 := n1_; have BK212 := n2_; have HO221 := n3_; have HB := n4_; have HO224 := n5_; clear n0_ n1_ n2_ n3_ n4_ n5_; clear ho hb hg hat; obtain ⟨Ao51, co51, eo51⟩ := Kd.R_slice HO224.out; subst eo51; have hcz52_0 : w50.cell? ⟨gb211, 0, none⟩ = some (.int .i64 a0_0) := (blk_cell BK211.out 0).trans rfl; have hcz52_1 : w50.cell? ⟨gb211, 1, none⟩ = some (.int .i64 a0_1) := (blk_cell BK211.out 1).trans rfl; have hcz52_2 : w50.cell? ⟨gb211, 2, none⟩ = some (.int .u64 a0_2) := (blk_cell BK211.out 2).trans rfl; have hcz52_3 : w50.cell? ⟨gb211, 3, none⟩ = some (.slice (some ad216) l0_3.length c0_3) := (blk_cell BK211.out 3).trans rfl; have hfz52_0 := blk_frozen BK211.out 0; have hfz52_1 := blk_frozen BK211.out 1; have hfz52_2 := blk_frozen BK211.out 2; have hfz52_3 := blk_frozen BK211.out 3; have p225 : 0 ≤ ((ji26) : Int) := of_decide_eq_true (by first | (with_reducible assumption) | assumption); have q225 : (ji26) < (l1.length : Int) := of_decide_eq_true (by first | (with_reducible assumption) | assumption); obtain ⟨ad225, e225, hx225_0⟩ := Kd.at_int HR1.out (ji26) p225 q225; cases e225; have hn225_0 : ad225.block ≠ gb211 := Nat.ne_of_lt (Nat.lt_of_lt_of_le (by have := World.block_lt_of_cell? _ _ hx225_0; first | rwa [add_block] at this | exact this) GW211.out); replace hx225_0 := (HB.out.cell (World.block_lt_of_cell? w _ hx225_0)).trans hx225_0; replace hx225_0 := (cell_far (p := ⟨gb211, 3, none⟩) (by first | (rw [add_block]; exact hn225_0) | (show (Addr.add _ _).block ≠ _; rw [add_block]; exact hn225_0) | exact hn225_0) (.slice Ao51 y222.length co51)).trans hx225_0; clear hn225_0; replace p225 := eq_true p225; replace q225 := eq_true q225))
                            have n0_ : Aside0 (Kd.V (Kd.int .i64) 3 ((w50.setCell ⟨gb211, 3, none⟩ (.slice Ao51 y222.length co51)).setCell ⟨gb211, 1, none⟩ (.int .i64 (rd l1 (ji26)))) w.heap.size (fun k_ => (P0_3_ k_ ∨ w.heap.size ≤ k_) ∧ some k_ ≠ (.slice Ao51 y222.length co51 : Value).ownBlock ∧ k_ ≠ gb211 ∧ k_ ≠ gb212) (.slice (some ad216) l0_3.length c0_3) l0_3) := ⟨by (with_reducible repeat (first | apply Kd.V_alloc | apply Kd.V_drewN | apply Kd.V_drew)); exact Kd.V_mono (Kd.V_far (p := ⟨gb211, 1, none⟩) (Kd.V_far (p := ⟨gb211, 3, none⟩) (Kd.V_mono HO_212003.out (fun k_ hk => (⟨hk, hk.1.2.1⟩ : _ ∧ k_ ≠ gb211))) (fun _ hk => hk.2) (.slice Ao51 y222.length co51)) (fun _ hk => hk.2) (.int .i64 (rd l1 (ji26)))) (fun _ hk => (And.intro (hk.1.1.1) ((And.intro (hk.1.2) ((And.intro (hk.1.1.2.1) (hk.1.1.2.2)))))))⟩
                            have n1_ : Aside0 (Kd.V (Kd.int .i64) 3 ((w50.setCell ⟨gb211, 3, none⟩ (.slice Ao51 y222.length co51)).setCell ⟨gb211, 1, none⟩ (.int .i64 (rd l1 (ji26)))) w.heap.size (fun k_ => (P0_3_ k_ ∨ w.heap.size ≤ k_) ∧ some k_ ≠ (.slice Ao51 y222.length co51 : Value).ownBlock ∧ k_ ≠ gb211 ∧ k_ ≠ gb212) (.slice A49 y217.length c49) y217) := ⟨by (with_reducible repeat (first | apply Kd.V_alloc | apply Kd.V_drewN | apply Kd.V_drew)); exact Kd.V_mono (Kd.V_far (p := ⟨gb211, 1, none⟩) (Kd.V_far (p := ⟨gb211, 3, none⟩) (Kd.V_mono HO221.out (fun k_ hk => (⟨hk, hk.1.2.1⟩ : _ ∧ k_ ≠ gb211))) (fun _ hk => hk.2) (.slice Ao51 y222.length co51)) (fun _ hk => hk.2) (.int .i64 (rd l1 (ji26)))) (fun _ hk => (And.intro (hk.1.1.1) ((And.intro (hk.1.2) ((And.intro (hk.1.1.2.1) (hk.1.1.2.2)))))))⟩
                            have n2_ : Aside0 (Kd.R (Kd.int .i64) 3 ((w50.setCell ⟨gb211, 3, none⟩ (.slice Ao51 y222.length co51)).setCell ⟨gb211, 1, none⟩ (.int .i64 (rd l1 (ji26)))) w.heap.size (fun k_ => (w.heap.size ≤ k_)) (.slice Ao51 y222.length co51) y222) := ⟨by (with_reducible repeat (first | apply Kd.R_alloc | apply Kd.R_drewN | apply Kd.R_drew)); exact Kd.R_mono (Kd.R_far (p := ⟨gb211, 1, none⟩) (Kd.R_far (p := ⟨gb211, 3, none⟩) (Kd.R_types HO224.out BK211.out (by decide)) (fun _ hk => hk.2) (.slice Ao51 y222.length co51)) (fun _ hk => hk.2) (.int .i64 (rd l1 (ji26)))) (fun _ hk => hk.1)⟩
                            have n3_ : Aside0 (((w50.setCell ⟨gb211, 3, none⟩ (.slice Ao51 y222.length co51)).setCell ⟨gb211, 1, none⟩ (.int .i64 (rd l1 (ji26)))).heap[gb211]? = some (.cells #[.int .i64 a0_0, .int .i64 (rd l1 (ji26)), .int .u64 a0_2, .slice Ao51 y222.length co51] 25 (0, 0))) := ⟨by (with_reducible repeat (first | refine blk_drewN ?_ _ | refine blk_drew ?_ | refine blk_alloc ?_ _)); refine blk_put (cs := #[.int .i64 a0_0, .int .i64 a0_1, .int .u64 a0_2, .slice Ao51 y222.length co51]) ?_ 1 _ rfl; (with_reducible repeat (first | refine blk_drewN ?_ _ | refine blk_drew ?_ | refine blk_alloc ?_ _)); refine blk_put (cs := #[.int .i64 a0_0, .int .i64 a0_1, .int .u64 a0_2, .slice (some ad216) l0_3.length c0_3]) ?_ 3 _ rfl; (with_reducible repeat (first | refine blk_drewN ?_ _ | refine blk_drew ?_ | refine blk_alloc ?_ _)); exact BK211.out⟩
                            have n4_ : Aside0 (((w50.setCell ⟨gb211, 3, none⟩ (.slice Ao51 y222.length co51)).setCell ⟨gb211, 1, none⟩ (.int .i64 (rd l1 (ji26)))).heap[gb212]? = some (.cells #[.int .i64 0, .int .i64 0, .int .u64 0, .slice none 0 0] 25 (0, 0))) := ⟨by (with_reducible repeat (first | refine blk_drewN ?_ _ | refine blk_drew ?_ | refine blk_alloc ?_ _)); refine blk_far ?_ NB212_211.out _; (with_reducible repeat (first | refine blk_drewN ?_ _ | refine blk_drew ?_ | refine blk_alloc ?_ _)); refine blk_far ?_ NB212_211.out _; (with_reducible repeat (first | refine blk_drewN ?_ _ | refine blk_drew ?_ | refine blk_alloc ?_ _)); exact BK212.out⟩
                            have n5_ : Aside0 (Below w.heap.size w ((w50.setCell ⟨gb211, 3, none⟩ (.slice Ao51 y222.length co51)).setCell ⟨gb211, 1, none⟩ (.int .i64 (rd l1 (ji26))))) := ⟨by repeat (first | (with_reducible first | exact HB.out | apply below_alloc | apply pw_below_drewN | apply below_drew1 | refine below_set ?_ GE211.out | refine below_set ?_ GE212.out) | exact HB.out)⟩
                            (try clear HO_212003)
                            (try clear HO221)
                            (try clear HO224)
                            (try clear BK211)
                            (try clear BK212)
                            (try clear HB)
                            (try simp only [fk_setCell_drewN, World.drewN_drewN])
                            generalize ((w50.setCell ⟨gb211, 3, none⟩ (.slice Ao51 y222.length co51)).setCell ⟨gb211, 1, none⟩ (.int .i64 (rd l1 (ji26)))) = w53 at n0_ n1_ n2_ n3_ n4_ n5_ ⊢
                            have HO_212003 := n0_
                            have HO221 := n1_
                            have HO224 := n2_
                            have BK211 := n3_
                            have BK212 := n4_
                            have HB := n5_
                            clear n0_ n1_ n2_ n3_ n4_ n5_
                            have n0_ := Aside0.mk (Kd.V_drew HO_212003.out)
                            have n1_ := Aside0.mk (Kd.V_drew HO221.out)
                            have n2_ := Aside0.mk (Kd.R_drew HO224.out)
                            have n3_ := Aside0.mk (blk_drew BK211.out)
                            have n4_ := Aside0.mk (blk_drew BK212.out)
                            have n5_ := Aside0.mk (below_drew1 HB.out)
                            clear HO_212003
                            clear HO221
                            clear HO224
                            clear BK211
                            clear BK212
                            clear HB
                            have HO_212003 := n0_
                            have HO221 := n1_
                            have HO224 := n2_
                            have BK211 := n3_
                            have BK212 := n4_
                            have HB := n5_
                            clear n0_ n1_ n2_ n3_ n4_ n5_
                            refine start_ (n := 5) (S := fun w' => w'.cell? ⟨gb211, 0, none⟩ = some (.int .i64 a0_0) ∧ w'.cell? ⟨gb211, 1, none⟩ = some (.int .i64 (rd l1 (ji26))) ∧ w'.cell? ⟨gb211, 2, none⟩ = some (.int .u64 a0_2) ∧ w'.cell? ⟨gb211, 3, none⟩ = some (.slice Ao51 y222.length co51)) (ds := []) #[false, false, false, false, false] (by kernel_rfl) rfl rfl ⟨(blk_cell BK211.out 0).trans rfl, (blk_cell BK211.out 1).trans rfl, (blk_cell BK211.out 2).trans rfl, (blk_cell BK211.out 3).trans rfl⟩ (fun hHeld => ?_)
                            generalize w53.drew = w54 at HO_212003 HO221 HO224 BK211 BK212 HB hHeld ⊢
                            refine pure_ (i := 0) (N := some 74) (v := ?_) (a' := ?_) #[true, false, false, false, false] rfl rfl (by kernel_rfl) (fun _ _ _ h => h) (Or.inl ⟨by rfl, ?_⟩) ?_ ?_
                            rotate_left
                            · intro w'
                              go_simp
                              with_reducible rfl
                            rotate_left
                            · simp only [Act.put, List.setIfInBounds_toArray, List.set_cons_zero, List.set_cons_succ, i64_w, i32_w]
                              rfl
                            refine pure_ (i := 2) (N := some 4) (v := ?_) (a' := ?_) #[true, false, true, false, false] rfl rfl (by kernel_rfl) (fun _ _ _ h => h) (Or.inl ⟨by rfl, ?_⟩) ?_ ?_
                            rotate_left
                            · intro w'
                              go_simp
                              with_reducible rfl
                            rotate_left
                            · simp only [Act.put, List.setIfInBounds_toArray, List.set_cons_zero, List.set_cons_succ, i64_w, i32_w]
                              rfl
                            refine take_ (i := 1) (N := some 75) (v := ?_) (a' := ?_) #[true, true, true, false, false] rfl rfl (by kernel_rfl) (fun _ _ _ h => h) (Or.inl ⟨by rfl, ?_⟩) hHeld ?_ ?_
                            rotate_left
                            · rintro w' ⟨s0, s1, s2, s3⟩
                              go_simp
                              with_reducible rfl
                            rotate_left
                            · simp only [Act.put, List.setIfInBounds_toArray, List.set_cons_zero, List.set_cons_succ, i64_w, i32_w]
                              rfl
                            refine one_ (i := 3) (N := none) #[true, true, true, true, false] rfl rfl (by kernel_rfl) (by decide) (fun K hK => ?_)
                            have hs55 : w54.cell? ⟨gb212, 0, none⟩ = some (.int .i64 0) := (blk_cell BK212.out 0).trans rfl
                            have hfs55 := blk_frozen BK212.out 0
                            have hns55_0 := NB211_212.out
                            have hms55_0 := NB212_211.out
                            have hs56 : w54.cell? ⟨gb212, 1, none⟩ = some (.int .i64 0) := (blk_cell BK212.out 1).trans rfl
                            have hfs56 := blk_frozen BK212.out 1
                            have hns56_0 := NB211_212.out
                            have hms56_0 := NB212_211.out
                            have hs57 : w54.cell? ⟨gb212, 2, none⟩ = some (.int .u64 0) := (blk_cell BK212.out 2).trans rfl
                            have hfs57 := blk_frozen BK212.out 2
                            have hns57_0 := NB211_212.out
                            have hms57_0 := NB212_211.out
                            have hs58 : w54.cell? ⟨gb212, 3, none⟩ = some (.slice none 0 0) := (blk_cell BK212.out 3).trans rfl
                            have hfs58 := blk_frozen BK212.out 3
                            have hns58_0 := NB211_212.out
                            have hms58_0 := NB212_211.out
                            refine skip_ (w1 := ?_) (by rfl) rfl ?_ ?_
                            rotate_left
                            · go_simp
                              rfl
                            refine hK.out _ _ ⟨((cell_far (p := ⟨gb212, _, none⟩) NB211_212.out _).trans (((cell_far (p := ⟨gb212, _, none⟩) NB211_212.out _).trans (((cell_far (p := ⟨gb212, _, none⟩) NB211_212.out _).trans (((cell_far (p := ⟨gb212, _, none⟩) NB211_212.out _).trans (hHeld.1)))))))), ((cell_far (p := ⟨gb212, _, none⟩) NB211_212.out _).trans (((cell_far (p := ⟨gb212, _, none⟩) NB211_212.out _).trans (((cell_far (p := ⟨gb212, _, none⟩) NB211_212.out _).trans (((cell_far (p := ⟨gb212, _, none⟩) NB211_212.out _).trans (hHeld.2.1)))))))), ((cell_far (p := ⟨gb212, _, none⟩) NB211_212.out _).trans (((cell_far (p := ⟨gb212, _, none⟩) NB211_212.out _).trans (((cell_far (p := ⟨gb212, _, none⟩) NB211_212.out _).trans (((cell_far (p := ⟨gb212, _, none⟩) NB211_212.out _).trans (hHeld.2.2.1)))))))), ((cell_far (p := ⟨gb212, _, none⟩) NB211_212.out _).trans (((cell_far (p := ⟨gb212, _, none⟩) NB211_212.out _).trans (((cell_far (p := ⟨gb212, _, none⟩) NB211_212.out _).trans (((cell_far (p := ⟨gb212, _, none⟩) NB211_212.out _).trans (hHeld.2.2.2))))))))⟩ (fun hHeld => ?_)
                            clear hK K
                            refine pure_ (i := 4) (N := some 6) (v := ?_) (a' := ?_) #[true, true, true, true, true] rfl rfl (by kernel_rfl) (fun _ _ _ h => h) (Or.inl ⟨by rfl, ?_⟩) ?_ ?_
                            rotate_left
                            · intro w'
                              go_simp
                              with_reducible rfl
                            rotate_left
                            · simp only [Act.put, List.setIfInBounds_toArray, List.set_cons_zero, List.set_cons_succ, i64_w, i32_w]
                              rfl
                            refine done_ (by kernel_rfl) ?_
                            try go_wp2
                            refine bodyPost_ret (results_list (rs := [.tmp 4, .cell 5 25, .tmp 6]) rfl (by simp) (.tmp (.cell gb212 25 #[.int .i64 a0_0, .int .i64 (rd l1 (ji26)), .int .u64 a0_2, .slice Ao51 y222.length co51] (0, 0) _ rfl (by (with_reducible repeat (first | refine blk_drewN ?_ _ | refine blk_drew ?_ | refine blk_alloc ?_ _)); refine blk_put (cs := #[.int .i64 a0_0, .int .i64 (rd l1 (ji26)), .int .u64 a0_2, .slice none 0 0]) ?_ 3 _ rfl; (with_reducible repeat (first | refine blk_drewN ?_ _ | refine blk_drew ?_ | refine blk_alloc ?_ _)); refine blk_put (cs := #[.int .i64 a0_0, .int .i64 (rd l1 (ji26)), .int .u64 0, .slice none 0 0]) ?_ 2 _ rfl; (with_reducible repeat (first | refine blk_drewN ?_ _ | refine blk_drew ?_ | refine blk_alloc ?_ _)); refine blk_put (cs := #[.int .i64 a0_0, .int .i64 0, .int .u64 0, .slice none 0 0]) ?_ 1 _ rfl; (with_reducible repeat (first | refine blk_drewN ?_ _ | refine blk_drew ?_ | refine blk_alloc ?_ _)); refine blk_put (cs := #[.int .i64 0, .int .i64 0, .int .u64 0, .slice none 0 0]) ?_ 0 _ rfl; (with_reducible repeat (first | refine blk_drewN ?_ _ | refine blk_drew ?_ | refine blk_alloc ?_ _)); exact BK212.out) Try.underlying25 rfl (by kernel_rfl) (.tmp .nil)))) rfl ?_
                            exact ⟨_, by first | rfl | (simp [errW_none, errW_some] <;> rfl) | (simp only [← hji26]; first | rfl | (simp [errW_none, errW_some] <;> rfl)) | (simp [*, errW_none, errW_some] <;> rfl), Kd.V_mono (Kd.R_V (by (with_reducible repeat (first | apply Kd.R_alloc | apply Kd.R_drewN | apply Kd.R_drew)); exact Kd.R_mono (Kd.R_far (p := ⟨gb212, 3, none⟩) (Kd.R_far (p := ⟨gb212, 2, none⟩) (Kd.R_far (p := ⟨gb212, 1, none⟩) (Kd.R_far (p := ⟨gb212, 0, none⟩) (Kd.R_types HO224.out BK212.out (by decide)) (fun _ hk => hk.2) (.int .i64 a0_0)) (fun _ hk => hk.2) (.int .i64 (rd l1 (ji26)))) (fun _ hk => hk.2) (.int .u64 a0_2)) (fun _ hk => hk.2) (.slice Ao51 y222.length co51)) (fun _ hk => hk.1))) (fun k_ hk => by first | exact ⟨(.inr (hk.1)), hk.2⟩ | exact (.inr (hk))), by repeat (first | (with_reducible first | exact HB.out | apply below_alloc | apply pw_below_drewN | apply below_drew1 | refine below_set ?_ GE211.out | refine below_set ?_ GE212.out) | exact HB.out)⟩
                        · rw [if_neg c28] at H
                          exact absurd H (by simp)
                      · rw [if_neg c27] at H
                        exact absurd H (by simp)
                  · rw [if_neg c24] at H
                    have c24b0 : decide (0 ≤ (rd l0_3 0)) = false := decide_eq_false c24
                    clear c24
                    by_cases c59 : a0_0 = 3
                    · rw [if_pos c59] at H
                      have c59b0 : (a0_0 == 3) = true := beq_iff_eq.mpr c59
                      have c59b1 : (a0_0 != 3) = false := bne_eq_false_iff_eq.mpr c59
                      clear c59
                      replace H := Option.bind_eq_some_iff.mp H
                      obtain ⟨t228, A600, H⟩ := H
                      replace H : (if (IntKind.u64.wrap ((l1.length : Int))) = 0 then (none) else (if 0 ≤ (wrap64 (Int.tmod t228 (IntKind.u64.wrap ((l1.length : Int))))) then (if (wrap64 (Int.tmod t228 (IntKind.u64.wrap ((l1.length : Int))))) < (l1.length : Int) then (some (rd l1 (wrap64 (Int.tmod t228 (IntKind.u64.wrap ((l1.length : Int))))), a0_0, rd l1 (wrap64 (Int.tmod t228 (IntKind.u64.wrap ((l1.length : Int))))), IntKind.u64.wrap (a0_2 + 11400714819323198485), y222, 0)) else (none)) else (none))) = some (r1, r2, r3, r4, r5, r6) := H
                      have A60 := Aside0.mk A600
                      clear A600
                      by_cases c61 : (IntKind.u64.wrap ((l1.length : Int))) = 0
                      · rw [if_pos c61] at H
                        exact absurd H (by simp)
                      · rw [if_neg c61] at H
                        have c61b0 : ((IntKind.u64.wrap ((l1.length : Int))) == 0) = false := beq_eq_false_iff_ne.mpr c61
                        have c61b1 : ((IntKind.u64.wrap ((l1.length : Int))) != 0) = true := bne_iff_ne.mpr c61
                        obtain ⟨ji62, hji62⟩ : ∃ j_ : Int, (wrap64 (Int.tmod t228 (IntKind.u64.wrap ((l1.length : Int))))) = j_ := ⟨_, rfl⟩
                        replace H : (if 0 ≤ (ji62) then (if (ji62) < (l1.length : Int) then (some (rd l1 (ji62), a0_0, rd l1 (ji62), IntKind.u64.wrap (a0_2 + 11400714819323198485), y222, 0)) else (none)) else (none)) = some (r1, r2, r3, r4, r5, r6) := by first | (rw [hji62] at H; exact H) | (simp only [hji62] at H ⊢; exact H)
                        (try rw [hji62] at A60)
                        have hji62w : (IntKind.i64.wrap (Int.tmod t228 (IntKind.u64.wrap ((l1.length : Int))))) = ji62 := (i64_w _).trans hji62
                        by_cases c63 : 0 ≤ (ji62)
                        · rw [if_pos c63] at H
                          have c63b0 : decide (0 ≤ (ji62)) = true := decide_eq_true c63
                          clear c63
                          by_cases c64 : (ji62) < (l1.length : Int)
                          · rw [if_pos c64] at H
                            have c64b0 : decide ((ji62) < (l1.length : Int)) = true := decide_eq_true c64
                            clear c64
                            simp only [Option.some.injEq, Prod.mk.injEq] at H
                            obtain ⟨rfl, rfl, rfl, rfl, rfl, rfl⟩ := H
                            have hnb65 := NB211_212.out
                            have hnc65 := NB212_211.out
                            have hcz66_0 : wc.cell? ⟨gb211, 0, none⟩ = some (.int .i64 a0_0) := (blk_cell BK211.out 0).trans rfl
                            have hcz66_1 : wc.cell? ⟨gb211, 1, none⟩ = some (.int .i64 a0_1) := (blk_cell BK211.out 1).trans rfl
                            have hcz66_2 : wc.cell? ⟨gb211, 2, none⟩ = some (.int .u64 a0_2) := (blk_cell BK211.out 2).trans rfl
                            have hcz66_3 : wc.cell? ⟨gb211, 3, none⟩ = some (.slice A0_3 l0_3.length c0_3) := (blk_cell BK211.out 3).trans rfl
                            have hfz66_0 := blk_frozen BK211.out 0
                            have hfz66_1 := blk_frozen BK211.out 1
                            have hfz66_2 := blk_frozen BK211.out 2
                            have hfz66_3 := blk_frozen BK211.out 3
                            have p216 : 0 ≤ (0 : Int) := (by omega)
                            have q216 : 0 < (l0_3.length : Int) := of_decide_eq_true (by first | (with_reducible assumption) | assumption)
                            obtain ⟨ad216, e216, hx216_0⟩ := Kd.at_int (Kd.V_reads' HO_212003.out).2.2 0 p216 q216
                            cases e216
                            have qi216 : (0 < l0_3.length) = True := eq_true (by omega)
                            (try rw [show ((0 : Int)).toNat = 0 from rfl] at hx216_0)
                            (try rw [Addr.add_zero'] at hx216_0)
                            replace p216 := eq_true p216
                            replace q216 := eq_true q216
                            have q67 : (1 : Int) ≤ ((l0_3.length : Int) : Int) := of_decide_eq_true (by first | (with_reducible assumption) | assumption)
                            obtain ⟨i067, hi067, _, hsz67, _⟩ := info_parts info3
                            have hroom67 : l0_3.length ≤ c0_3 := (Kd.V_reads' HO_212003.out).2.1
                            have hC67 : Kd.F (Kd.int .i64) _ _ (some ad216) l0_3.length l0_3 := (Kd.V_at (base := w.heap.size) HO_212003.out).2.2
                            have hcut67 := cut_from (P := Try.prog) 23 3 .i64 Try.underlying23 hi067 1 hsz67 (some ad216) l0_3.length c0_3 1 (by omega) q67
                            have hr67 := Kd.F_cut (m := (1 : Int).toNat) (c := c0_3) hC67 (by omega) hroom67
                            obtain ⟨A67, hA67⟩ : ∃ A1, A1 = (if c0_3 = (1 : Int).toNat then (some ad216) else ((some ad216) : Option Addr).map (·.add ((1 : Int).toNat * 1))) := ⟨_, rfl⟩
                            obtain ⟨c67, hc67⟩ : ∃ c1, c1 = c0_3 - (1 : Int).toNat := ⟨_, rfl⟩
                            have hy67 : y217.length = l0_3.length - (1 : Int).toNat := (by rw [Ny217.out, List.length_drop] <;> omega)
                            rw [show (l0_3).drop (1 : Int).toNat = y217 from Ny217.out.symm] at hr67
                            replace hr67 : Kd.F (Kd.int .i64) _ _ A67 y217.length y217 := (by rw [hA67]; exact hr67)
                            rw [← hy67, ← hA67, ← hc67] at hcut67
                            have HO221 := Aside0.mk (show Kd.V (Kd.int .i64) 3 _ w.heap.size _ (.slice A67 y217.length c67) y217 from Kd.V_mk (by rw [hy67, hc67]; exact Nat.sub_le_sub_right hroom67 _) hr67)
                            have HC221 := Aside0.mk (show y217.length ≤ c67 from by rw [hy67, hc67]; exact Nat.sub_le_sub_right hroom67 _)
                            clear hr67 hC67 hroom67 hi067 hsz67 hc67
                            have KY67 := Aside0.mk hy67
                            have KA67 := Aside0.mk hA67
                            clear hy67 hA67
                            replace q67 := eq_true q67
                            try go_wp2_with (first | ((with_reducible refine gate_builtin (b := .append) (xs := #[.tmp 38, .tmp 41]) rfl ?_); (try (refine gate_guard (by rfl) ?_; dsimp only)); at_builtin; refine Kd.R_append_rows (Kd.int .i64) (w0 := w) w.heap.size rfl (.tmp 38) (.tmp 41) 23 3 (.int .i64 0) 8 rfl Try.underlying23 info3 rfl (by decide) (by omega) (.slice none 0 0) ([] : List Int) y217 _ _ _ (fun k_ => (w.heap.size ≤ k_)) (fun _ => False) rfl rfl ?aO ?aR (fun _ _ h => h) (fun _ h => h.elim) ?aF ?aB ?aS ?aL ?_; (case aR => repeat (first | exact (Kd.V_reads' HO221.out).2.2 | (with_reducible refine Kd.C_alloc ?_ _) | (with_reducible refine Kd.C_drewN ?_ _) | (with_reducible refine Kd.C_drew ?_))); (case aB => exact (by repeat (first | (with_reducible first | exact HB.out | apply below_alloc | apply pw_below_drewN | apply below_drew1 | refine below_set ?_ GE211.out | refine below_set ?_ GE212.out) | exact HB.out))); (case aF => exact (fun k_ hk => (Nat.le_trans (below_size (by repeat (first | (with_reducible first | exact HB.out | apply below_alloc | apply pw_below_drewN | apply below_drew1 | refine below_set ?_ GE211.out | refine below_set ?_ GE212.out) | exact HB.out))) hk))); (case aO => exact ((Kd.R_nil _ _ _ _ (fun k_ => (w.heap.size ≤ k_))))); (case aS => exact (below_size (by repeat (first | (with_reducible first | exact HB.out | apply below_alloc | apply pw_below_drewN | apply below_drew1 | refine below_set ?_ GE211.out | refine below_set ?_ GE212.out) | exact HB.out)))); (case aL => have := LMc23.out; omega); intro v223 w68 ho hb hg hat; rw [← Ny222.out] at ho; have n0_ := Aside0.mk (Kd.V_afterv (Kd.V_apart_nil (by (with_reducible repeat (first | apply Kd.V_alloc | apply Kd.V_drewN | apply Kd.V_drew)); exact HO_212003.out)) hg hat); have n1_ := Aside0.mk (blk_grown (g := gb211) (o := .cells #[.int .i64 a0_0, .int .i64 a0_1, .int .u64 a0_2, .slice (some ad216) l0_3.length c0_3] 25 (0, 0)) (by (with_reducible repeat (first | refine blk_drewN ?_ _ | refine blk_drew ?_ | refine blk_alloc ?_ _)); exact BK211.out) hg (by simp [Value.ownBlock])); have n2_ := Aside0.mk (blk_grown (g := gb212) (o := .cells #[.int .i64 0, .int .i64 0, .int .u64 0, .slice none 0 0] 25 (0, 0)) (by (with_reducible repeat (first | refine blk_drewN ?_ _ | refine blk_drew ?_ | refine blk_alloc ?_ _)); exact BK212.out) hg (by simp [Value.ownBlock])); have n3_ := Aside0.mk (Kd.V_afterv (Kd.V_apart_nil (by (with_reducible repeat (first | apply Kd.V_alloc | apply Kd.V_drewN | apply Kd.V_drew)); exact HO221.out)) hg hat); have n4_ := Aside0.mk (hb); have n5_ := Aside0.mk (ho); clear HO_212003; clear BK211; clear BK212; clear HO221; clear HB; have HO_212003 := n0_; have BK211 := n1_; have BK212 := n2_; have HO221 := n3_; have HB := n4_; have HO224 := n5_; clear n0_ n1_ n2_ n3_ n4_ n5_; clear ho hb hg hat; obtain ⟨Ao69, co69, eo69⟩ := Kd.R_slice HO224.out; subst eo69; have hcz70_0 : w68.cell? ⟨gb211, 0, none⟩ = some (.int .i64 a0_0) := (blk_cell BK211.out 0).trans rfl; have hcz70_1 : w68.cell? ⟨gb211, 1, none⟩ = some (.int .i64 a0_1) := (blk_cell BK211.out 1).trans rfl; have hcz70_2 : w68.cell? ⟨gb211, 2, none⟩ = some (.int .u64 a0_2) := (blk_cell BK211.out 2).trans rfl; have hcz70_3 : w68.cell? ⟨gb211, 3, none⟩ = some (.slice (some ad216) l0_3.length c0_3) := (blk_cell BK211.out 3).trans rfl; have hfz70_0 := blk_frozen BK211.out 0; have hfz70_1 := blk_frozen BK211.out 1; have hfz70_2 := blk_frozen BK211.out 2; have hfz70_3 := blk_frozen BK211.out 3) | ((with_reducible refine gate_callee (f := 21) rfl ?_); refine goesL_ (some 64) rfl rfl Try.func21 (by kernel_rfl) rfl #[.int .u64 (IntKind.u64.wrap (a0_2 + 11400714819323198485))] rfl (by (try simp only [List.map_toArray, List.map_cons, List.map_nil]); first | done | rfl | (simp only [List.length_drop, List.length_take]; rfl)) ?_; (with_reducible refine (jobshellref32_Mix.calls (IntKind.u64.wrap (a0_2 + 11400714819323198485)) t228 _ A60.out).mono ?_); rintro e w' ⟨rfl, ⟨nd, rfl⟩⟩; refine ⟨_, rfl, ?_⟩; have p229 : 0 ≤ ((ji62) : Int) := of_decide_eq_true (by first | (with_reducible assumption) | assumption); have q229 : (ji62) < (l1.length : Int) := of_decide_eq_true (by first | (with_reducible assumption) | assumption); obtain ⟨ad229, e229, hx229_0⟩ := Kd.at_int HR1.out (ji62) p229 q229; cases e229; have hn229_0 : ad229.block ≠ gb211 := Nat.ne_of_lt (Nat.lt_of_lt_of_le (by have := World.block_lt_of_cell? _ _ hx229_0; first | rwa [add_block] at this | exact this) GW211.out); have hn229_1 : ad229.block ≠ gb211 := Nat.ne_of_lt (Nat.lt_of_lt_of_le (by have := World.block_lt_of_cell? _ _ hx229_0; first | rwa [add_block] at this | exact this) GW211.out); replace hx229_0 := (HB.out.cell (World.block_lt_of_cell? w _ hx229_0)).trans hx229_0; replace hx229_0 := (cell_far (p := ⟨gb211, 3, none⟩) (by first | (rw [add_block]; exact hn229_0) | (show (Addr.add _ _).block ≠ _; rw [add_block]; exact hn229_0) | exact hn229_0) (.slice Ao69 y222.length co69)).trans hx229_0; replace hx229_0 := (cell_far (p := ⟨gb211, 2, none⟩) (by first | (rw [add_block]; exact hn229_1) | (show (Addr.add _ _).block ≠ _; rw [add_block]; exact hn229_1) | exact hn229_1) (.int .u64 (IntKind.u64.wrap (a0_2 + 11400714819323198485)))).trans hx229_0; clear hn229_0; clear hn229_1; replace p229 := eq_true p229; replace q229 := eq_true q229))
                            have n0_ : Aside0 (Kd.V (Kd.int .i64) 3 (((w68.setCell ⟨gb211, 3, none⟩ (.slice Ao69 y222.length co69)).setCell ⟨gb211, 2, none⟩ (.int .u64 (IntKind.u64.wrap (a0_2 + 11400714819323198485)))).setCell ⟨gb211, 1, none⟩ (.int .i64 (rd l1 (ji62)))) w.heap.size (fun k_ => (P0_3_ k_ ∨ w.heap.size ≤ k_) ∧ some k_ ≠ (.slice Ao69 y222.length co69 : Value).ownBlock ∧ k_ ≠ gb211 ∧ k_ ≠ gb212) (.slice (some ad216) l0_3.length c0_3) l0_3) := ⟨by (with_reducible repeat (first | apply Kd.V_alloc | apply Kd.V_drewN | apply Kd.V_drew)); exact Kd.V_mono (Kd.V_far (p := ⟨gb211, 1, none⟩) (Kd.V_far (p := ⟨gb211, 2, none⟩) (Kd.V_far (p := ⟨gb211, 3, none⟩) (Kd.V_mono HO_212003.out (fun k_ hk => (⟨hk, hk.1.2.1⟩ : _ ∧ k_ ≠ gb211))) (fun _ hk => hk.2) (.slice Ao69 y222.length co69)) (fun _ hk => hk.2) (.int .u64 (IntKind.u64.wrap (a0_2 + 11400714819323198485)))) (fun _ hk => hk.2) (.int .i64 (rd l1 (ji62)))) (fun _ hk => (And.intro (hk.1.1.1) ((And.intro (hk.1.2) ((And.intro (hk.1.1.2.1) (hk.1.1.2.2)))))))⟩
                            have n1_ : Aside0 (Kd.V (Kd.int .i64) 3 (((w68.setCell ⟨gb211, 3, none⟩ (.slice Ao69 y222.length co69)).setCell ⟨gb211, 2, none⟩ (.int .u64 (IntKind.u64.wrap (a0_2 + 11400714819323198485)))).setCell ⟨gb211, 1, none⟩ (.int .i64 (rd l1 (ji62)))) w.heap.size (fun k_ => (P0_3_ k_ ∨ w.heap.size ≤ k_) ∧ some k_ ≠ (.slice Ao69 y222.length co69 : Value).ownBlock ∧ k_ ≠ gb211 ∧ k_ ≠ gb212) (.slice A67 y217.length c67) y217) := ⟨by (with_reducible repeat (first | apply Kd.V_alloc | apply Kd.V_drewN | apply Kd.V_drew)); exact Kd.V_mono (Kd.V_far (p := ⟨gb211, 1, none⟩) (Kd.V_far (p := ⟨gb211, 2, none⟩) (Kd.V_far (p := ⟨gb211, 3, none⟩) (Kd.V_mono HO221.out (fun k_ hk => (⟨hk, hk.1.2.1⟩ : _ ∧ k_ ≠ gb211))) (fun _ hk => hk.2) (.slice Ao69 y222.length co69)) (fun _ hk => hk.2) (.int .u64 (IntKind.u64.wrap (a0_2 + 11400714819323198485)))) (fun _ hk => hk.2) (.int .i64 (rd l1 (ji62)))) (fun _ hk => (And.intro (hk.1.1.1) ((And.intro (hk.1.2) ((And.intro (hk.1.1.2.1) (hk.1.1.2.2)))))))⟩
                            have n2_ : Aside0 (Kd.R (Kd.int .i64) 3 (((w68.setCell ⟨gb211, 3, none⟩ (.slice Ao69 y222.length co69)).setCell ⟨gb211, 2, none⟩ (.int .u64 (IntKind.u64.wrap (a0_2 + 11400714819323198485)))).setCell ⟨gb211, 1, none⟩ (.int .i64 (rd l1 (ji62)))) w.heap.size (fun k_ => (w.heap.size ≤ k_)) (.slice Ao69 y222.length co69) y222) := ⟨by (with_reducible repeat (first | apply Kd.R_alloc | apply Kd.R_drewN | apply Kd.R_drew)); exact Kd.R_mono (Kd.R_far (p := ⟨gb211, 1, none⟩) (Kd.R_far (p := ⟨gb211, 2, none⟩) (Kd.R_far (p := ⟨gb211, 3, none⟩) (Kd.R_types HO224.out BK211.out (by decide)) (fun _ hk => hk.2) (.slice Ao69 y222.length co69)) (fun _ hk => hk.2) (.int .u64 (IntKind.u64.wrap (a0_2 + 11400714819323198485)))) (fun _ hk => hk.2) (.int .i64 (rd l1 (ji62)))) (fun _ hk => hk.1)⟩
                            have n3_ : Aside0 ((((w68.setCell ⟨gb211, 3, none⟩ (.slice Ao69 y222.length co69)).setCell ⟨gb211, 2, none⟩ (.int .u64 (IntKind.u64.wrap (a0_2 + 11400714819323198485)))).setCell ⟨gb211, 1, none⟩ (.int .i64 (rd l1 (ji62)))).heap[gb211]? = some (.cells #[.int .i64 a0_0, .int .i64 (rd l1 (ji62)), .int .u64 (IntKind.u64.wrap (a0_2 + 11400714819323198485)), .slice Ao69 y222.length co69] 25 (0, 0))) := ⟨by (with_reducible repeat (first | refine blk_drewN ?_ _ | refine blk_drew ?_ | refine blk_alloc ?_ _)); refine blk_put (cs := #[.int .i64 a0_0, .int .i64 a0_1, .int .u64 (IntKind.u64.wrap (a0_2 + 11400714819323198485)), .slice Ao69 y222.length co69]) ?_ 1 _ rfl; (with_reducible repeat (first | refine blk_drewN ?_ _ | refine blk_drew ?_ | refine blk_alloc ?_ _)); refine blk_put (cs := #[.int .i64 a0_0, .int .i64 a0_1, .int .u64 a0_2, .slice Ao69 y222.length co69]) ?_ 2 _ rfl; (with_reducible repeat (first | refine blk_drewN ?_ _ | refine blk_drew ?_ | refine blk_alloc ?_ _)); refine blk_put (cs := #[.int .i64 a0_0, .int .i64 a0_1, .int .u64 a0_2, .slice (some ad216) l0_3.length c0_3]) ?_ 3 _ rfl; (with_reducible repeat (first | refine blk_drewN ?_ _ | refine blk_drew ?_ | refine blk_alloc ?_ _)); exact BK211.out⟩
                            have n4_ : Aside0 ((((w68.setCell ⟨gb211, 3, none⟩ (.slice Ao69 y222.length co69)).setCell ⟨gb211, 2, none⟩ (.int .u64 (IntKind.u64.wrap (a0_2 + 11400714819323198485)))).setCell ⟨gb211, 1, none⟩ (.int .i64 (rd l1 (ji62)))).heap[gb212]? = some (.cells #[.int .i64 0, .int .i64 0, .int .u64 0, .slice none 0 0] 25 (0, 0))) := ⟨by (with_reducible repeat (first | refine blk_drewN ?_ _ | refine blk_drew ?_ | refine blk_alloc ?_ _)); refine blk_far ?_ NB212_211.out _; (with_reducible repeat (first | refine blk_drewN ?_ _ | refine blk_drew ?_ | refine blk_alloc ?_ _)); refine blk_far ?_ NB212_211.out _; (with_reducible repeat (first | refine blk_drewN ?_ _ | refine blk_drew ?_ | refine blk_alloc ?_ _)); refine blk_far ?_ NB212_211.out _; (with_reducible repeat (first | refine blk_drewN ?_ _ | refine blk_drew ?_ | refine blk_alloc ?_ _)); exact BK212.out⟩
                            have n5_ : Aside0 (Below w.heap.size w (((w68.setCell ⟨gb211, 3, none⟩ (.slice Ao69 y222.length co69)).setCell ⟨gb211, 2, none⟩ (.int .u64 (IntKind.u64.wrap (a0_2 + 11400714819323198485)))).setCell ⟨gb211, 1, none⟩ (.int .i64 (rd l1 (ji62))))) := ⟨by repeat (first | (with_reducible first | exact HB.out | apply below_alloc | apply pw_below_drewN | apply below_drew1 | refine below_set ?_ GE211.out | refine below_set ?_ GE212.out) | exact HB.out)⟩
                            (try clear HO_212003)
                            (try clear HO221)
                            (try clear HO224)
                            (try clear BK211)
                            (try clear BK212)
                            (try clear HB)
                            (try simp only [fk_setCell_drewN, World.drewN_drewN])
                            generalize (((w68.setCell ⟨gb211, 3, none⟩ (.slice Ao69 y222.length co69)).setCell ⟨gb211, 2, none⟩ (.int .u64 (IntKind.u64.wrap (a0_2 + 11400714819323198485)))).setCell ⟨gb211, 1, none⟩ (.int .i64 (rd l1 (ji62)))) = w71 at n0_ n1_ n2_ n3_ n4_ n5_ ⊢
                            have HO_212003 := n0_
                            have HO221 := n1_
                            have HO224 := n2_
                            have BK211 := n3_
                            have BK212 := n4_
                            have HB := n5_
                            clear n0_ n1_ n2_ n3_ n4_ n5_
                            (try (rw [drewN_self w71]; generalize hq_ : World.drewN w71 _ = w71; have n0_ : Aside0 (Kd.V (Kd.int .i64) 3 w71 w.heap.size (fun k_ => (P0_3_ k_ ∨ w.heap.size ≤ k_) ∧ some k_ ≠ (.slice Ao69 y222.length co69 : Value).ownBlock ∧ k_ ≠ gb211 ∧ k_ ≠ gb212) (.slice A67 y217.length c67) y217) := ⟨by rw [← hq_]; exact (by (with_reducible repeat (first | apply Kd.V_alloc | apply Kd.V_drewN | apply Kd.V_drew)); exact HO221.out)⟩; have n1_ : Aside0 (Kd.R (Kd.int .i64) 3 w71 w.heap.size (fun k_ => (w.heap.size ≤ k_)) (.slice Ao69 y222.length co69) y222) := ⟨by rw [← hq_]; exact (by (with_reducible repeat (first | apply Kd.R_alloc | apply Kd.R_drewN | apply Kd.R_drew)); exact HO224.out)⟩; have n2_ : Aside0 (Kd.V (Kd.int .i64) 3 w71 w.heap.size (fun k_ => (P0_3_ k_ ∨ w.heap.size ≤ k_) ∧ some k_ ≠ (.slice Ao69 y222.length co69 : Value).ownBlock ∧ k_ ≠ gb211 ∧ k_ ≠ gb212) (.slice (some ad216) l0_3.length c0_3) l0_3) := ⟨by rw [← hq_]; exact (by (with_reducible repeat (first | apply Kd.V_alloc | apply Kd.V_drewN | apply Kd.V_drew)); exact HO_212003.out)⟩; have n3_ : Aside0 (w71.heap[gb211]? = some (.cells #[.int .i64 a0_0, .int .i64 (rd l1 (ji62)), .int .u64 (IntKind.u64.wrap (a0_2 + 11400714819323198485)), .slice Ao69 y222.length co69] 25 (0, 0))) := ⟨by rw [← hq_]; exact (by (with_reducible repeat (first | refine blk_drewN ?_ _ | refine blk_drew ?_ | refine blk_alloc ?_ _)); exact BK211.out)⟩; have n4_ : Aside0 (w71.heap[gb212]? = some (.cells #[.int .i64 0, .int .i64 0, .int .u64 0, .slice none 0 0] 25 (0, 0))) := ⟨by rw [← hq_]; exact (by (with_reducible repeat (first | refine blk_drewN ?_ _ | refine blk_drew ?_ | refine blk_alloc ?_ _)); exact BK212.out)⟩; have n5_ : Aside0 (Below w.heap.size w w71) := ⟨by rw [← hq_]; exact (by repeat (first | (with_reducible first | exact HB.out | apply below_alloc | apply pw_below_drewN | apply below_drew1 | refine below_set ?_ GE211.out | refine below_set ?_ GE212.out) | exact HB.out))⟩; clear HO221 HO224 HO_212003 BK211 BK212 HB hq_; have HO221 := n0_; have HO224 := n1_; have HO_212003 := n2_; have BK211 := n3_; have BK212 := n4_; have HB := n5_; clear n0_ n1_ n2_ n3_ n4_ n5_))
                            have n0_ := Aside0.mk (Kd.V_drew HO_212003.out)
                            have n1_ := Aside0.mk (Kd.V_drew HO221.out)
                            have n2_ := Aside0.mk (Kd.R_drew HO224.out)
                            have n3_ := Aside0.mk (blk_drew BK211.out)
                            have n4_ := Aside0.mk (blk_drew BK212.out)
                            have n5_ := Aside0.mk (below_drew1 HB.out)
                            clear HO_212003
                            clear HO221
                            clear HO224
                            clear BK211
                            clear BK212
                            clear HB
                            have HO_212003 := n0_
                            have HO221 := n1_
                            have HO224 := n2_
                            have BK211 := n3_
                            have BK212 := n4_
                            have HB := n5_
                            clear n0_ n1_ n2_ n3_ n4_ n5_
                            refine start_ (n := 5) (S := fun w' => w'.cell? ⟨gb211, 0, none⟩ = some (.int .i64 a0_0) ∧ w'.cell? ⟨gb211, 1, none⟩ = some (.int .i64 (rd l1 (ji62))) ∧ w'.cell? ⟨gb211, 2, none⟩ = some (.int .u64 (IntKind.u64.wrap (a0_2 + 11400714819323198485))) ∧ w'.cell? ⟨gb211, 3, none⟩ = some (.slice Ao69 y222.length co69)) (ds := []) #[false, false, false, false, false] (by kernel_rfl) rfl rfl ⟨(blk_cell BK211.out 0).trans rfl, (blk_cell BK211.out 1).trans rfl, (blk_cell BK211.out 2).trans rfl, (blk_cell BK211.out 3).trans rfl⟩ (fun hHeld => ?_)
                            generalize w71.drew = w72 at HO_212003 HO221 HO224 BK211 BK212 HB hHeld ⊢
                            refine pure_ (i := 0) (N := some 74) (v := ?_) (a' := ?_) #[true, false, false, false, false] rfl rfl (by kernel_rfl) (fun _ _ _ h => h) (Or.inl ⟨by rfl, ?_⟩) ?_ ?_
                            rotate_left
                            · intro w'
                              go_simp
                              with_reducible rfl
                            rotate_left
                            · simp only [Act.put, List.setIfInBounds_toArray, List.set_cons_zero, List.set_cons_succ, i64_w, i32_w]
                              rfl
                            refine pure_ (i := 2) (N := some 4) (v := ?_) (a' := ?_) #[true, false, true, false, false] rfl rfl (by kernel_rfl) (fun _ _ _ h => h) (Or.inl ⟨by rfl, ?_⟩) ?_ ?_
                            rotate_left
                            · intro w'
                              go_simp
                              with_reducible rfl
                            rotate_left
                            · simp only [Act.put, List.setIfInBounds_toArray, List.set_cons_zero, List.set_cons_succ, i64_w, i32_w]
                              rfl
                            refine take_ (i := 1) (N := some 75) (v := ?_) (a' := ?_) #[true, true, true, false, false] rfl rfl (by kernel_rfl) (fun _ _ _ h => h) (Or.inl ⟨by rfl, ?_⟩) hHeld ?_ ?_
                            rotate_left
                            · rintro w' ⟨s0, s1, s2, s3⟩
                              go_simp
                              with_reducible rfl
                            rotate_left
                            · simp only [Act.put, List.setIfInBounds_toArray, List.set_cons_zero, List.set_cons_succ, i64_w, i32_w]
                              rfl
                            refine one_ (i := 3) (N := none) #[true, true, true, true, false] rfl rfl (by kernel_rfl) (by decide) (fun K hK => ?_)
                            have hs73 : w72.cell? ⟨gb212, 0, none⟩ = some (.int .i64 0) := (blk_cell BK212.out 0).trans rfl
                            have hfs73 := blk_frozen BK212.out 0
                            have hns73_0 := NB211_212.out
                            have hms73_0 := NB212_211.out
                            have hs74 : w72.cell? ⟨gb212, 1, none⟩ = some (.int .i64 0) := (blk_cell BK212.out 1).trans rfl
                            have hfs74 := blk_frozen BK212.out 1
                            have hns74_0 := NB211_212.out
                            have hms74_0 := NB212_211.out
                            have hs75 : w72.cell? ⟨gb212, 2, none⟩ = some (.int .u64 0) := (blk_cell BK212.out 2).trans rfl
                            have hfs75 := blk_frozen BK212.out 2
                            have hns75_0 := NB211_212.out
                            have hms75_0 := NB212_211.out
                            have hs76 : w72.cell? ⟨gb212, 3, none⟩ = some (.slice none 0 0) := (blk_cell BK212.out 3).trans rfl
                            have hfs76 := blk_frozen BK212.out 3
                            have hns76_0 := NB211_212.out
                            have hms76_0 := NB212_211.out
                            refine skip_ (w1 := ?_) (by rfl) rfl ?_ ?_
                            rotate_left
                            · go_simp
                              rfl
                            refine hK.out _ _ ⟨((cell_far (p := ⟨gb212, _, none⟩) NB211_212.out _).trans (((cell_far (p := ⟨gb212, _, none⟩) NB211_212.out _).trans (((cell_far (p := ⟨gb212, _, none⟩) NB211_212.out _).trans (((cell_far (p := ⟨gb212, _, none⟩) NB211_212.out _).trans (hHeld.1)))))))), ((cell_far (p := ⟨gb212, _, none⟩) NB211_212.out _).trans (((cell_far (p := ⟨gb212, _, none⟩) NB211_212.out _).trans (((cell_far (p := ⟨gb212, _, none⟩) NB211_212.out _).trans (((cell_far (p := ⟨gb212, _, none⟩) NB211_212.out _).trans (hHeld.2.1)))))))), ((cell_far (p := ⟨gb212, _, none⟩) NB211_212.out _).trans (((cell_far (p := ⟨gb212, _, none⟩) NB211_212.out _).trans (((cell_far (p := ⟨gb212, _, none⟩) NB211_212.out _).trans (((cell_far (p := ⟨gb212, _, none⟩) NB211_212.out _).trans (hHeld.2.2.1)))))))), ((cell_far (p := ⟨gb212, _, none⟩) NB211_212.out _).trans (((cell_far (p := ⟨gb212, _, none⟩) NB211_212.out _).trans (((cell_far (p := ⟨gb212, _, none⟩) NB211_212.out _).trans (((cell_far (p := ⟨gb212, _, none⟩) NB211_212.out _).trans (hHeld.2.2.2))))))))⟩ (fun hHeld => ?_)
                            clear hK K
                            refine pure_ (i := 4) (N := some 6) (v := ?_) (a' := ?_) #[true, true, true, true, true] rfl rfl (by kernel_rfl) (fun _ _ _ h => h) (Or.inl ⟨by rfl, ?_⟩) ?_ ?_
                            rotate_left
                            · intro w'
                              go_simp
                              with_reducible rfl
                            rotate_left
                            · simp only [Act.put, List.setIfInBounds_toArray, List.set_cons_zero, List.set_cons_succ, i64_w, i32_w]
                              rfl
                            refine done_ (by kernel_rfl) ?_
                            try go_wp2
                            refine bodyPost_ret (results_list (rs := [.tmp 4, .cell 5 25, .tmp 6]) rfl (by simp) (.tmp (.cell gb212 25 #[.int .i64 a0_0, .int .i64 (rd l1 (ji62)), .int .u64 (IntKind.u64.wrap (a0_2 + 11400714819323198485)), .slice Ao69 y222.length co69] (0, 0) _ rfl (by (with_reducible repeat (first | refine blk_drewN ?_ _ | refine blk_drew ?_ | refine blk_alloc ?_ _)); refine blk_put (cs := #[.int .i64 a0_0, .int .i64 (rd l1 (ji62)), .int .u64 (IntKind.u64.wrap (a0_2 + 11400714819323198485)), .slice none 0 0]) ?_ 3 _ rfl; (with_reducible repeat (first | refine blk_drewN ?_ _ | refine blk_drew ?_ | refine blk_alloc ?_ _)); refine blk_put (cs := #[.int .i64 a0_0, .int .i64 (rd l1 (ji62)), .int .u64 0, .slice none 0 0]) ?_ 2 _ rfl; (with_reducible repeat (first | refine blk_drewN ?_ _ | refine blk_drew ?_ | refine blk_alloc ?_ _)); refine blk_put (cs := #[.int .i64 a0_0, .int .i64 0, .int .u64 0, .slice none 0 0]) ?_ 1 _ rfl; (with_reducible repeat (first | refine blk_drewN ?_ _ | refine blk_drew ?_ | refine blk_alloc ?_ _)); refine blk_put (cs := #[.int .i64 0, .int .i64 0, .int .u64 0, .slice none 0 0]) ?_ 0 _ rfl; (with_reducible repeat (first | refine blk_drewN ?_ _ | refine blk_drew ?_ | refine blk_alloc ?_ _)); exact BK212.out) Try.underlying25 rfl (by kernel_rfl) (.tmp .nil)))) rfl ?_
                            exact ⟨_, by first | rfl | (simp [errW_none, errW_some] <;> rfl) | (simp only [← hji62]; first | rfl | (simp [errW_none, errW_some] <;> rfl)) | (simp [*, errW_none, errW_some] <;> rfl), Kd.V_mono (Kd.R_V (by (with_reducible repeat (first | apply Kd.R_alloc | apply Kd.R_drewN | apply Kd.R_drew)); exact Kd.R_mono (Kd.R_far (p := ⟨gb212, 3, none⟩) (Kd.R_far (p := ⟨gb212, 2, none⟩) (Kd.R_far (p := ⟨gb212, 1, none⟩) (Kd.R_far (p := ⟨gb212, 0, none⟩) (Kd.R_types HO224.out BK212.out (by decide)) (fun _ hk => hk.2) (.int .i64 a0_0)) (fun _ hk => hk.2) (.int .i64 (rd l1 (ji62)))) (fun _ hk => hk.2) (.int .u64 (IntKind.u64.wrap (a0_2 + 11400714819323198485)))) (fun _ hk => hk.2) (.slice Ao69 y222.length co69)) (fun _ hk => hk.1))) (fun k_ hk => by first | exact ⟨(.inr (hk.1)), hk.2⟩ | exact (.inr (hk))), by repeat (first | (with_reducible first | exact HB.out | apply below_alloc | apply pw_below_drewN | apply below_drew1 | refine below_set ?_ GE211.out | refine below_set ?_ GE212.out) | exact HB.out)⟩
                          · rw [if_neg c64] at H
                            exact absurd H (by simp)
                        · rw [if_neg c63] at H
                          exact absurd H (by simp)
                    · rw [if_neg c59] at H
                      have c59b0 : (a0_0 == 3) = false := beq_eq_false_iff_ne.mpr c59
                      have c59b1 : (a0_0 != 3) = true := bne_iff_ne.mpr c59
                      simp only [Option.some.injEq, Prod.mk.injEq] at H
                      obtain ⟨rfl, rfl, rfl, rfl, rfl, rfl⟩ := H
                      have hnb77 := NB211_212.out
                      have hnc77 := NB212_211.out
                      have hcz78_0 : wc.cell? ⟨gb211, 0, none⟩ = some (.int .i64 a0_0) := (blk_cell BK211.out 0).trans rfl
                      have hcz78_1 : wc.cell? ⟨gb211, 1, none⟩ = some (.int .i64 a0_1) := (blk_cell BK211.out 1).trans rfl
                      have hcz78_2 : wc.cell? ⟨gb211, 2, none⟩ = some (.int .u64 a0_2) := (blk_cell BK211.out 2).trans rfl
                      have hcz78_3 : wc.cell? ⟨gb211, 3, none⟩ = some (.slice A0_3 l0_3.length c0_3) := (blk_cell BK211.out 3).trans rfl
                      have hfz78_0 := blk_frozen BK211.out 0
                      have hfz78_1 := blk_frozen BK211.out 1
                      have hfz78_2 := blk_frozen BK211.out 2
                      have hfz78_3 := blk_frozen BK211.out 3
                      have p216 : 0 ≤ (0 : Int) := (by omega)
                      have q216 : 0 < (l0_3.length : Int) := of_decide_eq_true (by first | (with_reducible assumption) | assumption)
                      obtain ⟨ad216, e216, hx216_0⟩ := Kd.at_int (Kd.V_reads' HO_212003.out).2.2 0 p216 q216
                      cases e216
                      have qi216 : (0 < l0_3.length) = True := eq_true (by omega)
                      (try rw [show ((0 : Int)).toNat = 0 from rfl] at hx216_0)
                      (try rw [Addr.add_zero'] at hx216_0)
                      replace p216 := eq_true p216
                      replace q216 := eq_true q216
                      have q79 : (1 : Int) ≤ ((l0_3.length : Int) : Int) := of_decide_eq_true (by first | (with_reducible assumption) | assumption)
                      obtain ⟨i079, hi079, _, hsz79, _⟩ := info_parts info3
                      have hroom79 : l0_3.length ≤ c0_3 := (Kd.V_reads' HO_212003.out).2.1
                      have hC79 : Kd.F (Kd.int .i64) _ _ (some ad216) l0_3.length l0_3 := (Kd.V_at (base := w.heap.size) HO_212003.out).2.2
                      have hcut79 := cut_from (P := Try.prog) 23 3 .i64 Try.underlying23 hi079 1 hsz79 (some ad216) l0_3.length c0_3 1 (by omega) q79
                      have hr79 := Kd.F_cut (m := (1 : Int).toNat) (c := c0_3) hC79 (by omega) hroom79
                      obtain ⟨A79, hA79⟩ : ∃ A1, A1 = (if c0_3 = (1 : Int).toNat then (some ad216) else ((some ad216) : Option Addr).map (·.add ((1 : Int).toNat * 1))) := ⟨_, rfl⟩
                      obtain ⟨c79, hc79⟩ : ∃ c1, c1 = c0_3 - (1 : Int).toNat := ⟨_, rfl⟩
                      have hy79 : y217.length = l0_3.length - (1 : Int).toNat := (by rw [Ny217.out, List.length_drop] <;> omega)
                      rw [show (l0_3).drop (1 : Int).toNat = y217 from Ny217.out.symm] at hr79
                      replace hr79 : Kd.F (Kd.int .i64) _ _ A79 y217.length y217 := (by rw [hA79]; exact hr79)
                      rw [← hy79, ← hA79, ← hc79] at hcut79
                      have HO221 := Aside0.mk (show Kd.V (Kd.int .i64) 3 _ w.heap.size _ (.slice A79 y217.length c79) y217 from Kd.V_mk (by rw [hy79, hc79]; exact Nat.sub_le_sub_right hroom79 _) hr79)
                      have HC221 := Aside0.mk (show y217.length ≤ c79 from by rw [hy79, hc79]; exact Nat.sub_le_sub_right hroom79 _)
                      clear hr79 hC79 hroom79 hi079 hsz79 hc79
                      have KY79 := Aside0.mk hy79
                      have KA79 := Aside0.mk hA79
                      clear hy79 hA79
                      replace q79 := eq_true q79
                      try go_wp2_with (first | ((with_reducible refine gate_builtin (b := .append) (xs := #[.tmp 38, .tmp 41]) rfl ?_); (try (refine gate_guard (by rfl) ?_; dsimp only)); at_builtin; refine Kd.R_append_rows (Kd.int .i64) (w0 := w) w.heap.size rfl (.tmp 38) (.tmp 41) 23 3 (.int .i64 0) 8 rfl Try.underlying23 info3 rfl (by decide) (by omega) (.slice none 0 0) ([] : List Int) y217 _ _ _ (fun k_ => (w.heap.size ≤ k_)) (fun _ => False) rfl rfl ?aO ?aR (fun _ _ h => h) (fun _ h => h.elim) ?aF ?aB ?aS ?aL ?_; (case aR => repeat (first | exact (Kd.V_reads' HO221.out).2.2 | (with_reducible refine Kd.C_alloc ?_ _) | (with_reducible refine Kd.C_drewN ?_ _) | (with_reducible refine Kd.C_drew ?_))); (case aB => exact (by repeat (first | (with_reducible first | exact HB.out | apply below_alloc | apply pw_below_drewN | apply below_drew1 | refine below_set ?_ GE211.out | refine below_set ?_ GE212.out) | exact HB.out))); (case aF => exact (fun k_ hk => (Nat.le_trans (below_size (by repeat (first | (with_reducible first | exact HB.out | apply below_alloc | apply pw_below_drewN | apply below_drew1 | refine below_set ?_ GE211.out | refine below_set ?_ GE212.out) | exact HB.out))) hk))); (case aO => exact ((Kd.R_nil _ _ _ _ (fun k_ => (w.heap.size ≤ k_))))); (case aS => exact (below_size (by repeat (first | (with_reducible first | exact HB.out | apply below_alloc | apply pw_below_drewN | apply below_drew1 | refine below_set ?_ GE211.out | refine below_set ?_ GE212.out) | exact HB.out)))); (case aL => have := LMc23.out; omega); intro v223 w80 ho hb hg hat; rw [← Ny222.out] at ho; have n0_ := Aside0.mk (Kd.V_afterv (Kd.V_apart_nil (by (with_reducible repeat (first | apply Kd.V_alloc | apply Kd.V_drewN | apply Kd.V_drew)); exact HO_212003.out)) hg hat); have n1_ := Aside0.mk (blk_grown (g := gb211) (o := .cells #[.int .i64 a0_0, .int .i64 a0_1, .int .u64 a0_2, .slice (some ad216) l0_3.length c0_3] 25 (0, 0)) (by (with_reducible repeat (first | refine blk_drewN ?_ _ | refine blk_drew ?_ | refine blk_alloc ?_ _)); exact BK211.out) hg (by simp [Value.ownBlock])); have n2_ := Aside0.mk (blk_grown (g := gb212) (o := .cells #[.int .i64 0, .int .i64 0, .int .u64 0, .slice none 0 0] 25 (0, 0)) (by (with_reducible repeat (first | refine blk_drewN ?_ _ | refine blk_drew ?_ | refine blk_alloc ?_ _)); exact BK212.out) hg (by simp [Value.ownBlock])); have n3_ := Aside0.mk (Kd.V_afterv (Kd.V_apart_nil (by (with_reducible repeat (first | apply Kd.V_alloc | apply Kd.V_drewN | apply Kd.V_drew)); exact HO221.out)) hg hat); have n4_ := Aside0.mk (hb); have n5_ := Aside0.mk (ho); clear HO_212003; clear BK211; clear BK212; clear HO221; clear HB; have HO_212003 := n0_; have BK211 := n1_; have BK212 := n2_; have HO221 := n3_; have HB := n4_; have HO224 := n5_; clear n0_ n1_ n2_ n3_ n4_ n5_; clear ho hb hg hat; obtain ⟨Ao81, co81, eo81⟩ := Kd.R_slice HO224.out; subst eo81; have hcz82_0 : w80.cell? ⟨gb211, 0, none⟩ = some (.int .i64 a0_0) := (blk_cell BK211.out 0).trans rfl; have hcz82_1 : w80.cell? ⟨gb211, 1, none⟩ = some (.int .i64 a0_1) := (blk_cell BK211.out 1).trans rfl; have hcz82_2 : w80.cell? ⟨gb211, 2, none⟩ = some (.int .u64 a0_2) := (blk_cell BK211.out 2).trans rfl; have hcz82_3 : w80.cell? ⟨gb211, 3, none⟩ = some (.slice (some ad216) l0_3.length c0_3) := (blk_cell BK211.out 3).trans rfl; have hfz82_0 := blk_frozen BK211.out 0; have hfz82_1 := blk_frozen BK211.out 1; have hfz82_2 := blk_frozen BK211.out 2; have hfz82_3 := blk_frozen BK211.out 3))
                      have n0_ : Aside0 (Kd.V (Kd.int .i64) 3 ((w80.setCell ⟨gb211, 3, none⟩ (.slice Ao81 y222.length co81)).setCell ⟨gb211, 1, none⟩ (.int .i64 t215)) w.heap.size (fun k_ => (P0_3_ k_ ∨ w.heap.size ≤ k_) ∧ some k_ ≠ (.slice Ao81 y222.length co81 : Value).ownBlock ∧ k_ ≠ gb211 ∧ k_ ≠ gb212) (.slice (some ad216) l0_3.length c0_3) l0_3) := ⟨by (with_reducible repeat (first | apply Kd.V_alloc | apply Kd.V_drewN | apply Kd.V_drew)); exact Kd.V_mono (Kd.V_far (p := ⟨gb211, 1, none⟩) (Kd.V_far (p := ⟨gb211, 3, none⟩) (Kd.V_mono HO_212003.out (fun k_ hk => (⟨hk, hk.1.2.1⟩ : _ ∧ k_ ≠ gb211))) (fun _ hk => hk.2) (.slice Ao81 y222.length co81)) (fun _ hk => hk.2) (.int .i64 t215)) (fun _ hk => (And.intro (hk.1.1.1) ((And.intro (hk.1.2) ((And.intro (hk.1.1.2.1) (hk.1.1.2.2)))))))⟩
                      have n1_ : Aside0 (Kd.V (Kd.int .i64) 3 ((w80.setCell ⟨gb211, 3, none⟩ (.slice Ao81 y222.length co81)).setCell ⟨gb211, 1, none⟩ (.int .i64 t215)) w.heap.size (fun k_ => (P0_3_ k_ ∨ w.heap.size ≤ k_) ∧ some k_ ≠ (.slice Ao81 y222.length co81 : Value).ownBlock ∧ k_ ≠ gb211 ∧ k_ ≠ gb212) (.slice A79 y217.length c79) y217) := ⟨by (with_reducible repeat (first | apply Kd.V_alloc | apply Kd.V_drewN | apply Kd.V_drew)); exact Kd.V_mono (Kd.V_far (p := ⟨gb211, 1, none⟩) (Kd.V_far (p := ⟨gb211, 3, none⟩) (Kd.V_mono HO221.out (fun k_ hk => (⟨hk, hk.1.2.1⟩ : _ ∧ k_ ≠ gb211))) (fun _ hk => hk.2) (.slice Ao81 y222.length co81)) (fun _ hk => hk.2) (.int .i64 t215)) (fun _ hk => (And.intro (hk.1.1.1) ((And.intro (hk.1.2) ((And.intro (hk.1.1.2.1) (hk.1.1.2.2)))))))⟩
                      have n2_ : Aside0 (Kd.R (Kd.int .i64) 3 ((w80.setCell ⟨gb211, 3, none⟩ (.slice Ao81 y222.length co81)).setCell ⟨gb211, 1, none⟩ (.int .i64 t215)) w.heap.size (fun k_ => (w.heap.size ≤ k_)) (.slice Ao81 y222.length co81) y222) := ⟨by (with_reducible repeat (first | apply Kd.R_alloc | apply Kd.R_drewN | apply Kd.R_drew)); exact Kd.R_mono (Kd.R_far (p := ⟨gb211, 1, none⟩) (Kd.R_far (p := ⟨gb211, 3, none⟩) (Kd.R_types HO224.out BK211.out (by decide)) (fun _ hk => hk.2) (.slice Ao81 y222.length co81)) (fun _ hk => hk.2) (.int .i64 t215)) (fun _ hk => hk.1)⟩
                      have n3_ : Aside0 (((w80.setCell ⟨gb211, 3, none⟩ (.slice Ao81 y222.length co81)).setCell ⟨gb211, 1, none⟩ (.int .i64 t215)).heap[gb211]? = some (.cells #[.int .i64 a0_0, .int .i64 t215, .int .u64 a0_2, .slice Ao81 y222.length co81] 25 (0, 0))) := ⟨by (with_reducible repeat (first | refine blk_drewN ?_ _ | refine blk_drew ?_ | refine blk_alloc ?_ _)); refine blk_put (cs := #[.int .i64 a0_0, .int .i64 a0_1, .int .u64 a0_2, .slice Ao81 y222.length co81]) ?_ 1 _ rfl; (with_reducible repeat (first | refine blk_drewN ?_ _ | refine blk_drew ?_ | refine blk_alloc ?_ _)); refine blk_put (cs := #[.int .i64 a0_0, .int .i64 a0_1, .int .u64 a0_2, .slice (some ad216) l0_3.length c0_3]) ?_ 3 _ rfl; (with_reducible repeat (first | refine blk_drewN ?_ _ | refine blk_drew ?_ | refine blk_alloc ?_ _)); exact BK211.out⟩
                      have n4_ : Aside0 (((w80.setCell ⟨gb211, 3, none⟩ (.slice Ao81 y222.length co81)).setCell ⟨gb211, 1, none⟩ (.int .i64 t215)).heap[gb212]? = some (.cells #[.int .i64 0, .int .i64 0, .int .u64 0, .slice none 0 0] 25 (0, 0))) := ⟨by (with_reducible repeat (first | refine blk_drewN ?_ _ | refine blk_drew ?_ | refine blk_alloc ?_ _)); refine blk_far ?_ NB212_211.out _; (with_reducible repeat (first | refine blk_drewN ?_ _ | refine blk_drew ?_ | refine blk_alloc ?_ _)); refine blk_far ?_ NB212_211.out _; (with_reducible repeat (first | refine blk_drewN ?_ _ | refine blk_drew ?_ | refine blk_alloc ?_ _)); exact BK212.out⟩
                      have n5_ : Aside0 (Below w.heap.size w ((w80.setCell ⟨gb211, 3, none⟩ (.slice Ao81 y222.length co81)).setCell ⟨gb211, 1, none⟩ (.int .i64 t215))) := ⟨by repeat (first | (with_reducible first | exact HB.out | apply below_alloc | apply pw_below_drewN | apply below_drew1 | refine below_set ?_ GE211.out | refine below_set ?_ GE212.out) | exact HB.out)⟩
                      (try clear HO_212003)
                      (try clear HO221)
                      (try clear HO224)
                      (try clear BK211)
                      (try clear BK212)
                      (try clear HB)
                      (try simp only [fk_setCell_drewN, World.drewN_drewN])
                      generalize ((w80.setCell ⟨gb211, 3, none⟩ (.slice Ao81 y222.length co81)).setCell ⟨gb211, 1, none⟩ (.int .i64 t215)) = w83 at n0_ n1_ n2_ n3_ n4_ n5_ ⊢
                      have HO_212003 := n0_
                      have HO221 := n1_
                      have HO224 := n2_
                      have BK211 := n3_
                      have BK212 := n4_
                      have HB := n5_
                      clear n0_ n1_ n2_ n3_ n4_ n5_
                      have n0_ := Aside0.mk (Kd.V_drew HO_212003.out)
                      have n1_ := Aside0.mk (Kd.V_drew HO221.out)
                      have n2_ := Aside0.mk (Kd.R_drew HO224.out)
                      have n3_ := Aside0.mk (blk_drew BK211.out)
                      have n4_ := Aside0.mk (blk_drew BK212.out)
                      have n5_ := Aside0.mk (below_drew1 HB.out)
                      clear HO_212003
                      clear HO221
                      clear HO224
                      clear BK211
                      clear BK212
                      clear HB
                      have HO_212003 := n0_
                      have HO221 := n1_
                      have HO224 := n2_
                      have BK211 := n3_
                      have BK212 := n4_
                      have HB := n5_
                      clear n0_ n1_ n2_ n3_ n4_ n5_
                      refine start_ (n := 5) (S := fun w' => w'.cell? ⟨gb211, 0, none⟩ = some (.int .i64 a0_0) ∧ w'.cell? ⟨gb211, 1, none⟩ = some (.int .i64 t215) ∧ w'.cell? ⟨gb211, 2, none⟩ = some (.int .u64 a0_2) ∧ w'.cell? ⟨gb211, 3, none⟩ = some (.slice Ao81 y222.length co81)) (ds := []) #[false, false, false, false, false] (by kernel_rfl) rfl rfl ⟨(blk_cell BK211.out 0).trans rfl, (blk_cell BK211.out 1).trans rfl, (blk_cell BK211.out 2).trans rfl, (blk_cell BK211.out 3).trans rfl⟩ (fun hHeld => ?_)
                      generalize w83.drew = w84 at HO_212003 HO221 HO224 BK211 BK212 HB hHeld ⊢
                      refine pure_ (i := 0) (N := some 74) (v := ?_) (a' := ?_) #[true, false, false, false, false] rfl rfl (by kernel_rfl) (fun _ _ _ h => h) (Or.inl ⟨by rfl, ?_⟩) ?_ ?_
                      rotate_left
                      · intro w'
                        go_simp
                        with_reducible rfl
                      rotate_left
                      · simp only [Act.put, List.setIfInBounds_toArray, List.set_cons_zero, List.set_cons_succ, i64_w, i32_w]
                        rfl
                      refine pure_ (i := 2) (N := some 4) (v := ?_) (a' := ?_) #[true, false, true, false, false] rfl rfl (by kernel_rfl) (fun _ _ _ h => h) (Or.inl ⟨by rfl, ?_⟩) ?_ ?_
                      rotate_left
                      · intro w'
                        go_simp
                        with_reducible rfl
                      rotate_left
                      · simp only [Act.put, List.setIfInBounds_toArray, List.set_cons_zero, List.set_cons_succ, i64_w, i32_w]
                        rfl
                      refine take_ (i := 1) (N := some 75) (v := ?_) (a' := ?_) #[true, true, true, false, false] rfl rfl (by kernel_rfl) (fun _ _ _ h => h) (Or.inl ⟨by rfl, ?_⟩) hHeld ?_ ?_
                      rotate_left
                      · rintro w' ⟨s0, s1, s2, s3⟩
                        go_simp
                        with_reducible rfl
                      rotate_left
                      · simp only [Act.put, List.setIfInBounds_toArray, List.set_cons_zero, List.set_cons_succ, i64_w, i32_w]
                        rfl
                      refine one_ (i := 3) (N := none) #[true, true, true, true, false] rfl rfl (by kernel_rfl) (by decide) (fun K hK => ?_)
                      have hs85 : w84.cell? ⟨gb212, 0, none⟩ = some (.int .i64 0) := (blk_cell BK212.out 0).trans rfl
                      have hfs85 := blk_frozen BK212.out 0
                      have hns85_0 := NB211_212.out
                      have hms85_0 := NB212_211.out
                      have hs86 : w84.cell? ⟨gb212, 1, none⟩ = some (.int .i64 0) := (blk_cell BK212.out 1).trans rfl
                      have hfs86 := blk_frozen BK212.out 1
                      have hns86_0 := NB211_212.out
                      have hms86_0 := NB212_211.out
                      have hs87 : w84.cell? ⟨gb212, 2, none⟩ = some (.int .u64 0) := (blk_cell BK212.out 2).trans rfl
                      have hfs87 := blk_frozen BK212.out 2
                      have hns87_0 := NB211_212.out
                      have hms87_0 := NB212_211.out
                      have hs88 : w84.cell? ⟨gb212, 3, none⟩ = some (.slice none 0 0) := (blk_cell BK212.out 3).trans rfl
                      have hfs88 := blk_frozen BK212.out 3
                      have hns88_0 := NB211_212.out
                      have hms88_0 := NB212_211.out
                      refine skip_ (w1 := ?_) (by rfl) rfl ?_ ?_
                      rotate_left
                      · go_simp
                        rfl
                      refine hK.out _ _ ⟨((cell_far (p := ⟨gb212, _, none⟩) NB211_212.out _).trans (((cell_far (p := ⟨gb212, _, none⟩) NB211_212.out _).trans (((cell_far (p := ⟨gb212, _, none⟩) NB211_212.out _).trans (((cell_far (p := ⟨gb212, _, none⟩) NB211_212.out _).trans (hHeld.1)))))))), ((cell_far (p := ⟨gb212, _, none⟩) NB211_212.out _).trans (((cell_far (p := ⟨gb212, _, none⟩) NB211_212.out _).trans (((cell_far (p := ⟨gb212, _, none⟩) NB211_212.out _).trans (((cell_far (p := ⟨gb212, _, none⟩) NB211_212.out _).trans (hHeld.2.1)))))))), ((cell_far (p := ⟨gb212, _, none⟩) NB211_212.out _).trans (((cell_far (p := ⟨gb212, _, none⟩) NB211_212.out _).trans (((cell_far (p := ⟨gb212, _, none⟩) NB211_212.out _).trans (((cell_far (p := ⟨gb212, _, none⟩) NB211_212.out _).trans (hHeld.2.2.1)))))))), ((cell_far (p := ⟨gb212, _, none⟩) NB211_212.out _).trans (((cell_far (p := ⟨gb212, _, none⟩) NB211_212.out _).trans (((cell_far (p := ⟨gb212, _, none⟩) NB211_212.out _).trans (((cell_far (p := ⟨gb212, _, none⟩) NB211_212.out _).trans (hHeld.2.2.2))))))))⟩ (fun hHeld => ?_)
                      clear hK K
                      refine pure_ (i := 4) (N := some 6) (v := ?_) (a' := ?_) #[true, true, true, true, true] rfl rfl (by kernel_rfl) (fun _ _ _ h => h) (Or.inl ⟨by rfl, ?_⟩) ?_ ?_
                      rotate_left
                      · intro w'
                        go_simp
                        with_reducible rfl
                      rotate_left
                      · simp only [Act.put, List.setIfInBounds_toArray, List.set_cons_zero, List.set_cons_succ, i64_w, i32_w]
                        rfl
                      refine done_ (by kernel_rfl) ?_
                      try go_wp2
                      refine bodyPost_ret (results_list (rs := [.tmp 4, .cell 5 25, .tmp 6]) rfl (by simp) (.tmp (.cell gb212 25 #[.int .i64 a0_0, .int .i64 t215, .int .u64 a0_2, .slice Ao81 y222.length co81] (0, 0) _ rfl (by (with_reducible repeat (first | refine blk_drewN ?_ _ | refine blk_drew ?_ | refine blk_alloc ?_ _)); refine blk_put (cs := #[.int .i64 a0_0, .int .i64 t215, .int .u64 a0_2, .slice none 0 0]) ?_ 3 _ rfl; (with_reducible repeat (first | refine blk_drewN ?_ _ | refine blk_drew ?_ | refine blk_alloc ?_ _)); refine blk_put (cs := #[.int .i64 a0_0, .int .i64 t215, .int .u64 0, .slice none 0 0]) ?_ 2 _ rfl; (with_reducible repeat (first | refine blk_drewN ?_ _ | refine blk_drew ?_ | refine blk_alloc ?_ _)); refine blk_put (cs := #[.int .i64 a0_0, .int .i64 0, .int .u64 0, .slice none 0 0]) ?_ 1 _ rfl; (with_reducible repeat (first | refine blk_drewN ?_ _ | refine blk_drew ?_ | refine blk_alloc ?_ _)); refine blk_put (cs := #[.int .i64 0, .int .i64 0, .int .u64 0, .slice none 0 0]) ?_ 0 _ rfl; (with_reducible repeat (first | refine blk_drewN ?_ _ | refine blk_drew ?_ | refine blk_alloc ?_ _)); exact BK212.out) Try.underlying25 rfl (by kernel_rfl) (.tmp .nil)))) rfl ?_
                      exact ⟨_, by first | rfl | (simp [errW_none, errW_some] <;> rfl) | (simp [*, errW_none, errW_some] <;> rfl), Kd.V_mono (Kd.R_V (by (with_reducible repeat (first | apply Kd.R_alloc | apply Kd.R_drewN | apply Kd.R_drew)); exact Kd.R_mono (Kd.R_far (p := ⟨gb212, 3, none⟩) (Kd.R_far (p := ⟨gb212, 2, none⟩) (Kd.R_far (p := ⟨gb212, 1, none⟩) (Kd.R_far (p := ⟨gb212, 0, none⟩) (Kd.R_types HO224.out BK212.out (by decide)) (fun _ hk => hk.2) (.int .i64 a0_0)) (fun _ hk => hk.2) (.int .i64 t215)) (fun _ hk => hk.2) (.int .u64 a0_2)) (fun _ hk => hk.2) (.slice Ao81 y222.length co81)) (fun _ hk => hk.1))) (fun k_ hk => by first | exact ⟨(.inr (hk.1)), hk.2⟩ | exact (.inr (hk))), by repeat (first | (with_reducible first | exact HB.out | apply below_alloc | apply pw_below_drewN | apply below_drew1 | refine below_set ?_ GE211.out | refine below_set ?_ GE212.out) | exact HB.out)⟩
                · rw [if_neg c23] at H
                  exact absurd H (by simp)
              · rw [if_neg c22] at H
                exact absurd H (by simp)
            · rw [if_neg c21] at H
              exact absurd H (by simp)
          · replace c20 := Bool.eq_false_iff.mpr c20
            subst c20
            have H1 : (if a0_0 = 3 then ((jobshellref32_Mix.f (IntKind.u64.wrap (a0_2 + 11400714819323198485))).bind fun t230 => (if (IntKind.u64.wrap ((l1.length : Int))) = 0 then (none) else (if 0 ≤ (wrap64 (Int.tmod t230 (IntKind.u64.wrap ((l1.length : Int))))) then (if (wrap64 (Int.tmod t230 (IntKind.u64.wrap ((l1.length : Int))))) < (l1.length : Int) then (some (rd l1 (wrap64 (Int.tmod t230 (IntKind.u64.wrap ((l1.length : Int))))), a0_0, rd l1 (wrap64 (Int.tmod t230 (IntKind.u64.wrap ((l1.length : Int))))), IntKind.u64.wrap (a0_2 + 11400714819323198485), l0_3, 0)) else (none)) else (none)))) else (some (t215, a0_0, t215, a0_2, l0_3, 0))) = some (r1, r2, r3, r4, r5, r6) := by rw [if_neg (show ¬ (false = true) by decide)] at H; exact H
            clear H
            have H := H1
            clear H1
            by_cases c89 : a0_0 = 3
            · rw [if_pos c89] at H
              have c89b0 : (a0_0 == 3) = true := beq_iff_eq.mpr c89
              have c89b1 : (a0_0 != 3) = false := bne_eq_false_iff_eq.mpr c89
              clear c89
              replace H := Option.bind_eq_some_iff.mp H
              obtain ⟨t230, A900, H⟩ := H
              replace H : (if (IntKind.u64.wrap ((l1.length : Int))) = 0 then (none) else (if 0 ≤ (wrap64 (Int.tmod t230 (IntKind.u64.wrap ((l1.length : Int))))) then (if (wrap64 (Int.tmod t230 (IntKind.u64.wrap ((l1.length : Int))))) < (l1.length : Int) then (some (rd l1 (wrap64 (Int.tmod t230 (IntKind.u64.wrap ((l1.length : Int))))), a0_0, rd l1 (wrap64 (Int.tmod t230 (IntKind.u64.wrap ((l1.length : Int))))), IntKind.u64.wrap (a0_2 + 11400714819323198485), l0_3, 0)) else (none)) else (none))) = some (r1, r2, r3, r4, r5, r6) := H
              have A90 := Aside0.mk A900
              clear A900
              by_cases c91 : (IntKind.u64.wrap ((l1.length : Int))) = 0
              · rw [if_pos c91] at H
                exact absurd H (by simp)
              · rw [if_neg c91] at H
                have c91b0 : ((IntKind.u64.wrap ((l1.length : Int))) == 0) = false := beq_eq_false_iff_ne.mpr c91
                have c91b1 : ((IntKind.u64.wrap ((l1.length : Int))) != 0) = true := bne_iff_ne.mpr c91
                obtain ⟨ji92, hji92⟩ : ∃ j_ : Int, (wrap64 (Int.tmod t230 (IntKind.u64.wrap ((l1.length : Int))))) = j_ := ⟨_, rfl⟩
                replace H : (if 0 ≤ (ji92) then (if (ji92) < (l1.length : Int) then (some (rd l1 (ji92), a0_0, rd l1 (ji92), IntKind.u64.wrap (a0_2 + 11400714819323198485), l0_3, 0)) else (none)) else (none)) = some (r1, r2, r3, r4, r5, r6) := by first | (rw [hji92] at H; exact H) | (simp only [hji92] at H ⊢; exact H)
                (try rw [hji92] at A90)
                have hji92w : (IntKind.i64.wrap (Int.tmod t230 (IntKind.u64.wrap ((l1.length : Int))))) = ji92 := (i64_w _).trans hji92
                by_cases c93 : 0 ≤ (ji92)
                · rw [if_pos c93] at H
                  have c93b0 : decide (0 ≤ (ji92)) = true := decide_eq_true c93
                  clear c93
                  by_cases c94 : (ji92) < (l1.length : Int)
                  · rw [if_pos c94] at H
                    have c94b0 : decide ((ji92) < (l1.length : Int)) = true := decide_eq_true c94
                    clear c94
                    simp only [Option.some.injEq, Prod.mk.injEq] at H
                    obtain ⟨rfl, rfl, rfl, rfl, rfl, rfl⟩ := H
                    have hnb95 := NB211_212.out
                    have hnc95 := NB212_211.out
                    have hcz96_0 : wc.cell? ⟨gb211, 0, none⟩ = some (.int .i64 a0_0) := (blk_cell BK211.out 0).trans rfl
                    have hcz96_1 : wc.cell? ⟨gb211, 1, none⟩ = some (.int .i64 a0_1) := (blk_cell BK211.out 1).trans rfl
                    have hcz96_2 : wc.cell? ⟨gb211, 2, none⟩ = some (.int .u64 a0_2) := (blk_cell BK211.out 2).trans rfl
                    have hcz96_3 : wc.cell? ⟨gb211, 3, none⟩ = some (.slice A0_3 l0_3.length c0_3) := (blk_cell BK211.out 3).trans rfl
                    have hfz96_0 := blk_frozen BK211.out 0
                    have hfz96_1 := blk_frozen BK211.out 1
                    have hfz96_2 := blk_frozen BK211.out 2
                    have hfz96_3 := blk_frozen BK211.out 3
                    try go_wp2_with (first | ((with_reducible refine gate_callee (f := 21) rfl ?_); refine goesL_ (some 64) rfl rfl Try.func21 (by kernel_rfl) rfl #[.int .u64 (IntKind.u64.wrap (a0_2 + 11400714819323198485))] rfl (by (try simp only [List.map_toArray, List.map_cons, List.map_nil]); first | done | rfl | (simp only [List.length_drop, List.length_take]; rfl)) ?_; (with_reducible refine (jobshellref32_Mix.calls (IntKind.u64.wrap (a0_2 + 11400714819323198485)) t230 _ A90.out).mono ?_); rintro e w' ⟨rfl, ⟨nd, rfl⟩⟩; refine ⟨_, rfl, ?_⟩; have p231 : 0 ≤ ((ji92) : Int) := of_decide_eq_true (by first | (with_reducible assumption) | assumption); have q231 : (ji92) < (l1.length : Int) := of_decide_eq_true (by first | (with_reducible assumption) | assumption); obtain ⟨ad231, e231, hx231_0⟩ := Kd.at_int HR1.out (ji92) p231 q231; cases e231; have hn231_0 : ad231.block ≠ gb211 := Nat.ne_of_lt (Nat.lt_of_lt_of_le (by have := World.block_lt_of_cell? _ _ hx231_0; first | rwa [add_block] at this | exact this) GW211.out); replace hx231_0 := (HB.out.cell (World.block_lt_of_cell? w _ hx231_0)).trans hx231_0; replace hx231_0 := (cell_far (p := ⟨gb211, 2, none⟩) (by first | (rw [add_block]; exact hn231_0) | (show (Addr.add _ _).block ≠ _; rw [add_block]; exact hn231_0) | exact hn231_0) (.int .u64 (IntKind.u64.wrap (a0_2 + 11400714819323198485)))).trans hx231_0; clear hn231_0; replace p231 := eq_true p231; replace q231 := eq_true q231))
                    have n0_ : Aside0 (Kd.V (Kd.int .i64) 3 ((wc.setCell ⟨gb211, 2, none⟩ (.int .u64 (IntKind.u64.wrap (a0_2 + 11400714819323198485)))).setCell ⟨gb211, 1, none⟩ (.int .i64 (rd l1 (ji92)))) w.heap.size (fun k_ => (P0_3_ k_ ∨ w.heap.size ≤ k_) ∧ k_ ≠ gb211 ∧ k_ ≠ gb212) (.slice A0_3 l0_3.length c0_3) l0_3) := ⟨by (with_reducible repeat (first | apply Kd.V_alloc | apply Kd.V_drewN | apply Kd.V_drew)); exact Kd.V_mono (Kd.V_far (p := ⟨gb211, 1, none⟩) (Kd.V_far (p := ⟨gb211, 2, none⟩) (Kd.V_mono HO_212003.out (fun k_ hk => (⟨hk, hk.2.1⟩ : _ ∧ k_ ≠ gb211))) (fun _ hk => hk.2) (.int .u64 (IntKind.u64.wrap (a0_2 + 11400714819323198485)))) (fun _ hk => hk.2) (.int .i64 (rd l1 (ji92)))) (fun _ hk => (And.intro (hk.1.1) ((And.intro (hk.1.2.1) (hk.1.2.2)))))⟩
                    have n1_ : Aside0 (((wc.setCell ⟨gb211, 2, none⟩ (.int .u64 (IntKind.u64.wrap (a0_2 + 11400714819323198485)))).setCell ⟨gb211, 1, none⟩ (.int .i64 (rd l1 (ji92)))).heap[gb211]? = some (.cells #[.int .i64 a0_0, .int .i64 (rd l1 (ji92)), .int .u64 (IntKind.u64.wrap (a0_2 + 11400714819323198485)), .slice A0_3 l0_3.length c0_3] 25 (0, 0))) := ⟨by (with_reducible repeat (first | refine blk_drewN ?_ _ | refine blk_drew ?_ | refine blk_alloc ?_ _)); refine blk_put (cs := #[.int .i64 a0_0, .int .i64 a0_1, .int .u64 (IntKind.u64.wrap (a0_2 + 11400714819323198485)), .slice A0_3 l0_3.length c0_3]) ?_ 1 _ rfl; (with_reducible repeat (first | refine blk_drewN ?_ _ | refine blk_drew ?_ | refine blk_alloc ?_ _)); refine blk_put (cs := #[.int .i64 a0_0, .int .i64 a0_1, .int .u64 a0_2, .slice A0_3 l0_3.length c0_3]) ?_ 2 _ rfl; (with_reducible repeat (first | refine blk_drewN ?_ _ | refine blk_drew ?_ | refine blk_alloc ?_ _)); exact BK211.out⟩
                    have n2_ : Aside0 (((wc.setCell ⟨gb211, 2, none⟩ (.int .u64 (IntKind.u64.wrap (a0_2 + 11400714819323198485)))).setCell ⟨gb211, 1, none⟩ (.int .i64 (rd l1 (ji92)))).heap[gb212]? = some (.cells #[.int .i64 0, .int .i64 0, .int .u64 0, .slice none 0 0] 25 (0, 0))) := ⟨by (with_reducible repeat (first | refine blk_drewN ?_ _ | refine blk_drew ?_ | refine blk_alloc ?_ _)); refine blk_far ?_ NB212_211.out _; (with_reducible repeat (first | refine blk_drewN ?_ _ | refine blk_drew ?_ | refine blk_alloc ?_ _)); refine blk_far ?_ NB212_211.out _; (with_reducible repeat (first | refine blk_drewN ?_ _ | refine blk_drew ?_ | refine blk_alloc ?_ _)); exact BK212.out⟩
                    have n3_ : Aside0 (Below w.heap.size w ((wc.setCell ⟨gb211, 2, none⟩ (.int .u64 (IntKind.u64.wrap (a0_2 + 11400714819323198485)))).setCell ⟨gb211, 1, none⟩ (.int .i64 (rd l1 (ji92))))) := ⟨by repeat (first | (with_reducible first | exact HB.out | apply below_alloc | apply pw_below_drewN | apply below_drew1 | refine below_set ?_ GE211.out | refine below_set ?_ GE212.out) | exact HB.out)⟩
                    (try clear HO_212003)
                    (try clear BK211)
                    (try clear BK212)
                    (try clear HB)
                    (try simp only [fk_setCell_drewN, World.drewN_drewN])
                    generalize ((wc.setCell ⟨gb211, 2, none⟩ (.int .u64 (IntKind.u64.wrap (a0_2 + 11400714819323198485)))).setCell ⟨gb211, 1, none⟩ (.int .i64 (rd l1 (ji92)))) = w97 at n0_ n1_ n2_ n3_ ⊢
                    have HO_212003 := n0_
                    have BK211 := n1_
                    have BK212 := n2_
                    have HB := n3_
                    clear n0_ n1_ n2_ n3_
                    (try (rw [drewN_self w97]; generalize hq_ : World.drewN w97 _ = w97; have n0_ : Aside0 (Kd.V (Kd.int .i64) 3 w97 w.heap.size (fun k_ => (P0_3_ k_ ∨ w.heap.size ≤ k_) ∧ k_ ≠ gb211 ∧ k_ ≠ gb212) (.slice A0_3 l0_3.length c0_3) l0_3) := ⟨by rw [← hq_]; exact (by (with_reducible repeat (first | apply Kd.V_alloc | apply Kd.V_drewN | apply Kd.V_drew)); exact HO_212003.out)⟩; have n1_ : Aside0 (w97.heap[gb211]? = some (.cells #[.int .i64 a0_0, .int .i64 (rd l1 (ji92)), .int .u64 (IntKind.u64.wrap (a0_2 + 11400714819323198485)), .slice A0_3 l0_3.length c0_3] 25 (0, 0))) := ⟨by rw [← hq_]; exact (by (with_reducible repeat (first | refine blk_drewN ?_ _ | refine blk_drew ?_ | refine blk_alloc ?_ _)); exact BK211.out)⟩; have n2_ : Aside0 (w97.heap[gb212]? = some (.cells #[.int .i64 0, .int .i64 0, .int .u64 0, .slice none 0 0] 25 (0, 0))) := ⟨by rw [← hq_]; exact (by (with_reducible repeat (first | refine blk_drewN ?_ _ | refine blk_drew ?_ | refine blk_alloc ?_ _)); exact BK212.out)⟩; have n3_ : Aside0 (Below w.heap.size w w97) := ⟨by rw [← hq_]; exact (by repeat (first | (with_reducible first | exact HB.out | apply below_alloc | apply pw_below_drewN | apply below_drew1 | refine below_set ?_ GE211.out | refine below_set ?_ GE212.out) | exact HB.out))⟩; clear HO_212003 BK211 BK212 HB hq_; have HO_212003 := n0_; have BK211 := n1_; have BK212 := n2_; have HB := n3_; clear n0_ n1_ n2_ n3_))
                    have n0_ := Aside0.mk (Kd.V_drew HO_212003.out)
                    have n1_ := Aside0.mk (blk_drew BK211.out)
                    have n2_ := Aside0.mk (blk_drew BK212.out)
                    have n3_ := Aside0.mk (below_drew1 HB.out)
                    clear HO_212003
                    clear BK211
                    clear BK212
                    clear HB
                    have HO_212003 := n0_
                    have BK211 := n1_
                    have BK212 := n2_
                    have HB := n3_
                    clear n0_ n1_ n2_ n3_
                    refine start_ (n := 5) (S := fun w' => w'.cell? ⟨gb211, 0, none⟩ = some (.int .i64 a0_0) ∧ w'.cell? ⟨gb211, 1, none⟩ = some (.int .i64 (rd l1 (ji92))) ∧ w'.cell? ⟨gb211, 2, none⟩ = some (.int .u64 (IntKind.u64.wrap (a0_2 + 11400714819323198485))) ∧ w'.cell? ⟨gb211, 3, none⟩ = some (.slice A0_3 l0_3.length c0_3)) (ds := []) #[false, false, false, false, false] (by kernel_rfl) rfl rfl ⟨(blk_cell BK211.out 0).trans rfl, (blk_cell BK211.out 1).trans rfl, (blk_cell BK211.out 2).trans rfl, (blk_cell BK211.out 3).trans rfl⟩ (fun hHeld => ?_)
                    generalize w97.drew = w98 at HO_212003 BK211 BK212 HB hHeld ⊢
                    refine pure_ (i := 0) (N := some 74) (v := ?_) (a' := ?_) #[true, false, false, false, false] rfl rfl (by kernel_rfl) (fun _ _ _ h => h) (Or.inl ⟨by rfl, ?_⟩) ?_ ?_
                    rotate_left
                    · intro w'
                      go_simp
                      with_reducible rfl
                    rotate_left
                    · simp only [Act.put, List.setIfInBounds_toArray, List.set_cons_zero, List.set_cons_succ, i64_w, i32_w]
                      rfl
                    refine pure_ (i := 2) (N := some 4) (v := ?_) (a' := ?_) #[true, false, true, false, false] rfl rfl (by kernel_rfl) (fun _ _ _ h => h) (Or.inl ⟨by rfl, ?_⟩) ?_ ?_
                    rotate_left
                    · intro w'
                      go_simp
                      with_reducible rfl
                    rotate_left
                    · simp only [Act.put, List.setIfInBounds_toArray, List.set_cons_zero, List.set_cons_succ, i64_w, i32_w]
                      rfl
                    refine take_ (i := 1) (N := some 75) (v := ?_) (a' := ?_) #[true, true, true, false, false] rfl rfl (by kernel_rfl) (fun _ _ _ h => h) (Or.inl ⟨by rfl, ?_⟩) hHeld ?_ ?_
                    rotate_left
                    · rintro w' ⟨s0, s1, s2, s3⟩
                      go_simp
                      with_reducible rfl
                    rotate_left
                    · simp only [Act.put, List.setIfInBounds_toArray, List.set_cons_zero, List.set_cons_succ, i64_w, i32_w]
                      rfl
                    refine one_ (i := 3) (N := none) #[true, true, true, true, false] rfl rfl (by kernel_rfl) (by decide) (fun K hK => ?_)
                    have hs99 : w98.cell? ⟨gb212, 0, none⟩ = some (.int .i64 0) := (blk_cell BK212.out 0).trans rfl
                    have hfs99 := blk_frozen BK212.out 0
                    have hns99_0 := NB211_212.out
                    have hms99_0 := NB212_211.out
                    have hs100 : w98.cell? ⟨gb212, 1, none⟩ = some (.int .i64 0) := (blk_cell BK212.out 1).trans rfl
                    have hfs100 := blk_frozen BK212.out 1
                    have hns100_0 := NB211_212.out
                    have hms100_0 := NB212_211.out
                    have hs101 : w98.cell? ⟨gb212, 2, none⟩ = some (.int .u64 0) := (blk_cell BK212.out 2).trans rfl
                    have hfs101 := blk_frozen BK212.out 2
                    have hns101_0 := NB211_212.out
                    have hms101_0 := NB212_211.out
                    have hs102 : w98.cell? ⟨gb212, 3, none⟩ = some (.slice none 0 0) := (blk_cell BK212.out 3).trans rfl
                    have hfs102 := blk_frozen BK212.out 3
                    have hns102_0 := NB211_212.out
                    have hms102_0 := NB212_211.out
                    refine skip_ (w1 := ?_) (by rfl) rfl ?_ ?_
                    rotate_left
                    · go_simp
                      rfl
                    refine hK.out _ _ ⟨((cell_far (p := ⟨gb212, _, none⟩) NB211_212.out _).trans (((cell_far (p := ⟨gb212, _, none⟩) NB211_212.out _).trans (((cell_far (p := ⟨gb212, _, none⟩) NB211_212.out _).trans (((cell_far (p := ⟨gb212, _, none⟩) NB211_212.out _).trans (hHeld.1)))))))), ((cell_far (p := ⟨gb212, _, none⟩) NB211_212.out _).trans (((cell_far (p := ⟨gb212, _, none⟩) NB211_212.out _).trans (((cell_far (p := ⟨gb212, _, none⟩) NB211_212.out _).trans (((cell_far (p := ⟨gb212, _, none⟩) NB211_212.out _).trans (hHeld.2.1)))))))), ((cell_far (p := ⟨gb212, _, none⟩) NB211_212.out _).trans (((cell_far (p := ⟨gb212, _, none⟩) NB211_212.out _).trans (((cell_far (p := ⟨gb212, _, none⟩) NB211_212.out _).trans (((cell_far (p := ⟨gb212, _, none⟩) NB211_212.out _).trans (hHeld.2.2.1)))))))), ((cell_far (p := ⟨gb212, _, none⟩) NB211_212.out _).trans (((cell_far (p := ⟨gb212, _, none⟩) NB211_212.out _).trans (((cell_far (p := ⟨gb212, _, none⟩) NB211_212.out _).trans (((cell_far (p := ⟨gb212, _, none⟩) NB211_212.out _).trans (hHeld.2.2.2))))))))⟩ (fun hHeld => ?_)
                    clear hK K
                    refine pure_ (i := 4) (N := some 6) (v := ?_) (a' := ?_) #[true, true, true, true, true] rfl rfl (by kernel_rfl) (fun _ _ _ h => h) (Or.inl ⟨by rfl, ?_⟩) ?_ ?_
                    rotate_left
                    · intro w'
                      go_simp
                      with_reducible rfl
                    rotate_left
                    · simp only [Act.put, List.setIfInBounds_toArray, List.set_cons_zero, List.set_cons_succ, i64_w, i32_w]
                      rfl
                    refine done_ (by kernel_rfl) ?_
                    try go_wp2
                    refine bodyPost_ret (results_list (rs := [.tmp 4, .cell 5 25, .tmp 6]) rfl (by simp) (.tmp (.cell gb212 25 #[.int .i64 a0_0, .int .i64 (rd l1 (ji92)), .int .u64 (IntKind.u64.wrap (a0_2 + 11400714819323198485)), .slice A0_3 l0_3.length c0_3] (0, 0) _ rfl (by (with_reducible repeat (first | refine blk_drewN ?_ _ | refine blk_drew ?_ | refine blk_alloc ?_ _)); refine blk_put (cs := #[.int .i64 a0_0, .int .i64 (rd l1 (ji92)), .int .u64 (IntKind.u64.wrap (a0_2 + 11400714819323198485)), .slice none 0 0]) ?_ 3 _ rfl; (with_reducible repeat (first | refine blk_drewN ?_ _ | refine blk_drew ?_ | refine blk_alloc ?_ _)); refine blk_put (cs := #[.int .i64 a0_0, .int .i64 (rd l1 (ji92)), .int .u64 0, .slice none 0 0]) ?_ 2 _ rfl; (with_reducible repeat (first | refine blk_drewN ?_ _ | refine blk_drew ?_ | refine blk_alloc ?_ _)); refine blk_put (cs := #[.int .i64 a0_0, .int .i64 0, .int .u64 0, .slice none 0 0]) ?_ 1 _ rfl; (with_reducible repeat (first | refine blk_drewN ?_ _ | refine blk_drew ?_ | refine blk_alloc ?_ _)); refine blk_put (cs := #[.int .i64 0, .int .i64 0, .int .u64 0, .slice none 0 0]) ?_ 0 _ rfl; (with_reducible repeat (first | refine blk_drewN ?_ _ | refine blk_drew ?_ | refine blk_alloc ?_ _)); exact BK212.out) Try.underlying25 rfl (by kernel_rfl) (.tmp .nil)))) rfl ?_
                    exact ⟨_, by first | rfl | (simp [errW_none, errW_some] <;> rfl) | (simp only [← hji92]; first | rfl | (simp [errW_none, errW_some] <;> rfl)) | (simp [*, errW_none, errW_some] <;> rfl), by (with_reducible repeat (first | apply Kd.V_alloc | apply Kd.V_drewN | apply Kd.V_drew)); exact Kd.V_mono (Kd.V_far (p := ⟨gb212, 3, none⟩) (Kd.V_far (p := ⟨gb212, 2, none⟩) (Kd.V_far (p := ⟨gb212, 1, none⟩) (Kd.V_far (p := ⟨gb212, 0, none⟩) (Kd.V_mono HO_212003.out (fun k_ hk => (⟨hk, hk.2.2⟩ : _ ∧ k_ ≠ gb212))) (fun _ hk => hk.2) (.int .i64 a0_0)) (fun _ hk => hk.2) (.int .i64 (rd l1 (ji92)))) (fun _ hk => hk.2) (.int .u64 (IntKind.u64.wrap (a0_2 + 11400714819323198485)))) (fun _ hk => hk.2) (.slice A0_3 l0_3.length c0_3)) (fun _ hk => hk.1.1), by repeat (first | (with_reducible first | exact HB.out | apply below_alloc | apply pw_below_drewN | apply below_drew1 | refine below_set ?_ GE211.out | refine below_set ?_ GE212.out) | exact HB.out)⟩
                  · rw [if_neg c94] at H
                    exact absurd H (by simp)
                · rw [if_neg c93] at H
                  exact absurd H (by simp)
            · rw [if_neg c89] at H
              have c89b0 : (a0_0 == 3) = false := beq_eq_false_iff_ne.mpr c89
              have c89b1 : (a0_0 != 3) = true := bne_iff_ne.mpr c89
              simp only [Option.some.injEq, Prod.mk.injEq] at H
              obtain ⟨rfl, rfl, rfl, rfl, rfl, rfl⟩ := H
              have hnb103 := NB211_212.out
              have hnc103 := NB212_211.out
              have hcz104_0 : wc.cell? ⟨gb211, 0, none⟩ = some (.int .i64 a0_0) := (blk_cell BK211.out 0).trans rfl
              have hcz104_1 : wc.cell? ⟨gb211, 1, none⟩ = some (.int .i64 a0_1) := (blk_cell BK211.out 1).trans rfl
              have hcz104_2 : wc.cell? ⟨gb211, 2, none⟩ = some (.int .u64 a0_2) := (blk_cell BK211.out 2).trans rfl
              have hcz104_3 : wc.cell? ⟨gb211, 3, none⟩ = some (.slice A0_3 l0_3.length c0_3) := (blk_cell BK211.out 3).trans rfl
              have hfz104_0 := blk_frozen BK211.out 0
              have hfz104_1 := blk_frozen BK211.out 1
              have hfz104_2 := blk_frozen BK211.out 2
              have hfz104_3 := blk_frozen BK211.out 3
              try go_wp2
              have n0_ : Aside0 (Kd.V (Kd.int .i64) 3 (wc.setCell ⟨gb211, 1, none⟩ (.int .i64 t215)) w.heap.size (fun k_ => (P0_3_ k_ ∨ w.heap.size ≤ k_) ∧ k_ ≠ gb211 ∧ k_ ≠ gb212) (.slice A0_3 l0_3.length c0_3) l0_3) := ⟨by (with_reducible repeat (first | apply Kd.V_alloc | apply Kd.V_drewN | apply Kd.V_drew)); exact Kd.V_mono (Kd.V_far (p := ⟨gb211, 1, none⟩) (Kd.V_mono HO_212003.out (fun k_ hk => (⟨hk, hk.2.1⟩ : _ ∧ k_ ≠ gb211))) (fun _ hk => hk.2) (.int .i64 t215)) (fun _ hk => (And.intro (hk.1.1) ((And.intro (hk.1.2.1) (hk.1.2.2)))))⟩
              have n1_ : Aside0 ((wc.setCell ⟨gb211, 1, none⟩ (.int .i64 t215)).heap[gb211]? = some (.cells #[.int .i64 a0_0, .int .i64 t215, .int .u64 a0_2, .slice A0_3 l0_3.length c0_3] 25 (0, 0))) := ⟨by (with_reducible repeat (first | refine blk_drewN ?_ _ | refine blk_drew ?_ | refine blk_alloc ?_ _)); refine blk_put (cs := #[.int .i64 a0_0, .int .i64 a0_1, .int .u64 a0_2, .slice A0_3 l0_3.length c0_3]) ?_ 1 _ rfl; (with_reducible repeat (first | refine blk_drewN ?_ _ | refine blk_drew ?_ | refine blk_alloc ?_ _)); exact BK211.out⟩
              have n2_ : Aside0 ((wc.setCell ⟨gb211, 1, none⟩ (.int .i64 t215)).heap[gb212]? = some (.cells #[.int .i64 0, .int .i64 0, .int .u64 0, .slice none 0 0] 25 (0, 0))) := ⟨by (with_reducible repeat (first | refine blk_drewN ?_ _ | refine blk_drew ?_ | refine blk_alloc ?_ _)); refine blk_far ?_ NB212_211.out _; (with_reducible repeat (first | refine blk_drewN ?_ _ | refine blk_drew ?_ | refine blk_alloc ?_ _)); exact BK212.out⟩
              have n3_ : Aside0 (Below w.heap.size w (wc.setCell ⟨gb211, 1, none⟩ (.int .i64 t215))) := ⟨by repeat (first | (with_reducible first | exact HB.out | apply below_alloc | apply pw_below_drewN | apply below_drew1 | refine below_set ?_ GE211.out | refine below_set ?_ GE212.out) | exact HB.out)⟩
              (try clear HO_212003)
              (try clear BK211)
              (try clear BK212)
              (try clear HB)
              (try simp only [fk_setCell_drewN, World.drewN_drewN])
              generalize (wc.setCell ⟨gb211, 1, none⟩ (.int .i64 t215)) = w105 at n0_ n1_ n2_ n3_ ⊢
              have HO_212003 := n0_
              have BK211 := n1_
              have BK212 := n2_
              have HB := n3_
              clear n0_ n1_ n2_ n3_
              have n0_ := Aside0.mk (Kd.V_drew HO_212003.out)
              have n1_ := Aside0.mk (blk_drew BK211.out)
              have n2_ := Aside0.mk (blk_drew BK212.out)
              have n3_ := Aside0.mk (below_drew1 HB.out)
              clear HO_212003
              clear BK211
              clear BK212
              clear HB
              have HO_212003 := n0_
              have BK211 := n1_
              have BK212 := n2_
              have HB := n3_
              clear n0_ n1_ n2_ n3_
              refine start_ (n := 5) (S := fun w' => w'.cell? ⟨gb211, 0, none⟩ = some (.int .i64 a0_0) ∧ w'.cell? ⟨gb211, 1, none⟩ = some (.int .i64 t215) ∧ w'.cell? ⟨gb211, 2, none⟩ = some (.int .u64 a0_2) ∧ w'.cell? ⟨gb211, 3, none⟩ = some (.slice A0_3 l0_3.length c0_3)) (ds := []) #[false, false, false, false, false] (by kernel_rfl) rfl rfl ⟨(blk_cell BK211.out 0).trans rfl, (blk_cell BK211.out 1).trans rfl, (blk_cell BK211.out 2).trans rfl, (blk_cell BK211.out 3).trans rfl⟩ (fun hHeld => ?_)
              generalize w105.drew = w106 at HO_212003 BK211 BK212 HB hHeld ⊢
              refine pure_ (i := 0) (N := some 74) (v := ?_) (a' := ?_) #[true, false, false, false, false] rfl rfl (by kernel_rfl) (fun _ _ _ h => h) (Or.inl ⟨by rfl, ?_⟩) ?_ ?_
              rotate_left
              · intro w'
                go_simp
                with_reducible rfl
              rotate_left
              · simp only [Act.put, List.setIfInBounds_toArray, List.set_cons_zero, List.set_cons_succ, i64_w, i32_w]
                rfl
              refine pure_ (i := 2) (N := some 4) (v := ?_) (a' := ?_) #[true, false, true, false, false] rfl rfl (by kernel_rfl) (fun _ _ _ h => h) (Or.inl ⟨by rfl, ?_⟩) ?_ ?_
              rotate_left
              · intro w'
                go_simp
                with_reducible rfl
              rotate_left
              · simp only [Act.put, List.setIfInBounds_toArray, List.set_cons_zero, List.set_cons_succ, i64_w, i32_w]
                rfl
              refine take_ (i := 1) (N := some 75) (v := ?_) (a' := ?_) #[true, true, true, false, false] rfl rfl (by kernel_rfl) (fun _ _ _ h => h) (Or.inl ⟨by rfl, ?_⟩) hHeld ?_ ?_
              rotate_left
              · rintro w' ⟨s0, s1, s2, s3⟩
                go_simp
                with_reducible rfl
              rotate_left
              · simp only [Act.put, List.setIfInBounds_toArray, List.set_cons_zero, List.set_cons_succ, i64_w, i32_w]
                rfl
              refine one_ (i := 3) (N := none) #[true, true, true, true, false] rfl rfl (by kernel_rfl) (by decide) (fun K hK => ?_)
              have hs107 : w106.cell? ⟨gb212, 0, none⟩ = some (.int .i64 0) := (blk_cell BK212.out 0).trans rfl
              have hfs107 := blk_frozen BK212.out 0
              have hns107_0 := NB211_212.out
              have hms107_0 := NB212_211.out
              have hs108 : w106.cell? ⟨gb212, 1, none⟩ = some (.int .i64 0) := (blk_cell BK212.out 1).trans rfl
              have hfs108 := blk_frozen BK212.out 1
              have hns108_0 := NB211_212.out
              have hms108_0 := NB212_211.out
              have hs109 : w106.cell? ⟨gb212, 2, none⟩ = some (.int .u64 0) := (blk_cell BK212.out 2).trans rfl
              have hfs109 := blk_frozen BK212.out 2
              have hns109_0 := NB211_212.out
              have hms109_0 := NB212_211.out
              have hs110 : w106.cell? ⟨gb212, 3, none⟩ = some (.slice none 0 0) := (blk_cell BK212.out 3).trans rfl
              have hfs110 := blk_frozen BK212.out 3
              have hns110_0 := NB211_212.out
              have hms110_0 := NB212_211.out
              refine skip_ (w1 := ?_) (by rfl) rfl ?_ ?_
              rotate_left
              · go_simp
                rfl
              refine hK.out _ _ ⟨((cell_far (p := ⟨gb212, _, none⟩) NB211_212.out _).trans (((cell_far (p := ⟨gb212, _, none⟩) NB211_212.out _).trans (((cell_far (p := ⟨gb212, _, none⟩) NB211_212.out _).trans (((cell_far (p := ⟨gb212, _, none⟩) NB211_212.out _).trans (hHeld.1)))))))), ((cell_far (p := ⟨gb212, _, none⟩) NB211_212.out _).trans (((cell_far (p := ⟨gb212, _, none⟩) NB211_212.out _).trans (((cell_far (p := ⟨gb212, _, none⟩) NB211_212.out _).trans (((cell_far (p := ⟨gb212, _, none⟩) NB211_212.out _).trans (hHeld.2.1)))))))), ((cell_far (p := ⟨gb212, _, none⟩) NB211_212.out _).trans (((cell_far (p := ⟨gb212, _, none⟩) NB211_212.out _).trans (((cell_far (p := ⟨gb212, _, none⟩) NB211_212.out _).trans (((cell_far (p := ⟨gb212, _, none⟩) NB211_212.out _).trans (hHeld.2.2.1)))))))), ((cell_far (p := ⟨gb212, _, none⟩) NB211_212.out _).trans (((cell_far (p := ⟨gb212, _, none⟩) NB211_212.out _).trans (((cell_far (p := ⟨gb212, _, none⟩) NB211_212.out _).trans (((cell_far (p := ⟨gb212, _, none⟩) NB211_212.out _).trans (hHeld.2.2.2))))))))⟩ (fun hHeld => ?_)
              clear hK K
              refine pure_ (i := 4) (N := some 6) (v := ?_) (a' := ?_) #[true, true, true, true, true] rfl rfl (by kernel_rfl) (fun _ _ _ h => h) (Or.inl ⟨by rfl, ?_⟩) ?_ ?_
              rotate_left
              · intro w'
                go_simp
                with_reducible rfl
              rotate_left
              · simp only [Act.put, List.setIfInBounds_toArray, List.set_cons_zero, List.set_cons_succ, i64_w, i32_w]
                rfl
              refine done_ (by kernel_rfl) ?_
              try go_wp2
              refine bodyPost_ret (results_list (rs := [.tmp 4, .cell 5 25, .tmp 6]) rfl (by simp) (.tmp (.cell gb212 25 #[.int .i64 a0_0, .int .i64 t215, .int .u64 a0_2, .slice A0_3 l0_3.length c0_3] (0, 0) _ rfl (by (with_reducible repeat (first | refine blk_drewN ?_ _ | refine blk_drew ?_ | refine blk_alloc ?_ _)); refine blk_put (cs := #[.int .i64 a0_0, .int .i64 t215, .int .u64 a0_2, .slice none 0 0]) ?_ 3 _ rfl; (with_reducible repeat (first | refine blk_drewN ?_ _ | refine blk_drew ?_ | refine blk_alloc ?_ _)); refine blk_put (cs := #[.int .i64 a0_0, .int .i64 t215, .int .u64 0, .slice none 0 0]) ?_ 2 _ rfl; (with_reducible repeat (first | refine blk_drewN ?_ _ | refine blk_drew ?_ | refine blk_alloc ?_ _)); refine blk_put (cs := #[.int .i64 a0_0, .int .i64 0, .int .u64 0, .slice none 0 0]) ?_ 1 _ rfl; (with_reducible repeat (first | refine blk_drewN ?_ _ | refine blk_drew ?_ | refine blk_alloc ?_ _)); refine blk_put (cs := #[.int .i64 0, .int .i64 0, .int .u64 0, .slice none 0 0]) ?_ 0 _ rfl; (with_reducible repeat (first | refine blk_drewN ?_ _ | refine blk_drew ?_ | refine blk_alloc ?_ _)); exact BK212.out) Try.underlying25 rfl (by kernel_rfl) (.tmp .nil)))) rfl ?_
              exact ⟨_, by first | rfl | (simp [errW_none, errW_some] <;> rfl) | (simp [*, errW_none, errW_some] <;> rfl), by (with_reducible repeat (first | apply Kd.V_alloc | apply Kd.V_drewN | apply Kd.V_drew)); exact Kd.V_mono (Kd.V_far (p := ⟨gb212, 3, none⟩) (Kd.V_far (p := ⟨gb212, 2, none⟩) (Kd.V_far (p := ⟨gb212, 1, none⟩) (Kd.V_far (p := ⟨gb212, 0, none⟩) (Kd.V_mono HO_212003.out (fun k_ hk => (⟨hk, hk.2.2⟩ : _ ∧ k_ ≠ gb212))) (fun _ hk => hk.2) (.int .i64 a0_0)) (fun _ hk => hk.2) (.int .i64 t215)) (fun _ hk => hk.2) (.int .u64 a0_2)) (fun _ hk => hk.2) (.slice A0_3 l0_3.length c0_3)) (fun _ hk => hk.1.1), by repeat (first | (with_reducible first | exact HB.out | apply below_alloc | apply pw_below_drewN | apply below_drew1 | refine below_set ?_ GE211.out | refine below_set ?_ GE212.out) | exact HB.out)⟩
    · replace c6 := Bool.eq_false_iff.mpr c6
      subst c6
      have H1 : (some (0, 0, 0, 0, ([] : List Int), 1)) = some (r1, r2, r3, r4, r5, r6) := by rw [if_neg (show ¬ (false = true) by decide)] at H; exact H
      clear H
      have H := H1
      clear H1
      simp only [Option.some.injEq, Prod.mk.injEq] at H
      obtain ⟨rfl, rfl, rfl, rfl, rfl, rfl⟩ := H
      go_enter Try.func13, Try.ntmps13
      go_wp2_with (first | ((with_reducible refine gate_dst (N := 2) rfl ?_); (try (refine gate_guard (by rfl) ?_; dsimp only)); refine box_event ?hg (N := 2) ?hd (cs := #[.int .i64 a0_0, .int .i64 a0_1, .int .u64 a0_2, .slice A0_3 l0_3.length c0_3]) (t := 25) ?hr ?_; (case hd => rfl); (case hg => rfl); (case hr => first | (go_simp; done) | (go_simp; rfl)); intro gb211 hg w111 hbox hb; have n0_ := Aside0.mk (Kd.V_below (Kd.V_elderB (by (with_reducible repeat (first | apply Kd.V_alloc | apply Kd.V_drewN | apply Kd.V_drew)); exact HO0_3.out) gb211 (Nat.le_of_eq hg.symm)) hb); have n1_ := Aside0.mk (below_step (by repeat (first | (with_reducible first | exact HB.out | apply below_alloc | apply pw_below_drewN | apply below_drew1) | exact HB.out)) hb); have n2_ := Aside0.mk (hbox); have n3_ := Aside0.mk ((by rw [hg]; exact (below_size (by repeat (first | (with_reducible first | exact HB.out | apply below_alloc | apply pw_below_drewN | apply below_drew1) | exact HB.out))) : w.heap.size ≤ gb211)); have n4_ := Aside0.mk ((by rw [hg]; exact (below_size (by repeat (first | (with_reducible first | exact HB.out | apply below_alloc | apply pw_below_drewN | apply below_drew1) | exact HB.out))) : w.heap.size ≤ gb211)); clear HO0_3; clear HB; have HO0_3 := n0_; have HB := n1_; have BK211 := n2_; have GW211 := n3_; have GE211 := n4_; clear n0_ n1_ n2_ n3_ n4_; clear hb hbox hg) | ((with_reducible refine gate_dst (N := 5) rfl ?_); (try (refine gate_guard (by rfl) ?_; dsimp only)); refine box_event ?hg (N := 5) ?hd (cs := #[.int .i64 0, .int .i64 0, .int .u64 0, .slice none 0 0]) (t := 25) ?hr ?_; (case hd => rfl); (case hg => rfl); (case hr => first | (go_simp; done) | (go_simp; rfl)); intro gb212 hg w112 hbox hb; have n0_ := Aside0.mk (Kd.V_below (Kd.V_elderB (by (with_reducible repeat (first | apply Kd.V_alloc | apply Kd.V_drewN | apply Kd.V_drew)); exact HO0_3.out) gb212 (Nat.le_of_eq hg.symm)) hb); have n1_ := Aside0.mk (blk_below (g := gb211) (o := .cells #[.int .i64 a0_0, .int .i64 a0_1, .int .u64 a0_2, .slice A0_3 l0_3.length c0_3] 25 (0, 0)) (by (with_reducible repeat (first | refine blk_drewN ?_ _ | refine blk_drew ?_ | refine blk_alloc ?_ _)); exact BK211.out) hb); have n2_ := Aside0.mk (below_step (by repeat (first | (with_reducible first | exact HB.out | apply below_alloc | apply pw_below_drewN | apply below_drew1 | refine below_set ?_ GE211.out) | exact HB.out)) hb); have n3_ := Aside0.mk (hbox); have n4_ := Aside0.mk ((by rw [hg]; exact (below_size (by repeat (first | (with_reducible first | exact HB.out | apply below_alloc | apply pw_below_drewN | apply below_drew1 | refine below_set ?_ GE211.out) | exact HB.out))) : w.heap.size ≤ gb212)); have n5_ := Aside0.mk ((by rw [hg]; exact (below_size (by repeat (first | (with_reducible first | exact HB.out | apply below_alloc | apply pw_below_drewN | apply below_drew1 | refine below_set ?_ GE211.out) | exact HB.out))) : w.heap.size ≤ gb212)); have n6_ := Aside0.mk ((by rw [hg]; exact Nat.ne_of_lt (blk_lt (g := gb211) (o := .cells #[.int .i64 a0_0, .int .i64 a0_1, .int .u64 a0_2, .slice A0_3 l0_3.length c0_3] 25 (0, 0)) (by (with_reducible repeat (first | refine blk_drewN ?_ _ | refine blk_drew ?_ | refine blk_alloc ?_ _)); exact BK211.out)) : gb211 ≠ gb212)); have n7_ := Aside0.mk ((by rw [hg]; exact Nat.ne_of_gt (blk_lt (g := gb211) (o := .cells #[.int .i64 a0_0, .int .i64 a0_1, .int .u64 a0_2, .slice A0_3 l0_3.length c0_3] 25 (0, 0)) (by (with_reducible repeat (first | refine blk_drewN ?_ _ | refine blk_drew ?_ | refine blk_alloc ?_ _)); exact BK211.out)) : gb212 ≠ gb211)); clear HO0_3; clear BK211; clear HB; have HO0_3 := n0_; have BK211 := n1_; have HB := n2_; have BK212 := n3_; have GW212 := n4_; have GE212 := n5_; have NB211_212 := n6_; have NB212_211 := n7_; clear n0_ n1_ n2_ n3_ n4_ n5_ n6_ n7_; clear hb hbox hg; have hnb113 := NB211_212.out; have hnc113 := NB212_211.out; have hcz114_0 : w112.cell? ⟨gb211, 0, none⟩ = some (.int .i64 a0_0) := (blk_cell BK211.out 0).trans rfl; have hcz114_1 : w112.cell? ⟨gb211, 1, none⟩ = some (.int .i64 a0_1) := (blk_cell BK211.out 1).trans rfl; have hcz114_2 : w112.cell? ⟨gb211, 2, none⟩ = some (.int .u64 a0_2) := (blk_cell BK211.out 2).trans rfl; have hcz114_3 : w112.cell? ⟨gb211, 3, none⟩ = some (.slice A0_3 l0_3.length c0_3) := (blk_cell BK211.out 3).trans rfl; have hfz114_0 := blk_frozen BK211.out 0; have hfz114_1 := blk_frozen BK211.out 1; have hfz114_2 := blk_frozen BK211.out 2; have hfz114_3 := blk_frozen BK211.out 3) | ((with_reducible refine gate_callee (f := 10) rfl ?_); refine goesL_ (some 12) rfl rfl Try.func10 (by kernel_rfl) rfl #[.agg #[.int .i64 a0_0, .int .i64 a0_1, .int .u64 a0_2, .slice A0_3 l0_3.length c0_3]] rfl (by (try simp only [List.map_toArray, List.map_cons, List.map_nil]); first | done | rfl | (simp only [List.length_drop, List.length_take]; rfl)) ?_; (with_reducible refine (jobshellref32_Valid.calls k a0_0 a0_1 a0_2 _ _ l0_3 t213 _ ?side1 ?side2 A3.out).mono ?_); (case side1 => repeat (first | exact (Kd.V_reads' HO0_3.out).2.2 | (with_reducible refine Kd.C_alloc ?_ _) | (with_reducible refine Kd.C_drewN ?_ _) | (with_reducible refine Kd.C_drew ?_))); (case side2 => exact (Kd.V_reads' HO0_3.out).2.1); rintro e w115 ⟨rfl, hb⟩; refine ⟨_, rfl, ?_⟩; have n0_ := Aside0.mk (Kd.V_below (by (with_reducible repeat (first | apply Kd.V_alloc | apply Kd.V_drewN | apply Kd.V_drew)); exact HO0_3.out) hb); have n1_ := Aside0.mk (blk_below (g := gb211) (o := .cells #[.int .i64 a0_0, .int .i64 a0_1, .int .u64 a0_2, .slice A0_3 l0_3.length c0_3] 25 (0, 0)) (by (with_reducible repeat (first | refine blk_drewN ?_ _ | refine blk_drew ?_ | refine blk_alloc ?_ _)); exact BK211.out) hb); have n2_ := Aside0.mk (blk_below (g := gb212) (o := .cells #[.int .i64 0, .int .i64 0, .int .u64 0, .slice none 0 0] 25 (0, 0)) (by (with_reducible repeat (first | refine blk_drewN ?_ _ | refine blk_drew ?_ | refine blk_alloc ?_ _)); exact BK212.out) hb); have n3_ := Aside0.mk (below_step (by repeat (first | (with_reducible first | exact HB.out | apply below_alloc | apply pw_below_drewN | apply below_drew1 | refine below_set ?_ GE211.out | refine below_set ?_ GE212.out) | exact HB.out)) hb); clear HO0_3; clear BK211; clear BK212; clear HB; have HO0_3 := n0_; have BK211 := n1_; have BK212 := n2_; have HB := n3_; clear n0_ n1_ n2_ n3_; (try clear hb); (try clear hb2); (try clear hk); (try clear hi)) | ((with_reducible refine gate_callee (f := 19) rfl ?_); refine goesL_ (some 18) rfl rfl Try.func19 (by kernel_rfl) rfl #[.slice A1 l1.length c1] rfl (by (try simp only [List.map_toArray, List.map_cons, List.map_nil]); first | done | rfl | (simp only [List.length_drop, List.length_take]; rfl)) ?_; (with_reducible refine (jobshellref32_right.calls k _ _ l1 false _ ?side1 ?side2 A5.out).mono ?_); (case side1 => repeat (first | exact (Kd.C_below HR1.out HB.out) | (with_reducible refine Kd.C_alloc ?_ _) | (with_reducible refine Kd.C_drewN ?_ _) | (with_reducible refine Kd.C_drew ?_))); (case side2 => exact HC1.out); rintro e w' ⟨rfl, ⟨nd, rfl⟩⟩; refine ⟨_, rfl, ?_⟩; (try (rw [drewN_self w115]; generalize hq_ : World.drewN w115 _ = w115; have n0_ : Aside0 (Kd.V (Kd.int .i64) 3 w115 w.heap.size (fun k_ => (P0_3_ k_ ∨ w.heap.size ≤ k_) ∧ k_ ≠ gb211 ∧ k_ ≠ gb212) (.slice A0_3 l0_3.length c0_3) l0_3) := ⟨by rw [← hq_]; exact (by (with_reducible repeat (first | apply Kd.V_alloc | apply Kd.V_drewN | apply Kd.V_drew)); exact Kd.V_mono HO0_3.out (fun _ hk => (And.intro (hk.1.1) ((And.intro (hk.1.2) (hk.2))))))⟩; have n1_ : Aside0 (w115.heap[gb211]? = some (.cells #[.int .i64 a0_0, .int .i64 a0_1, .int .u64 a0_2, .slice A0_3 l0_3.length c0_3] 25 (0, 0))) := ⟨by rw [← hq_]; exact (by (with_reducible repeat (first | refine blk_drewN ?_ _ | refine blk_drew ?_ | refine blk_alloc ?_ _)); exact BK211.out)⟩; have n2_ : Aside0 (w115.heap[gb212]? = some (.cells #[.int .i64 0, .int .i64 0, .int .u64 0, .slice none 0 0] 25 (0, 0))) := ⟨by rw [← hq_]; exact (by (with_reducible repeat (first | refine blk_drewN ?_ _ | refine blk_drew ?_ | refine blk_alloc ?_ _)); exact BK212.out)⟩; have n3_ : Aside0 (Below w.heap.size w w115) := ⟨by rw [← hq_]; exact (by repeat (first | (with_reducible first | exact HB.out | apply below_alloc | apply pw_below_drewN | apply below_drew1 | refine below_set ?_ GE211.out | refine below_set ?_ GE212.out) | exact HB.out))⟩; clear HO0_3 BK211 BK212 HB hq_; have HO0_3 := n0_; have BK211 := n1_; have BK212 := n2_; have HB := n3_; clear n0_ n1_ n2_ n3_)); have hcz116_0 : w115.cell? ⟨gb212, 0, none⟩ = some (.int .i64 0) := (blk_cell BK212.out 0).trans rfl; have hcz116_1 : w115.cell? ⟨gb212, 1, none⟩ = some (.int .i64 0) := (blk_cell BK212.out 1).trans rfl; have hcz116_2 : w115.cell? ⟨gb212, 2, none⟩ = some (.int .u64 0) := (blk_cell BK212.out 2).trans rfl; have hcz116_3 : w115.cell? ⟨gb212, 3, none⟩ = some (.slice none 0 0) := (blk_cell BK212.out 3).trans rfl; have hfz116_0 := blk_frozen BK212.out 0; have hfz116_1 := blk_frozen BK212.out 1; have hfz116_2 := blk_frozen BK212.out 2; have hfz116_3 := blk_frozen BK212.out 3))
      refine bodyPost_ret (results_list (rs := [.tmp 4, .cell 5 25, .tmp 6]) rfl (by simp) (.tmp (.cell gb212 25 #[.int .i64 0, .int .i64 0, .int .u64 0, .slice none 0 0] (0, 0) _ rfl (by (with_reducible repeat (first | refine blk_drewN ?_ _ | refine blk_drew ?_ | refine blk_alloc ?_ _)); refine blk_put (cs := #[.int .i64 0, .int .i64 0, .int .u64 0, .slice none 0 0]) ?_ 3 _ rfl; (with_reducible repeat (first | refine blk_drewN ?_ _ | refine blk_drew ?_ | refine blk_alloc ?_ _)); refine blk_put (cs := #[.int .i64 0, .int .i64 0, .int .u64 0, .slice none 0 0]) ?_ 2 _ rfl; (with_reducible repeat (first | refine blk_drewN ?_ _ | refine blk_drew ?_ | refine blk_alloc ?_ _)); refine blk_put (cs := #[.int .i64 0, .int .i64 0, .int .u64 0, .slice none 0 0]) ?_ 1 _ rfl; (with_reducible repeat (first | refine blk_drewN ?_ _ | refine blk_drew ?_ | refine blk_alloc ?_ _)); refine blk_put (cs := #[.int .i64 0, .int .i64 0, .int .u64 0, .slice none 0 0]) ?_ 0 _ rfl; (with_reducible repeat (first | refine blk_drewN ?_ _ | refine blk_drew ?_ | refine blk_alloc ?_ _)); exact BK212.out) Try.underlying25 rfl (by kernel_rfl) (.tmp .nil)))) rfl ?_
      exact ⟨_, by first | rfl | (simp [errW_none, errW_some] <;> rfl) | (simp [*, errW_none, errW_some] <;> rfl), Kd.V_nil _ _ _ _ _, by repeat (first | (with_reducible first | exact HB.out | apply below_alloc | apply pw_below_drewN | apply below_drew1 | refine below_set ?_ GE211.out | refine below_set ?_ GE212.out) | exact HB.out)⟩
  · rw [if_neg c4] at H
    have c4b0 : (t213 == 0) = false := beq_eq_false_iff_ne.mpr c4
    have c4b1 : (t213 != 0) = true := bne_iff_ne.mpr c4
    simp only [Option.some.injEq, Prod.mk.injEq] at H
    obtain ⟨rfl, rfl, rfl, rfl, rfl, rfl⟩ := H
    go_enter Try.func13, Try.ntmps13
    go_wp2_with (first | ((with_reducible refine gate_dst (N := 2) rfl ?_); (try (refine gate_guard (by rfl) ?_; dsimp only)); refine box_event ?hg (N := 2) ?hd (cs := #[.int .i64 a0_0, .int .i64 a0_1, .int .u64 a0_2, .slice A0_3 l0_3.length c0_3]) (t := 25) ?hr ?_; (case hd => rfl); (case hg => rfl); (case hr => first | (go_simp; done) | (go_simp; rfl)); intro gb211 hg w117 hbox hb; have n0_ := Aside0.mk (Kd.V_below (Kd.V_elderB (by (with_reducible repeat (first | apply Kd.V_alloc | apply Kd.V_drewN | apply Kd.V_drew)); exact HO0_3.out) gb211 (Nat.le_of_eq hg.symm)) hb); have n1_ := Aside0.mk (below_step (by repeat (first | (with_reducible first | exact HB.out | apply below_alloc | apply pw_below_drewN | apply below_drew1) | exact HB.out)) hb); have n2_ := Aside0.mk (hbox); have n3_ := Aside0.mk ((by rw [hg]; exact (below_size (by repeat (first | (with_reducible first | exact HB.out | apply below_alloc | apply pw_below_drewN | apply below_drew1) | exact HB.out))) : w.heap.size ≤ gb211)); have n4_ := Aside0.mk ((by rw [hg]; exact (below_size (by repeat (first | (with_reducible first | exact HB.out | apply below_alloc | apply pw_below_drewN | apply below_drew1) | exact HB.out))) : w.heap.size ≤ gb211)); clear HO0_3; clear HB; have HO0_3 := n0_; have HB := n1_; have BK211 := n2_; have GW211 := n3_; have GE211 := n4_; clear n0_ n1_ n2_ n3_ n4_; clear hb hbox hg) | ((with_reducible refine gate_dst (N := 5) rfl ?_); (try (refine gate_guard (by rfl) ?_; dsimp only)); refine box_event ?hg (N := 5) ?hd (cs := #[.int .i64 0, .int .i64 0, .int .u64 0, .slice none 0 0]) (t := 25) ?hr ?_; (case hd => rfl); (case hg => rfl); (case hr => first | (go_simp; done) | (go_simp; rfl)); intro gb212 hg w118 hbox hb; have n0_ := Aside0.mk (Kd.V_below (Kd.V_elderB (by (with_reducible repeat (first | apply Kd.V_alloc | apply Kd.V_drewN | apply Kd.V_drew)); exact HO0_3.out) gb212 (Nat.le_of_eq hg.symm)) hb); have n1_ := Aside0.mk (blk_below (g := gb211) (o := .cells #[.int .i64 a0_0, .int .i64 a0_1, .int .u64 a0_2, .slice A0_3 l0_3.length c0_3] 25 (0, 0)) (by (with_reducible repeat (first | refine blk_drewN ?_ _ | refine blk_drew ?_ | refine blk_alloc ?_ _)); exact BK211.out) hb); have n2_ := Aside0.mk (below_step (by repeat (first | (with_reducible first | exact HB.out | apply below_alloc | apply pw_below_drewN | apply below_drew1 | refine below_set ?_ GE211.out) | exact HB.out)) hb); have n3_ := Aside0.mk (hbox); have n4_ := Aside0.mk ((by rw [hg]; exact (below_size (by repeat (first | (with_reducible first | exact HB.out | apply below_alloc | apply pw_below_drewN | apply below_drew1 | refine below_set ?_ GE211.out) | exact HB.out))) : w.heap.size ≤ gb212)); have n5_ := Aside0.mk ((by rw [hg]; exact (below_size (by repeat (first | (with_reducible first | exact HB.out | apply below_alloc | apply pw_below_drewN | apply below_drew1 | refine below_set ?_ GE211.out) | exact HB.out))) : w.heap.size ≤ gb212)); have n6_ := Aside0.mk ((by rw [hg]; exact Nat.ne_of_lt (blk_lt (g := gb211) (o := .cells #[.int .i64 a0_0, .int .i64 a0_1, .int .u64 a0_2, .slice A0_3 l0_3.length c0_3] 25 (0, 0)) (by (with_reducible repeat (first | refine blk_drewN ?_ _ | refine blk_drew ?_ | refine blk_alloc ?_ _)); exact BK211.out)) : gb211 ≠ gb212)); have n7_ := Aside0.mk ((by rw [hg]; exact Nat.ne_of_gt (blk_lt (g := gb211) (o := .cells #[.int .i64 a0_0, .int .i64 a0_1, .int .u64 a0_2, .slice A0_3 l0_3.length c0_3] 25 (0, 0)) (by (with_reducible repeat (first | refine blk_drewN ?_ _ | refine blk_drew ?_ | refine blk_alloc ?_ _)); exact BK211.out)) : gb212 ≠ gb211)); clear HO0_3; clear BK211; clear HB; have HO0_3 := n0_; have BK211 := n1_; have HB := n2_; have BK212 := n3_; have GW212 := n4_; have GE212 := n5_; have NB211_212 := n6_; have NB212_211 := n7_; clear n0_ n1_ n2_ n3_ n4_ n5_ n6_ n7_; clear hb hbox hg; have hnb119 := NB211_212.out; have hnc119 := NB212_211.out; have hcz120_0 : w118.cell? ⟨gb211, 0, none⟩ = some (.int .i64 a0_0) := (blk_cell BK211.out 0).trans rfl; have hcz120_1 : w118.cell? ⟨gb211, 1, none⟩ = some (.int .i64 a0_1) := (blk_cell BK211.out 1).trans rfl; have hcz120_2 : w118.cell? ⟨gb211, 2, none⟩ = some (.int .u64 a0_2) := (blk_cell BK211.out 2).trans rfl; have hcz120_3 : w118.cell? ⟨gb211, 3, none⟩ = some (.slice A0_3 l0_3.length c0_3) := (blk_cell BK211.out 3).trans rfl; have hfz120_0 := blk_frozen BK211.out 0; have hfz120_1 := blk_frozen BK211.out 1; have hfz120_2 := blk_frozen BK211.out 2; have hfz120_3 := blk_frozen BK211.out 3) | ((with_reducible refine gate_callee (f := 10) rfl ?_); refine goesL_ (some 12) rfl rfl Try.func10 (by kernel_rfl) rfl #[.agg #[.int .i64 a0_0, .int .i64 a0_1, .int .u64 a0_2, .slice A0_3 l0_3.length c0_3]] rfl (by (try simp only [List.map_toArray, List.map_cons, List.map_nil]); first | done | rfl | (simp only [List.length_drop, List.length_take]; rfl)) ?_; (with_reducible refine (jobshellref32_Valid.calls k a0_0 a0_1 a0_2 _ _ l0_3 t213 _ ?side1 ?side2 A3.out).mono ?_); (case side1 => repeat (first | exact (Kd.V_reads' HO0_3.out).2.2 | (with_reducible refine Kd.C_alloc ?_ _) | (with_reducible refine Kd.C_drewN ?_ _) | (with_reducible refine Kd.C_drew ?_))); (case side2 => exact (Kd.V_reads' HO0_3.out).2.1); rintro e w121 ⟨rfl, hb⟩; refine ⟨_, rfl, ?_⟩; have n0_ := Aside0.mk (Kd.V_below (by (with_reducible repeat (first | apply Kd.V_alloc | apply Kd.V_drewN | apply Kd.V_drew)); exact HO0_3.out) hb); have n1_ := Aside0.mk (blk_below (g := gb211) (o := .cells #[.int .i64 a0_0, .int .i64 a0_1, .int .u64 a0_2, .slice A0_3 l0_3.length c0_3] 25 (0, 0)) (by (with_reducible repeat (first | refine blk_drewN ?_ _ | refine blk_drew ?_ | refine blk_alloc ?_ _)); exact BK211.out) hb); have n2_ := Aside0.mk (blk_below (g := gb212) (o := .cells #[.int .i64 0, .int .i64 0, .int .u64 0, .slice none 0 0] 25 (0, 0)) (by (with_reducible repeat (first | refine blk_drewN ?_ _ | refine blk_drew ?_ | refine blk_alloc ?_ _)); exact BK212.out) hb); have n3_ := Aside0.mk (below_step (by repeat (first | (with_reducible first | exact HB.out | apply below_alloc | apply pw_below_drewN | apply below_drew1 | refine below_set ?_ GE211.out | refine below_set ?_ GE212.out) | exact HB.out)) hb); clear HO0_3; clear BK211; clear BK212; clear HB; have HO0_3 := n0_; have BK211 := n1_; have BK212 := n2_; have HB := n3_; clear n0_ n1_ n2_ n3_; (try clear hb); (try clear hb2); (try clear hk); (try clear hi); have hcz122_0 : w121.cell? ⟨gb212, 0, none⟩ = some (.int .i64 0) := (blk_cell BK212.out 0).trans rfl; have hcz122_1 : w121.cell? ⟨gb212, 1, none⟩ = some (.int .i64 0) := (blk_cell BK212.out 1).trans rfl; have hcz122_2 : w121.cell? ⟨gb212, 2, none⟩ = some (.int .u64 0) := (blk_cell BK212.out 2).trans rfl; have hcz122_3 : w121.cell? ⟨gb212, 3, none⟩ = some (.slice none 0 0) := (blk_cell BK212.out 3).trans rfl; have hfz122_0 := blk_frozen BK212.out 0; have hfz122_1 := blk_frozen BK212.out 1; have hfz122_2 := blk_frozen BK212.out 2; have hfz122_3 := blk_frozen BK212.out 3))
    refine bodyPost_ret (results_list (rs := [.tmp 4, .cell 5 25, .tmp 6]) rfl (by simp) (.tmp (.cell gb212 25 #[.int .i64 0, .int .i64 0, .int .u64 0, .slice none 0 0] (0, 0) _ rfl (by (with_reducible repeat (first | refine blk_drewN ?_ _ | refine blk_drew ?_ | refine blk_alloc ?_ _)); refine blk_put (cs := #[.int .i64 0, .int .i64 0, .int .u64 0, .slice none 0 0]) ?_ 3 _ rfl; (with_reducible repeat (first | refine blk_drewN ?_ _ | refine blk_drew ?_ | refine blk_alloc ?_ _)); refine blk_put (cs := #[.int .i64 0, .int .i64 0, .int .u64 0, .slice none 0 0]) ?_ 2 _ rfl; (with_reducible repeat (first | refine blk_drewN ?_ _ | refine blk_drew ?_ | refine blk_alloc ?_ _)); refine blk_put (cs := #[.int .i64 0, .int .i64 0, .int .u64 0, .slice none 0 0]) ?_ 1 _ rfl; (with_reducible repeat (first | refine blk_drewN ?_ _ | refine blk_drew ?_ | refine blk_alloc ?_ _)); refine blk_put (cs := #[.int .i64 0, .int .i64 0, .int .u64 0, .slice none 0 0]) ?_ 0 _ rfl; (with_reducible repeat (first | refine blk_drewN ?_ _ | refine blk_drew ?_ | refine blk_alloc ?_ _)); exact BK212.out) Try.underlying25 rfl (by kernel_rfl) (.tmp .nil)))) rfl ?_
    exact ⟨_, by first | rfl | (simp [errW_none, errW_some] <;> rfl) | (simp [*, errW_none, errW_some] <;> rfl), Kd.V_nil _ _ _ _ _, by repeat (first | (with_reducible first | exact HB.out | apply below_alloc | apply pw_below_drewN | apply below_drew1 | refine below_set ?_ GE211.out | refine below_set ?_ GE212.out) | exact HB.out)⟩

end Go.Proofs.Yteffbobpffkjlaa.Q
