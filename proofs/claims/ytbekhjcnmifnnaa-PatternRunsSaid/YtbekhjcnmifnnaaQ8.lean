import Derived.Test.YtbekhjcnmifnnaaQ0
import Derived.Test.YtbekhjcnmifnnaaQ4
import Derived.Test.YtbekhjcnmifnnaaQ6
import Derived.Test.YtbekhjcnmifnnaaGSpans
set_option linter.unusedVariables false
set_option linter.unusedSimpArgs false
namespace Go.Proofs.Ytbekhjcnmifnnaa.Q
open Go.RowKit Go.Proofs.YtbekhjcnmifnnaaW.PrintWords Go.Proofs.YtbekhjcnmifnnaaW.PrintLast Go.Proofs.YtbekhjcnmifnnaaW.PrintMore
mutual
def pattern_bracket.j0 : Nat → List (S51) → Int → Bool → Int → ByteArray → Bool → Option (Int × ByteArray × Bool × (List (S58)) × Int)
 | 0, _, _, _, _, _, _ => none
 | k + 1, x0, x7, x32, x122000, x122001, x122002 => if x32 = true then (pattern_bracket.j1 k x0 (wrap64 (x7 + 1)) x122000 x122001 true) else (pattern_bracket.j1 k x0 x7 x122000 x122001 x122002)
def pattern_bracket.j1 : Nat → List (S51) → Int → Int → ByteArray → Bool → Option (Int × ByteArray × Bool × (List (S58)) × Int)
 | 0, _, _, _, _, _ => none
 | k + 1, x0, x7, x122000, x122001, x122002 => pattern_bracket.l0 k x0 x7 (⟨#[]⟩ : ByteArray) x7 x122000 x122001 x122002
def pattern_bracket.l0 : Nat → List (S51) → Int → ByteArray → Int → Int → ByteArray → Bool → Option (Int × ByteArray × Bool × (List (S58)) × Int)
 | 0, _, _, _, _, _, _, _ => none
 | k + 1, x0, x7, x8, x9, x122000, x122001, x122002 => if x7 < (x0.length : Int) then (if 0 ≤ x7 then ((pattern_element_is.f ((rd_T51 x0 x7).f0) ((rd_T51 x0 x7).f1) 93).bind fun t127 => (if t127 = true then (pattern_bracket.j3 k x0 x7 x8 x9 (decide (x7 > x9)) x122000 x122001 x122002) else (pattern_bracket.j3 k x0 x7 x8 x9 false x122000 x122001 x122002))) else (none)) else (some (0, (⟨#[]⟩ : ByteArray), false, ([] : List (S58)), 0))
def pattern_bracket.j3 : Nat → List (S51) → Int → ByteArray → Int → Bool → Int → ByteArray → Bool → Option (Int × ByteArray × Bool × (List (S58)) × Int)
 | 0, _, _, _, _, _, _, _, _ => none
 | k + 1, x0, x7, x8, x9, x50, x122000, x122001, x122002 => if x50 = true then ((pattern_bytes_spans.f x8).bind fun t128 => (some (x122000, x122001, x122002, t128, wrap64 (x7 + 1)))) else ((pattern_className.f k x0 x7).bind fun bt131 => (if bt131.2 > 0 then ((pattern_bytes_class.f x8 bt131.1).bind fun t133 => (pattern_bracket.j4 k x0 x7 t133.2 x9 bt131.2 t133.1 x122000 x122001 x122002)) else (pattern_bracket.j4 k x0 x7 x8 x9 bt131.2 false x122000 x122001 x122002)))
def pattern_bracket.j4 : Nat → List (S51) → Int → ByteArray → Int → Int → Bool → Int → ByteArray → Bool → Option (Int × ByteArray × Bool × (List (S58)) × Int)
 | 0, _, _, _, _, _, _, _, _, _ => none
 | k + 1, x0, x7, x8, x9, x11, x67, x122000, x122001, x122002 => if x67 = true then (pattern_bracket.l0 k x0 x11 x8 x9 x122000 x122001 x122002) else (if (wrap64 (x7 + 2)) < (x0.length : Int) then (if 0 ≤ (wrap64 (x7 + 1)) then (if (wrap64 (x7 + 1)) < (x0.length : Int) then ((pattern_element_is.f ((rd_T51 x0 (wrap64 (x7 + 1))).f0) ((rd_T51 x0 (wrap64 (x7 + 1))).f1) 45).bind fun t135 => (if t135 = true then (if 0 ≤ (wrap64 (x7 + 2)) then ((pattern_element_is.f ((rd_T51 x0 (wrap64 (x7 + 2))).f0) ((rd_T51 x0 (wrap64 (x7 + 2))).f1) 93).bind fun t137 => (pattern_bracket.j5 k x0 x7 x8 x9 (!t137) x122000 x122001 x122002)) else (none)) else (pattern_bracket.j5 k x0 x7 x8 x9 false x122000 x122001 x122002))) else (none)) else (none)) else (pattern_bracket.j5 k x0 x7 x8 x9 false x122000 x122001 x122002))
def pattern_bracket.j5 : Nat → List (S51) → Int → ByteArray → Int → Bool → Int → ByteArray → Bool → Option (Int × ByteArray × Bool × (List (S58)) × Int)
 | 0, _, _, _, _, _, _, _, _ => none
 | k + 1, x0, x7, x8, x9, x90, x122000, x122001, x122002 => if x90 = true then (if 0 ≤ x7 then (if x7 < (x0.length : Int) then (if 0 ≤ (wrap64 (x7 + 2)) then (if (wrap64 (x7 + 2)) < (x0.length : Int) then ((pattern_bytes_add.f x8 ((rd_T51 x0 x7).f0) ((rd_T51 x0 (wrap64 (x7 + 2))).f0)).bind fun t140 => (pattern_bracket.l0 k x0 (wrap64 (x7 + 3)) t140 x9 x122000 x122001 x122002)) else (none)) else (none)) else (none)) else (none)) else (if 0 ≤ x7 then (if x7 < (x0.length : Int) then ((pattern_bytes_add.f x8 ((rd_T51 x0 x7).f0) ((rd_T51 x0 x7).f0)).bind fun t143 => (pattern_bracket.l0 k x0 (wrap64 (x7 + 1)) t143 x9 x122000 x122001 x122002)) else (none)) else (none))
end
def pattern_bracket.f (k : Nat) (l0 : List (S51)) (a1 : Int) : Option (Int × ByteArray × Bool × (List (S58)) × Int) := if (wrap64 (a1 + 1)) < (l0.length : Int) then (if 0 ≤ (wrap64 (a1 + 1)) then ((pattern_element_is.f ((rd_T51 l0 (wrap64 (a1 + 1))).f0) ((rd_T51 l0 (wrap64 (a1 + 1))).f1) 33).bind fun t123 => (if t123 = true then (pattern_bracket.j0 k l0 (wrap64 (a1 + 1)) true 4 (⟨#[]⟩ : ByteArray) false) else ((pattern_element_is.f ((rd_T51 l0 (wrap64 (a1 + 1))).f0) ((rd_T51 l0 (wrap64 (a1 + 1))).f1) 94).bind fun t125 => (pattern_bracket.j0 k l0 (wrap64 (a1 + 1)) t125 4 (⟨#[]⟩ : ByteArray) false)))) else (none)) else (pattern_bracket.j0 k l0 (wrap64 (a1 + 1)) false 4 (⟨#[]⟩ : ByteArray) false)
theorem pattern_bracket.mono_l : ∀ k, (∀ y0 y1 y2 y3 y4 y5, LeO (pattern_bracket.j0 k y0 y1 y2 y3 y4 y5) (pattern_bracket.j0 (k + 1) y0 y1 y2 y3 y4 y5)) ∧ (∀ y0 y1 y2 y3 y4, LeO (pattern_bracket.j1 k y0 y1 y2 y3 y4) (pattern_bracket.j1 (k + 1) y0 y1 y2 y3 y4)) ∧ (∀ y0 y1 y2 y3 y4 y5 y6, LeO (pattern_bracket.l0 k y0 y1 y2 y3 y4 y5 y6) (pattern_bracket.l0 (k + 1) y0 y1 y2 y3 y4 y5 y6)) ∧ (∀ y0 y1 y2 y3 y4 y5 y6 y7, LeO (pattern_bracket.j3 k y0 y1 y2 y3 y4 y5 y6 y7) (pattern_bracket.j3 (k + 1) y0 y1 y2 y3 y4 y5 y6 y7)) ∧ (∀ y0 y1 y2 y3 y4 y5 y6 y7 y8, LeO (pattern_bracket.j4 k y0 y1 y2 y3 y4 y5 y6 y7 y8) (pattern_bracket.j4 (k + 1) y0 y1 y2 y3 y4 y5 y6 y7 y8)) ∧ (∀ y0 y1 y2 y3 y4 y5 y6 y7, LeO (pattern_bracket.j5 k y0 y1 y2 y3 y4 y5 y6 y7) (pattern_bracket.j5 (k + 1) y0 y1 y2 y3 y4 y5 y6 y7))
 | 0 => ⟨fun _ _ _ _ _ _ r h => by simp [pattern_bracket.j0] at h, fun _ _ _ _ _ r h => by simp [pattern_bracket.j1] at h, fun _ _ _ _ _ _ _ r h => by simp [pattern_bracket.l0] at h, fun _ _ _ _ _ _ _ _ r h => by simp [pattern_bracket.j3] at h, fun _ _ _ _ _ _ _ _ _ r h => by simp [pattern_bracket.j4] at h, fun _ _ _ _ _ _ _ _ r h => by simp [pattern_bracket.j5] at h⟩
 | k + 1 => by
  obtain ⟨ih0, ih1, ih2, ih3, ih4, ih5⟩ := pattern_bracket.mono_l k
  refine ⟨?_, ?_, ?_, ?_, ?_, ?_⟩
  all_goals (intros; first | unfold pattern_bracket.j0 | unfold pattern_bracket.j1 | unfold pattern_bracket.l0 | unfold pattern_bracket.j3 | unfold pattern_bracket.j4 | unfold pattern_bracket.j5)
  all_goals repeat' first
   | (with_reducible exact ih0 _ _ _ _ _ _)
   | (with_reducible exact ih1 _ _ _ _ _)
   | (with_reducible exact ih2 _ _ _ _ _ _ _)
   | (with_reducible exact ih3 _ _ _ _ _ _ _ _)
   | (with_reducible exact ih4 _ _ _ _ _ _ _ _ _)
   | (with_reducible exact ih5 _ _ _ _ _ _ _ _)
   | (with_reducible exact pattern_className.mono _ _ _)
   | (with_reducible exact LeO.refl _)
   | (with_reducible exact LeO.none _)
   | (with_reducible refine LeO.ite ?_ ?_)
   | (with_reducible refine LeO.bind ?_ (fun _ => ?_))
theorem pattern_bracket.mono : ∀ a0 a1 k, LeO (pattern_bracket.f k a0 a1) (pattern_bracket.f (k + 1) a0 a1) := by
 intro a0 a1 k
 obtain ⟨ih0, ih1, ih2, ih3, ih4, ih5⟩ := pattern_bracket.mono_l k
 unfold pattern_bracket.f
 repeat' first
  | (with_reducible exact ih0 _ _ _ _ _ _)
  | (with_reducible exact ih1 _ _ _ _ _)
  | (with_reducible exact ih2 _ _ _ _ _ _ _)
  | (with_reducible exact ih3 _ _ _ _ _ _ _ _)
  | (with_reducible exact ih4 _ _ _ _ _ _ _ _ _)
  | (with_reducible exact ih5 _ _ _ _ _ _ _ _)
  | (with_reducible exact pattern_className.mono _ _ _)
  | (with_reducible exact LeO.refl _)
  | (with_reducible exact LeO.none _)
  | (with_reducible refine LeO.ite ?_ ?_)
  | (with_reducible refine LeO.bind ?_ (fun _ => ?_))
set_option maxHeartbeats 8000000 in
set_option maxRecDepth 100000 in
theorem pattern_bracket.calls (k : Nat) (A0 : Option Addr) (c0 : Nat) (l0 : List (S51)) (a1 : Int) (r1 : Int) (r2 : ByteArray) (r3 : Bool) (r4 : List (S58)) (r5 : Int) (w : World) (hr0 : Kd.C k51 w A0 l0.length l0) (hc0 : l0.length ≤ c0) (h : pattern_bracket.f k l0 a1 = some (r1, r2, r3, r4, r5)) :
 Calls Try.prog 34 #[.slice A0 l0.length c0, .int .i64 a1] w fun e w' => ∃ v3_ : Value, e = .returned (.tuple #[.agg #[.int .i64 r1, .string r2, .bool r3, v3_], .int .i64 r5]) ∧ Kd.R k58 58 w' w.heap.size (fun _ => True) v3_ r4 ∧ Below w.heap.size w w' := by
 have hu35 := Try.underlying35
 have hu51 := Try.underlying51
 have HR0 := m_ hr0
 have HC0 := m_ hc0
 clear hr0 hc0
 have HB := m_ (Below.refl w.heap.size w)
 have H : (if (wrap64 (a1 + 1)) < (l0.length : Int) then (if 0 ≤ (wrap64 (a1 + 1)) then ((pattern_element_is.f ((rd_T51 l0 (wrap64 (a1 + 1))).f0) ((rd_T51 l0 (wrap64 (a1 + 1))).f1) 33).bind fun t123 => (if t123 = true then (pattern_bracket.j0 k l0 (wrap64 (a1 + 1)) true 4 (⟨#[]⟩ : ByteArray) false) else ((pattern_element_is.f ((rd_T51 l0 (wrap64 (a1 + 1))).f0) ((rd_T51 l0 (wrap64 (a1 + 1))).f1) 94).bind fun t125 => (pattern_bracket.j0 k l0 (wrap64 (a1 + 1)) t125 4 (⟨#[]⟩ : ByteArray) false)))) else (none)) else (pattern_bracket.j0 k l0 (wrap64 (a1 + 1)) false 4 (⟨#[]⟩ : ByteArray) false)) = some (r1, r2, r3, r4, r5) := h
 clear h
 have HC3 := m_ H
 clear H
 go_enter Try.func34, Try.ntmps34
 go_upto_region 3 with (first | ((with_reducible refine gate_dst (N := 4) rfl ?_); refine box_event ?hg (N := 4) ?hd (cs := #[.int .i64 0, .string (⟨#[]⟩ : ByteArray), .bool false, .slice none 0 0]) (t := 35) ?hr ?_; (case hd => rfl); (case hg => rfl); (case hr => first | (go_simp; done) | (go_simp; rfl)); intro gb120 hg w4 hbox hb; have BK120 := m_ (hbox); have GW120 := m_ ((by rw [hg]; exact (l6_ (by repeat (with_reducible first | exact HB.out | apply l1_ | apply l2_ | apply l3_))) : w.heap.size ≤ gb120)); have GE120 := m_ ((by rw [hg]; exact (l6_ (by repeat (with_reducible first | exact HB.out | apply l1_ | apply l2_ | apply l3_))) : w.heap.size ≤ gb120)); replace HB := m_ (l5_ (by repeat (with_reducible first | exact HB.out | apply l1_ | apply l2_ | apply l3_)) hb); clear hb hbox hg) | ((with_reducible refine gate_dst (N := 6) rfl ?_); refine box_event ?hg (N := 6) ?hd (cs := #[.int .i64 0, .string (⟨#[]⟩ : ByteArray), .bool false, .slice none 0 0]) (t := 35) ?hr ?_; (case hd => rfl); (case hg => rfl); (case hr => first | (go_simp; done) | (go_simp; rfl)); intro gb121 hg w5 hbox hb; have BK121 := m_ (hbox); have GW121 := m_ ((by rw [hg]; exact (l6_ (by repeat (with_reducible first | exact HB.out | apply l1_ | apply l2_ | apply l3_ | refine l4_ ?_ GE120.out))) : w.heap.size ≤ gb121)); have GE121 := m_ ((by rw [hg]; exact (l6_ (by repeat (with_reducible first | exact HB.out | apply l1_ | apply l2_ | apply l3_ | refine l4_ ?_ GE120.out))) : w.heap.size ≤ gb121)); replace HB := m_ (l5_ (by repeat (with_reducible first | exact HB.out | apply l1_ | apply l2_ | apply l3_ | refine l4_ ?_ GE120.out)) hb); have NB120_121 := m_ ((by rw [hg]; exact Nat.ne_of_lt (blk_lt (g := gb120) (o := .cells #[.int .i64 0, .string (⟨#[]⟩ : ByteArray), .bool false, .slice none 0 0] 35 (0, 0)) (by (with_reducible repeat (first | refine b1_ ?_ _ | refine b2_ ?_ | refine b3_ ?_ _)); exact BK120.out)) : gb120 ≠ gb121)); have NB121_120 := m_ ((by rw [hg]; exact Nat.ne_of_gt (blk_lt (g := gb120) (o := .cells #[.int .i64 0, .string (⟨#[]⟩ : ByteArray), .bool false, .slice none 0 0] 35 (0, 0)) (by (with_reducible repeat (first | refine b1_ ?_ _ | refine b2_ ?_ | refine b3_ ?_ _)); exact BK120.out)) : gb121 ≠ gb120)); replace BK120 := m_ (b4_ (g := gb120) (o := .cells #[.int .i64 0, .string (⟨#[]⟩ : ByteArray), .bool false, .slice none 0 0] 35 (0, 0)) (by (with_reducible repeat (first | refine b1_ ?_ _ | refine b2_ ?_ | refine b3_ ?_ _)); exact BK120.out) hb); clear hb hbox hg; have hnb6 := NB121_120.out; have hnc6 := NB120_121.out; have hcz7_0 : w5.cell? ⟨gb121, 0, none⟩ = some (.int .i64 0) := (b5_ BK121.out 0).trans rfl; have hcz7_1 : w5.cell? ⟨gb121, 1, none⟩ = some (.string (⟨#[]⟩ : ByteArray)) := (b5_ BK121.out 1).trans rfl; have hcz7_2 : w5.cell? ⟨gb121, 2, none⟩ = some (.bool false) := (b5_ BK121.out 2).trans rfl; have hcz7_3 : w5.cell? ⟨gb121, 3, none⟩ = some (.slice none 0 0) := (b5_ BK121.out 3).trans rfl; have hfz7_0 := f1_ BK121.out 0; have hfz7_1 := f1_ BK121.out 1; have hfz7_2 := f1_ BK121.out 2; have hfz7_3 := f1_ BK121.out 3))
 (try simp only [Act.put, List.setIfInBounds_toArray, List.set_cons_zero, List.set_cons_succ])
 go_cut [32] (fun v32 wc => ∃ (kq : Nat) (x32_2 : Bool), v32 = .bool x32_2 ∧ Aside0 (pattern_bracket.j0 kq l0 (wrap64 (a1 + 1)) x32_2 4 (⟨#[]⟩ : ByteArray) false = some (r1, r2, r3, r4, r5)) ∧ Aside0 (kq ≤ k) ∧ Aside0 (wc.heap[gb120]? = some (.cells #[.int .i64 0, .string (⟨#[]⟩ : ByteArray), .bool false, (.slice none 0 0)] 35 (0, 0))) ∧ Aside0 (wc.heap[gb121]? = some (.cells #[.int .i64 4, .string (⟨#[]⟩ : ByteArray), .bool false, (.slice none 0 0)] 35 (0, 0))) ∧ Aside0 (Below w.heap.size w wc))
 case first =>
  have H := HC3.out
  clear HC3
  by_cases c8 : (wrap64 (a1 + 1)) < (l0.length : Int)
  ·
   rw [if_pos c8] at H
   have c8b0 : decide ((wrap64 (a1 + 1)) < (l0.length : Int)) = true := decide_eq_true c8
   clear c8
   (first | rw [c8b0] | (simp only [i64_w, i32_w]; rw [c8b0]) | skip)
   obtain ⟨ji9, hji9⟩ : ∃ j_ : Int, (wrap64 (a1 + 1)) = j_ := ⟨_, rfl⟩
   first | rw [hji9] at H | simp only [hji9] at H
   (try rw [hji9] at c8b0)
   have hji9w : (IntKind.i64.wrap (a1 + 1)) = ji9 := (i64_w _).trans hji9
   by_cases c10 : 0 ≤ (ji9)
   ·
    rw [if_pos c10] at H
    have c10b0 : decide (0 ≤ (ji9)) = true := decide_eq_true c10
    clear c10
    replace H := Option.bind_eq_some_iff.mp H
    obtain ⟨t123, A110, H⟩ := H
    try dsimp -simprocs only at H
    have A11 := m_ A110
    clear A110
    by_cases c12 : t123 = true
    ·
     subst c12
     rw [if_pos rfl] at H
     have H' := m_ H
     clear H
     have p122 : 0 ≤ ((ji9) : Int) := o1_ (by with_reducible assumption)
     have q122 : (ji9) < (l0.length : Int) := o1_ (by with_reducible assumption)
     obtain ⟨ad122, e122, hx122_0, hx122_1⟩ := at_T51 HR0.out (ji9) p122 q122
     cases e122
     have hn122_0 : ad122.block ≠ gb121 := Nat.ne_of_lt (Nat.lt_of_lt_of_le (by have := c1_ _ _ hx122_0; first | rwa [add_block] at this | exact this) GW121.out)
     have hn122_1 : ad122.block ≠ gb121 := Nat.ne_of_lt (Nat.lt_of_lt_of_le (by have := c1_ _ _ hx122_0; first | rwa [add_block] at this | exact this) GW121.out)
     have hn122_2 : ad122.block ≠ gb121 := Nat.ne_of_lt (Nat.lt_of_lt_of_le (by have := c1_ _ _ hx122_0; first | rwa [add_block] at this | exact this) GW121.out)
     have hn122_3 : ad122.block ≠ gb121 := Nat.ne_of_lt (Nat.lt_of_lt_of_le (by have := c1_ _ _ hx122_0; first | rwa [add_block] at this | exact this) GW121.out)
     replace hx122_0 := (HB.out.cell (c1_ w _ hx122_0)).trans hx122_0
     replace hx122_1 := (HB.out.cell (c1_ w _ hx122_1)).trans hx122_1
     replace hx122_0 := (cell_far (p := ⟨gb121, 0, none⟩) (by first | (rw [add_block]; exact hn122_0) | (show (Addr.add _ _).block ≠ _; rw [add_block]; exact hn122_0) | exact hn122_0) (.int .i64 4)).trans hx122_0
     replace hx122_1 := (cell_far (p := ⟨gb121, 0, none⟩) (by first | (rw [add_block]; exact hn122_0) | (show (Addr.add _ _).block ≠ _; rw [add_block]; exact hn122_0) | exact hn122_0) (.int .i64 4)).trans hx122_1
     replace hx122_0 := (cell_far (p := ⟨gb121, 1, none⟩) (by first | (rw [add_block]; exact hn122_1) | (show (Addr.add _ _).block ≠ _; rw [add_block]; exact hn122_1) | exact hn122_1) (.string (⟨#[]⟩ : ByteArray))).trans hx122_0
     replace hx122_1 := (cell_far (p := ⟨gb121, 1, none⟩) (by first | (rw [add_block]; exact hn122_1) | (show (Addr.add _ _).block ≠ _; rw [add_block]; exact hn122_1) | exact hn122_1) (.string (⟨#[]⟩ : ByteArray))).trans hx122_1
     replace hx122_0 := (cell_far (p := ⟨gb121, 2, none⟩) (by first | (rw [add_block]; exact hn122_2) | (show (Addr.add _ _).block ≠ _; rw [add_block]; exact hn122_2) | exact hn122_2) (.bool false)).trans hx122_0
     replace hx122_1 := (cell_far (p := ⟨gb121, 2, none⟩) (by first | (rw [add_block]; exact hn122_2) | (show (Addr.add _ _).block ≠ _; rw [add_block]; exact hn122_2) | exact hn122_2) (.bool false)).trans hx122_1
     replace hx122_0 := (cell_far (p := ⟨gb121, 3, none⟩) (by first | (rw [add_block]; exact hn122_3) | (show (Addr.add _ _).block ≠ _; rw [add_block]; exact hn122_3) | exact hn122_3) (.slice none 0 0)).trans hx122_0
     replace hx122_1 := (cell_far (p := ⟨gb121, 3, none⟩) (by first | (rw [add_block]; exact hn122_3) | (show (Addr.add _ _).block ≠ _; rw [add_block]; exact hn122_3) | exact hn122_3) (.slice none 0 0)).trans hx122_1
     (try have hy122_0 := fun (n_ : Nat) => ((congrArg (fun z_ : World => z_.cell? _) (show (((((w5.drewN n_).setCell ⟨gb121, 0, none⟩ (.int .i64 4)).setCell ⟨gb121, 1, none⟩ (.string (⟨#[]⟩ : ByteArray))).setCell ⟨gb121, 2, none⟩ (.bool false)).setCell ⟨gb121, 3, none⟩ (.slice none 0 0)) = World.drewN _ n_ by simp only [fk_setCell_drewN])).trans ((show ∀ (X_ : World) (m_ : Nat) (p_ : Addr), (X_.drewN m_).cell? p_ = X_.cell? p_ from fun _ _ _ => rfl) _ n_ _)).trans hx122_0)
     (try have hy122_1 := fun (n_ : Nat) => ((congrArg (fun z_ : World => z_.cell? _) (show (((((w5.drewN n_).setCell ⟨gb121, 0, none⟩ (.int .i64 4)).setCell ⟨gb121, 1, none⟩ (.string (⟨#[]⟩ : ByteArray))).setCell ⟨gb121, 2, none⟩ (.bool false)).setCell ⟨gb121, 3, none⟩ (.slice none 0 0)) = World.drewN _ n_ by simp only [fk_setCell_drewN])).trans ((show ∀ (X_ : World) (m_ : Nat) (p_ : Addr), (X_.drewN m_).cell? p_ = X_.cell? p_ from fun _ _ _ => rfl) _ n_ _)).trans hx122_1)
     clear hn122_0
     clear hn122_1
     clear hn122_2
     clear hn122_3
     replace p122 := eq_true p122
     replace q122 := eq_true q122
     go_wp2_with (first | (go_at_call 33; (with_reducible refine (pattern_element_is.calls ((rd_T51 l0 (ji9)).f0) ((rd_T51 l0 (ji9)).f1) 33 true _ A11.out).mono ?_); rintro e w13 ⟨rfl, hb⟩; replace BK120 := m_ (b4_ (g := gb120) (o := .cells #[.int .i64 0, .string (⟨#[]⟩ : ByteArray), .bool false, .slice none 0 0] 35 (0, 0)) (by (with_reducible repeat (first | refine b1_ ?_ _ | refine b2_ ?_ | refine b3_ ?_ _)); refine blk_far ?_ NB120_121.out _; (with_reducible repeat (first | refine b1_ ?_ _ | refine b2_ ?_ | refine b3_ ?_ _)); refine blk_far ?_ NB120_121.out _; (with_reducible repeat (first | refine b1_ ?_ _ | refine b2_ ?_ | refine b3_ ?_ _)); refine blk_far ?_ NB120_121.out _; (with_reducible repeat (first | refine b1_ ?_ _ | refine b2_ ?_ | refine b3_ ?_ _)); refine blk_far ?_ NB120_121.out _; (with_reducible repeat (first | refine b1_ ?_ _ | refine b2_ ?_ | refine b3_ ?_ _)); exact BK120.out) hb); replace BK121 := m_ (b4_ (g := gb121) (o := .cells #[.int .i64 4, .string (⟨#[]⟩ : ByteArray), .bool false, .slice none 0 0] 35 (0, 0)) (by (with_reducible repeat (first | refine b1_ ?_ _ | refine b2_ ?_ | refine b3_ ?_ _)); refine blk_put (cs := #[.int .i64 4, .string (⟨#[]⟩ : ByteArray), .bool false, .slice none 0 0]) ?_ 3 _ rfl; (with_reducible repeat (first | refine b1_ ?_ _ | refine b2_ ?_ | refine b3_ ?_ _)); refine blk_put (cs := #[.int .i64 4, .string (⟨#[]⟩ : ByteArray), .bool false, .slice none 0 0]) ?_ 2 _ rfl; (with_reducible repeat (first | refine b1_ ?_ _ | refine b2_ ?_ | refine b3_ ?_ _)); refine blk_put (cs := #[.int .i64 4, .string (⟨#[]⟩ : ByteArray), .bool false, .slice none 0 0]) ?_ 1 _ rfl; (with_reducible repeat (first | refine b1_ ?_ _ | refine b2_ ?_ | refine b3_ ?_ _)); refine blk_put (cs := #[.int .i64 0, .string (⟨#[]⟩ : ByteArray), .bool false, .slice none 0 0]) ?_ 0 _ rfl; (with_reducible repeat (first | refine b1_ ?_ _ | refine b2_ ?_ | refine b3_ ?_ _)); exact BK121.out) hb); replace HB := m_ (l5_ (by repeat (with_reducible first | exact HB.out | apply l1_ | apply l2_ | apply l3_ | refine l4_ ?_ GE120.out | refine l4_ ?_ GE121.out)) hb); (try clear hb)))
     (try subst hji9)
     go_meet
     case rel => exact ⟨_, (true), (by first | rfl | (simp; done) | (simp [*]; done)), H', ⟨by first | omega | exact Nat.le_refl _⟩, ⟨by (with_reducible repeat (first | refine b1_ ?_ _ | refine b2_ ?_ | refine b3_ ?_ _)); exact BK120.out⟩, ⟨by (with_reducible repeat (first | refine b1_ ?_ _ | refine b2_ ?_ | refine b3_ ?_ _)); exact BK121.out⟩, ⟨by repeat (with_reducible first | exact HB.out | apply l1_ | apply l2_ | apply l3_ | refine l4_ ?_ GE120.out | refine l4_ ?_ GE121.out)⟩⟩
    ·
     replace c12 := Bool.eq_false_iff.mpr c12
     subst c12
     rw [if_neg (show ¬ (false = true) by decide)] at H
     replace H := Option.bind_eq_some_iff.mp H
     obtain ⟨t125, A140, H⟩ := H
     try dsimp -simprocs only at H
     have A14 := m_ A140
     clear A140
     have H' := m_ H
     clear H
     have p122 : 0 ≤ ((ji9) : Int) := o1_ (by with_reducible assumption)
     have q122 : (ji9) < (l0.length : Int) := o1_ (by with_reducible assumption)
     obtain ⟨ad122, e122, hx122_0, hx122_1⟩ := at_T51 HR0.out (ji9) p122 q122
     cases e122
     have hn122_0 : ad122.block ≠ gb121 := Nat.ne_of_lt (Nat.lt_of_lt_of_le (by have := c1_ _ _ hx122_0; first | rwa [add_block] at this | exact this) GW121.out)
     have hn122_1 : ad122.block ≠ gb121 := Nat.ne_of_lt (Nat.lt_of_lt_of_le (by have := c1_ _ _ hx122_0; first | rwa [add_block] at this | exact this) GW121.out)
     have hn122_2 : ad122.block ≠ gb121 := Nat.ne_of_lt (Nat.lt_of_lt_of_le (by have := c1_ _ _ hx122_0; first | rwa [add_block] at this | exact this) GW121.out)
     have hn122_3 : ad122.block ≠ gb121 := Nat.ne_of_lt (Nat.lt_of_lt_of_le (by have := c1_ _ _ hx122_0; first | rwa [add_block] at this | exact this) GW121.out)
     replace hx122_0 := (HB.out.cell (c1_ w _ hx122_0)).trans hx122_0
     replace hx122_1 := (HB.out.cell (c1_ w _ hx122_1)).trans hx122_1
     replace hx122_0 := (cell_far (p := ⟨gb121, 0, none⟩) (by first | (rw [add_block]; exact hn122_0) | (show (Addr.add _ _).block ≠ _; rw [add_block]; exact hn122_0) | exact hn122_0) (.int .i64 4)).trans hx122_0
     replace hx122_1 := (cell_far (p := ⟨gb121, 0, none⟩) (by first | (rw [add_block]; exact hn122_0) | (show (Addr.add _ _).block ≠ _; rw [add_block]; exact hn122_0) | exact hn122_0) (.int .i64 4)).trans hx122_1
     replace hx122_0 := (cell_far (p := ⟨gb121, 1, none⟩) (by first | (rw [add_block]; exact hn122_1) | (show (Addr.add _ _).block ≠ _; rw [add_block]; exact hn122_1) | exact hn122_1) (.string (⟨#[]⟩ : ByteArray))).trans hx122_0
     replace hx122_1 := (cell_far (p := ⟨gb121, 1, none⟩) (by first | (rw [add_block]; exact hn122_1) | (show (Addr.add _ _).block ≠ _; rw [add_block]; exact hn122_1) | exact hn122_1) (.string (⟨#[]⟩ : ByteArray))).trans hx122_1
     replace hx122_0 := (cell_far (p := ⟨gb121, 2, none⟩) (by first | (rw [add_block]; exact hn122_2) | (show (Addr.add _ _).block ≠ _; rw [add_block]; exact hn122_2) | exact hn122_2) (.bool false)).trans hx122_0
     replace hx122_1 := (cell_far (p := ⟨gb121, 2, none⟩) (by first | (rw [add_block]; exact hn122_2) | (show (Addr.add _ _).block ≠ _; rw [add_block]; exact hn122_2) | exact hn122_2) (.bool false)).trans hx122_1
     replace hx122_0 := (cell_far (p := ⟨gb121, 3, none⟩) (by first | (rw [add_block]; exact hn122_3) | (show (Addr.add _ _).block ≠ _; rw [add_block]; exact hn122_3) | exact hn122_3) (.slice none 0 0)).trans hx122_0
     replace hx122_1 := (cell_far (p := ⟨gb121, 3, none⟩) (by first | (rw [add_block]; exact hn122_3) | (show (Addr.add _ _).block ≠ _; rw [add_block]; exact hn122_3) | exact hn122_3) (.slice none 0 0)).trans hx122_1
     (try have hy122_0 := fun (n_ : Nat) => ((congrArg (fun z_ : World => z_.cell? _) (show (((((w5.drewN n_).setCell ⟨gb121, 0, none⟩ (.int .i64 4)).setCell ⟨gb121, 1, none⟩ (.string (⟨#[]⟩ : ByteArray))).setCell ⟨gb121, 2, none⟩ (.bool false)).setCell ⟨gb121, 3, none⟩ (.slice none 0 0)) = World.drewN _ n_ by simp only [fk_setCell_drewN])).trans ((show ∀ (X_ : World) (m_ : Nat) (p_ : Addr), (X_.drewN m_).cell? p_ = X_.cell? p_ from fun _ _ _ => rfl) _ n_ _)).trans hx122_0)
     (try have hy122_1 := fun (n_ : Nat) => ((congrArg (fun z_ : World => z_.cell? _) (show (((((w5.drewN n_).setCell ⟨gb121, 0, none⟩ (.int .i64 4)).setCell ⟨gb121, 1, none⟩ (.string (⟨#[]⟩ : ByteArray))).setCell ⟨gb121, 2, none⟩ (.bool false)).setCell ⟨gb121, 3, none⟩ (.slice none 0 0)) = World.drewN _ n_ by simp only [fk_setCell_drewN])).trans ((show ∀ (X_ : World) (m_ : Nat) (p_ : Addr), (X_.drewN m_).cell? p_ = X_.cell? p_ from fun _ _ _ => rfl) _ n_ _)).trans hx122_1)
     clear hn122_0
     clear hn122_1
     clear hn122_2
     clear hn122_3
     replace p122 := eq_true p122
     replace q122 := eq_true q122
     go_wp2_with (first | (go_at_call 33; (with_reducible refine (pattern_element_is.calls ((rd_T51 l0 (ji9)).f0) ((rd_T51 l0 (ji9)).f1) 33 false _ A11.out).mono ?_); rintro e w15 ⟨rfl, hb⟩; replace BK120 := m_ (b4_ (g := gb120) (o := .cells #[.int .i64 0, .string (⟨#[]⟩ : ByteArray), .bool false, .slice none 0 0] 35 (0, 0)) (by (with_reducible repeat (first | refine b1_ ?_ _ | refine b2_ ?_ | refine b3_ ?_ _)); refine blk_far ?_ NB120_121.out _; (with_reducible repeat (first | refine b1_ ?_ _ | refine b2_ ?_ | refine b3_ ?_ _)); refine blk_far ?_ NB120_121.out _; (with_reducible repeat (first | refine b1_ ?_ _ | refine b2_ ?_ | refine b3_ ?_ _)); refine blk_far ?_ NB120_121.out _; (with_reducible repeat (first | refine b1_ ?_ _ | refine b2_ ?_ | refine b3_ ?_ _)); refine blk_far ?_ NB120_121.out _; (with_reducible repeat (first | refine b1_ ?_ _ | refine b2_ ?_ | refine b3_ ?_ _)); exact BK120.out) hb); replace BK121 := m_ (b4_ (g := gb121) (o := .cells #[.int .i64 4, .string (⟨#[]⟩ : ByteArray), .bool false, .slice none 0 0] 35 (0, 0)) (by (with_reducible repeat (first | refine b1_ ?_ _ | refine b2_ ?_ | refine b3_ ?_ _)); refine blk_put (cs := #[.int .i64 4, .string (⟨#[]⟩ : ByteArray), .bool false, .slice none 0 0]) ?_ 3 _ rfl; (with_reducible repeat (first | refine b1_ ?_ _ | refine b2_ ?_ | refine b3_ ?_ _)); refine blk_put (cs := #[.int .i64 4, .string (⟨#[]⟩ : ByteArray), .bool false, .slice none 0 0]) ?_ 2 _ rfl; (with_reducible repeat (first | refine b1_ ?_ _ | refine b2_ ?_ | refine b3_ ?_ _)); refine blk_put (cs := #[.int .i64 4, .string (⟨#[]⟩ : ByteArray), .bool false, .slice none 0 0]) ?_ 1 _ rfl; (with_reducible repeat (first | refine b1_ ?_ _ | refine b2_ ?_ | refine b3_ ?_ _)); refine blk_put (cs := #[.int .i64 0, .string (⟨#[]⟩ : ByteArray), .bool false, .slice none 0 0]) ?_ 0 _ rfl; (with_reducible repeat (first | refine b1_ ?_ _ | refine b2_ ?_ | refine b3_ ?_ _)); exact BK121.out) hb); replace HB := m_ (l5_ (by repeat (with_reducible first | exact HB.out | apply l1_ | apply l2_ | apply l3_ | refine l4_ ?_ GE120.out | refine l4_ ?_ GE121.out)) hb); (try clear hb); have p124 : 0 ≤ ((ji9) : Int) := o1_ (by with_reducible assumption); have q124 : (ji9) < (l0.length : Int) := o1_ (by with_reducible assumption); obtain ⟨ad124, e124, hx124_0, hx124_1⟩ := at_T51 HR0.out (ji9) p124 q124; obtain rfl : ad122 = ad124 := (by injection e124); replace hx124_0 := (HB.out.cell (c1_ w _ hx124_0)).trans hx124_0; replace hx124_1 := (HB.out.cell (c1_ w _ hx124_1)).trans hx124_1; replace p124 := eq_true p124; replace q124 := eq_true q124) | (go_at_call 33; (with_reducible refine (pattern_element_is.calls ((rd_T51 l0 (ji9)).f0) ((rd_T51 l0 (ji9)).f1) 94 t125 _ A14.out).mono ?_); rintro e w16 ⟨rfl, hb⟩; replace BK120 := m_ (b4_ (g := gb120) (o := .cells #[.int .i64 0, .string (⟨#[]⟩ : ByteArray), .bool false, .slice none 0 0] 35 (0, 0)) (by (with_reducible repeat (first | refine b1_ ?_ _ | refine b2_ ?_ | refine b3_ ?_ _)); exact BK120.out) hb); replace BK121 := m_ (b4_ (g := gb121) (o := .cells #[.int .i64 4, .string (⟨#[]⟩ : ByteArray), .bool false, .slice none 0 0] 35 (0, 0)) (by (with_reducible repeat (first | refine b1_ ?_ _ | refine b2_ ?_ | refine b3_ ?_ _)); exact BK121.out) hb); replace HB := m_ (l5_ (by repeat (with_reducible first | exact HB.out | apply l1_ | apply l2_ | apply l3_ | refine l4_ ?_ GE120.out | refine l4_ ?_ GE121.out)) hb); (try clear hb)))
     (try subst hji9)
     go_meet
     case rel => exact ⟨_, (t125), (by first | rfl | (simp; done) | (simp [*]; done)), H', ⟨by first | omega | exact Nat.le_refl _⟩, ⟨by (with_reducible repeat (first | refine b1_ ?_ _ | refine b2_ ?_ | refine b3_ ?_ _)); exact BK120.out⟩, ⟨by (with_reducible repeat (first | refine b1_ ?_ _ | refine b2_ ?_ | refine b3_ ?_ _)); exact BK121.out⟩, ⟨by repeat (with_reducible first | exact HB.out | apply l1_ | apply l2_ | apply l3_ | refine l4_ ?_ GE120.out | refine l4_ ?_ GE121.out)⟩⟩
   rw [if_neg c10] at H
   exact absurd H (by simp)
  rw [if_neg c8] at H
  have c8b0 : decide ((wrap64 (a1 + 1)) < (l0.length : Int)) = false := decide_eq_false c8
  clear c8
  (first | rw [c8b0] | (simp only [i64_w, i32_w]; rw [c8b0]) | skip)
  have H' := m_ H
  clear H
  go_wp2
  go_meet
  case rel => exact ⟨_, (false), (by first | rfl | (simp; done) | (simp [*]; done)), H', ⟨by first | omega | exact Nat.le_refl _⟩, ⟨by (with_reducible repeat (first | refine b1_ ?_ _ | refine b2_ ?_ | refine b3_ ?_ _)); refine blk_far ?_ NB120_121.out _; (with_reducible repeat (first | refine b1_ ?_ _ | refine b2_ ?_ | refine b3_ ?_ _)); refine blk_far ?_ NB120_121.out _; (with_reducible repeat (first | refine b1_ ?_ _ | refine b2_ ?_ | refine b3_ ?_ _)); refine blk_far ?_ NB120_121.out _; (with_reducible repeat (first | refine b1_ ?_ _ | refine b2_ ?_ | refine b3_ ?_ _)); refine blk_far ?_ NB120_121.out _; (with_reducible repeat (first | refine b1_ ?_ _ | refine b2_ ?_ | refine b3_ ?_ _)); exact BK120.out⟩, ⟨by (with_reducible repeat (first | refine b1_ ?_ _ | refine b2_ ?_ | refine b3_ ?_ _)); refine blk_put (cs := #[.int .i64 4, .string (⟨#[]⟩ : ByteArray), .bool false, .slice none 0 0]) ?_ 3 _ rfl; (with_reducible repeat (first | refine b1_ ?_ _ | refine b2_ ?_ | refine b3_ ?_ _)); refine blk_put (cs := #[.int .i64 4, .string (⟨#[]⟩ : ByteArray), .bool false, .slice none 0 0]) ?_ 2 _ rfl; (with_reducible repeat (first | refine b1_ ?_ _ | refine b2_ ?_ | refine b3_ ?_ _)); refine blk_put (cs := #[.int .i64 4, .string (⟨#[]⟩ : ByteArray), .bool false, .slice none 0 0]) ?_ 1 _ rfl; (with_reducible repeat (first | refine b1_ ?_ _ | refine b2_ ?_ | refine b3_ ?_ _)); refine blk_put (cs := #[.int .i64 0, .string (⟨#[]⟩ : ByteArray), .bool false, .slice none 0 0]) ?_ 0 _ rfl; (with_reducible repeat (first | refine b1_ ?_ _ | refine b2_ ?_ | refine b3_ ?_ _)); exact BK121.out⟩, ⟨by repeat (with_reducible first | exact HB.out | apply l1_ | apply l2_ | apply l3_ | refine l4_ ?_ GE120.out | refine l4_ ?_ GE121.out)⟩⟩
 case rest =>
  clear HC3
  (try clear c1); (try clear p1); (try clear q1); (try clear hx1); (try clear p2); (try clear c3); (try clear c6); (try clear p6); (try clear c8); (try clear c8b0); (try clear c10); (try clear c10b0); (try clear c12); (try clear p12); (try clear q12); (try clear hx12); (try clear hcz7_0); (try clear hcz7_1); (try clear hcz7_2); (try clear hcz7_3); (try clear hfz7_0); (try clear hfz7_1); (try clear hfz7_2); (try clear hfz7_3); (try clear hx122_0); (try clear hx122_1); (try clear hx124_0); (try clear hx124_1); (try clear p122); (try clear p124); (try clear q122); (try clear q124)
  obtain ⟨kq, x32_2, rfl, HA, HJ2, BK120, BK121, HB⟩ := hcut
  cases kq with
  | zero => exact absurd HA.out (by simp [pattern_bracket.j0])
  | succ kj2 =>
   have H := HA.out
   clear HA
   simp only [pattern_bracket.j0] at H
   have HC17 := m_ H
   clear H
   go_upto_if 32 with (fail)
   go_cut [7] (fun v7 wc => ∃ (kq : Nat) (x7_16 : Int) (x122002_16 : Bool), v7 = .int .i64 x7_16 ∧ Aside0 (pattern_bracket.j1 kq l0 x7_16 4 (⟨#[]⟩ : ByteArray) x122002_16 = some (r1, r2, r3, r4, r5)) ∧ Aside0 (kq ≤ kj2) ∧ Aside0 (wc.heap[gb120]? = some (.cells #[.int .i64 0, .string (⟨#[]⟩ : ByteArray), .bool false, (.slice none 0 0)] 35 (0, 0))) ∧ Aside0 (wc.heap[gb121]? = some (.cells #[.int .i64 4, .string (⟨#[]⟩ : ByteArray), .bool x122002_16, (.slice none 0 0)] 35 (0, 0))) ∧ Aside0 (Below w.heap.size w wc))
   case first =>
    have H := HC17.out
    clear HC17
    by_cases c18 : x32_2 = true
    ·
     subst c18
     rw [if_pos rfl] at H
     have H' := m_ H
     clear H
     have hnb19 := NB121_120.out
     have hnc19 := NB120_121.out
     have hcz20_0 : wc.cell? ⟨gb121, 0, none⟩ = some (.int .i64 4) := (b5_ BK121.out 0).trans rfl
     have hcz20_1 : wc.cell? ⟨gb121, 1, none⟩ = some (.string (⟨#[]⟩ : ByteArray)) := (b5_ BK121.out 1).trans rfl
     have hcz20_2 : wc.cell? ⟨gb121, 2, none⟩ = some (.bool false) := (b5_ BK121.out 2).trans rfl
     have hcz20_3 : wc.cell? ⟨gb121, 3, none⟩ = some (.slice none 0 0) := (b5_ BK121.out 3).trans rfl
     have hfz20_0 := f1_ BK121.out 0
     have hfz20_1 := f1_ BK121.out 1
     have hfz20_2 := f1_ BK121.out 2
     have hfz20_3 := f1_ BK121.out 3
     go_wp2
     go_meet
     case rel => exact ⟨_, (wrap64 ((wrap64 (a1 + 1)) + 1)), (true), (by first | rfl | (simp; done) | (simp [*]; done)), H', ⟨by have := HJ2.out; first | omega | exact Nat.le_refl _⟩, ⟨by (with_reducible repeat (first | refine b1_ ?_ _ | refine b2_ ?_ | refine b3_ ?_ _)); refine blk_far ?_ NB120_121.out _; (with_reducible repeat (first | refine b1_ ?_ _ | refine b2_ ?_ | refine b3_ ?_ _)); exact BK120.out⟩, ⟨by (with_reducible repeat (first | refine b1_ ?_ _ | refine b2_ ?_ | refine b3_ ?_ _)); refine blk_put (cs := #[.int .i64 4, .string (⟨#[]⟩ : ByteArray), .bool false, .slice none 0 0]) ?_ 2 _ rfl; (with_reducible repeat (first | refine b1_ ?_ _ | refine b2_ ?_ | refine b3_ ?_ _)); exact BK121.out⟩, ⟨by repeat (with_reducible first | exact HB.out | apply l1_ | apply l2_ | apply l3_ | refine l4_ ?_ GE120.out | refine l4_ ?_ GE121.out)⟩⟩
    ·
     replace c18 := Bool.eq_false_iff.mpr c18
     subst c18
     rw [if_neg (show ¬ (false = true) by decide)] at H
     have H' := m_ H
     clear H
     go_wp2
     go_meet
     case rel => exact ⟨_, ((wrap64 (a1 + 1))), (false), (by first | rfl | (simp; done) | (simp [*]; done)), H', ⟨by have := HJ2.out; first | omega | exact Nat.le_refl _⟩, ⟨by (with_reducible repeat (first | refine b1_ ?_ _ | refine b2_ ?_ | refine b3_ ?_ _)); exact BK120.out⟩, ⟨by (with_reducible repeat (first | refine b1_ ?_ _ | refine b2_ ?_ | refine b3_ ?_ _)); exact BK121.out⟩, ⟨by repeat (with_reducible first | exact HB.out | apply l1_ | apply l2_ | apply l3_ | refine l4_ ?_ GE120.out | refine l4_ ?_ GE121.out)⟩⟩
   case rest =>
    clear HC17
    (try clear c1); (try clear p1); (try clear q1); (try clear hx1); (try clear p2); (try clear c3); (try clear c6); (try clear p6); (try clear c8); (try clear c8b0); (try clear c10); (try clear c10b0); (try clear c12); (try clear p12); (try clear q12); (try clear hx12); (try clear c18); (try clear c19); (try clear hcz20_0); (try clear hcz20_1); (try clear hcz20_2); (try clear hcz20_3); (try clear hcz7_0); (try clear hcz7_1); (try clear hcz7_2); (try clear hcz7_3); (try clear hfz20_0); (try clear hfz20_1); (try clear hfz20_2); (try clear hfz20_3); (try clear hfz7_0); (try clear hfz7_1); (try clear hfz7_2); (try clear hfz7_3); (try clear hx122_0); (try clear hx122_1); (try clear hx124_0); (try clear hx124_1); (try clear p1); (try clear p12); (try clear p122); (try clear p124); (try clear p2); (try clear p6); (try clear q1); (try clear q12); (try clear q122); (try clear q124)
    obtain ⟨kq, x7_16, x122002_16, rfl, HA, HJ16, BK120, BK121, HB⟩ := hcut
    cases kq with
    | zero => exact absurd HA.out (by simp [pattern_bracket.j1])
    | succ kj16 =>
     have H := HA.out
     clear HA
     simp only [pattern_bracket.j1] at H
     have H' := m_ H
     clear H
     go_wp2_with ((with_reducible refine gate_dst (N := 8) rfl ?_); refine box_event ?hg (N := 8) ?hd (cs := setCells ⟨#[]⟩) (t := 72) ?hr ?_; (case hd => rfl); (case hg => rfl); (case hr => exact alloc72 _ _); intro gbS hg wS hbox hb; have n0_ := m_ (b4_ (g := gb120) (o := .cells #[.int .i64 0, .string (⟨#[]⟩ : ByteArray), .bool false, .slice none 0 0] 35 (0, 0)) (by (with_reducible repeat (first | refine b1_ ?_ _ | refine b2_ ?_ | refine b3_ ?_ _)); exact BK120.out) hb); have n1_ := m_ (b4_ (g := gb121) (o := .cells #[.int .i64 4, .string (⟨#[]⟩ : ByteArray), .bool x122002_16, .slice none 0 0] 35 (0, 0)) (by (with_reducible repeat (first | refine b1_ ?_ _ | refine b2_ ?_ | refine b3_ ?_ _)); exact BK121.out) hb); have n2_ := m_ (l5_ (by repeat (with_reducible first | exact HB.out | apply l1_ | apply l2_ | apply l3_ | refine l4_ ?_ GE120.out | refine l4_ ?_ GE121.out)) hb); have BKS := m_ hbox; have GES := m_ (show w.heap.size ≤ gbS by rw [hg]; exact (l6_ (by repeat (with_reducible first | exact HB.out | apply l1_ | apply l2_ | apply l3_ | refine l4_ ?_ GE120.out | refine l4_ ?_ GE121.out)))); have LR := m_ (show gb120 < gbS by rw [hg]; exact blk_lt (g := gb120) (o := .cells #[.int .i64 0, .string (⟨#[]⟩ : ByteArray), .bool false, .slice none 0 0] 35 (0, 0)) (by (with_reducible repeat (first | refine b1_ ?_ _ | refine b2_ ?_ | refine b3_ ?_ _)); exact BK120.out)); have LI := m_ (show gb121 < gbS by rw [hg]; exact blk_lt (g := gb121) (o := .cells #[.int .i64 4, .string (⟨#[]⟩ : ByteArray), .bool x122002_16, .slice none 0 0] 35 (0, 0)) (by (with_reducible repeat (first | refine b1_ ?_ _ | refine b2_ ?_ | refine b3_ ?_ _)); exact BK121.out)); clear BK120; clear BK121; clear HB; have BK120 := n0_; have BK121 := n1_; have HB := n2_; clear n0_ n1_ n2_; clear hb hbox hg)
     go_loopg [7] kj16 (fun kq v7 w' => ∃ (x7_3 : Int) (x8_3 : ByteArray) (x121000_3 : Int) (x121001_3 : ByteArray) (x121002_3 : Bool), v7 = .int .i64 x7_3 ∧ Aside0 (pattern_bracket.l0 kq l0 x7_3 x8_3 x7_16 4 (⟨#[]⟩ : ByteArray) x122002_16 = some (r1, r2, r3, r4, r5)) ∧ Aside0 (kq ≤ kj16) ∧ Aside0 (w'.heap[gbS]? = some (.cells (setCells x8_3) 72 (0, 0))) ∧ Aside0 (w'.heap[gb120]? = some (.cells #[.int .i64 x121000_3, .string x121001_3, .bool x121002_3, (.slice none 0 0)] 35 (0, 0))) ∧ Aside0 (w'.heap[gb121]? = some (.cells #[.int .i64 4, .string (⟨#[]⟩ : ByteArray), .bool x122002_16, (.slice none 0 0)] 35 (0, 0))) ∧ Aside0 (Below w.heap.size w w'))
     case atStart => exact ⟨(x7_16), ((⟨#[]⟩ : ByteArray)), (0), ((⟨#[]⟩ : ByteArray)), (false), (by first | rfl | (simp; done) | (simp [*]; done)), H', ⟨Nat.le_refl _⟩, ⟨by (with_reducible repeat (first | refine b1_ ?_ _ | refine b2_ ?_ | refine b3_ ?_ _)); exact BKS.out⟩, ⟨by (with_reducible repeat (first | refine b1_ ?_ _ | refine b2_ ?_ | refine b3_ ?_ _)); exact BK120.out⟩, ⟨by (with_reducible repeat (first | refine b1_ ?_ _ | refine b2_ ?_ | refine b3_ ?_ _)); exact BK121.out⟩, ⟨by repeat (with_reducible first | exact HB.out | apply l1_ | apply l2_ | apply l3_ | refine l4_ ?_ GE120.out | refine l4_ ?_ GE121.out)⟩⟩
     case round =>
      clear H'
      (try clear c1); (try clear p1); (try clear q1); (try clear hx1); (try clear p2); (try clear c3); (try clear c6); (try clear p6); (try clear c8); (try clear c8b0); (try clear c10); (try clear c10b0); (try clear c12); (try clear p12); (try clear q12); (try clear hx12); (try clear c18); (try clear c19); (try clear hcz20_0); (try clear hcz20_1); (try clear hcz20_2); (try clear hcz20_3); (try clear hcz7_0); (try clear hcz7_1); (try clear hcz7_2); (try clear hcz7_3); (try clear hfz20_0); (try clear hfz20_1); (try clear hfz20_2); (try clear hfz20_3); (try clear hfz7_0); (try clear hfz7_1); (try clear hfz7_2); (try clear hfz7_3); (try clear hx122_0); (try clear hx122_1); (try clear hx124_0); (try clear hx124_1); (try clear p1); (try clear p12); (try clear p122); (try clear p124); (try clear p2); (try clear p6); (try clear q1); (try clear q12); (try clear q122); (try clear q124)
      obtain ⟨x7_3, x8_3, x121000_3, x121001_3, x121002_3, rfl, HA, HK3, BKS, BK120, BK121, HB⟩ := hrel
      cases gk with
      | zero => exact absurd HA.out (by simp [pattern_bracket.l0])
      | succ k3 =>
       have H := HA.out
       clear HA
       simp only [pattern_bracket.l0] at H
       by_cases c21 : x7_3 < (l0.length : Int)
       ·
        rw [if_pos c21] at H
        have c21b0 : decide (x7_3 < (l0.length : Int)) = true := decide_eq_true c21
        clear c21
        have HC22 := m_ H
        clear H
        go_upto_region 9 with (fail)
        go_cut [50] (fun v50 wc => ∃ (kq : Nat) (x50_21 : Bool), v50 = .bool x50_21 ∧ Aside0 (pattern_bracket.j3 kq l0 x7_3 x8_3 x7_16 x50_21 4 (⟨#[]⟩ : ByteArray) x122002_16 = some (r1, r2, r3, r4, r5)) ∧ Aside0 (kq ≤ k3) ∧ Aside0 (wc.heap[gbS]? = some (.cells (setCells x8_3) 72 (0, 0))) ∧ Aside0 (wc.heap[gb120]? = some (.cells #[.int .i64 x121000_3, .string x121001_3, .bool x121002_3, (.slice none 0 0)] 35 (0, 0))) ∧ Aside0 (wc.heap[gb121]? = some (.cells #[.int .i64 4, .string (⟨#[]⟩ : ByteArray), .bool x122002_16, (.slice none 0 0)] 35 (0, 0))) ∧ Aside0 (Below w.heap.size w wc))
        case first =>
         have H := HC22.out
         clear HC22
         by_cases c23 : 0 ≤ x7_3
         ·
          rw [if_pos c23] at H
          have c23b0 : decide (0 ≤ x7_3) = true := decide_eq_true c23
          clear c23
          (first | rw [c23b0] | (simp only [i64_w, i32_w]; rw [c23b0]) | skip)
          replace H := Option.bind_eq_some_iff.mp H
          obtain ⟨t127, A240, H⟩ := H
          try dsimp -simprocs only at H
          have A24 := m_ A240
          clear A240
          by_cases c25 : t127 = true
          ·
           subst c25
           rw [if_pos rfl] at H
           have H' := m_ H
           clear H
           have p126 : 0 ≤ (x7_3 : Int) := o1_ (by with_reducible assumption)
           have q126 : x7_3 < (l0.length : Int) := o1_ (by with_reducible assumption)
           obtain ⟨ad126, e126, hx126_0, hx126_1⟩ := at_T51 HR0.out x7_3 p126 q126
           cases e126
           replace hx126_0 := (HB.out.cell (c1_ w _ hx126_0)).trans hx126_0
           replace hx126_1 := (HB.out.cell (c1_ w _ hx126_1)).trans hx126_1
           replace p126 := eq_true p126
           replace q126 := eq_true q126
           go_wp2_with (first | (go_at_call 33; (with_reducible refine (pattern_element_is.calls ((rd_T51 l0 x7_3).f0) ((rd_T51 l0 x7_3).f1) 93 true _ A24.out).mono ?_); rintro e w26 ⟨rfl, hb⟩; have n0_ := m_ (b4_ (g := gb120) (o := .cells #[.int .i64 x121000_3, .string x121001_3, .bool x121002_3, .slice none 0 0] 35 (0, 0)) (by (with_reducible repeat (first | refine b1_ ?_ _ | refine b2_ ?_ | refine b3_ ?_ _)); exact BK120.out) hb); have n1_ := m_ (b4_ (g := gb121) (o := .cells #[.int .i64 4, .string (⟨#[]⟩ : ByteArray), .bool x122002_16, .slice none 0 0] 35 (0, 0)) (by (with_reducible repeat (first | refine b1_ ?_ _ | refine b2_ ?_ | refine b3_ ?_ _)); exact BK121.out) hb); have n2_ := m_ (l5_ (by repeat (with_reducible first | exact HB.out | apply l1_ | apply l2_ | apply l3_ | refine l4_ ?_ GE120.out | refine l4_ ?_ GE121.out)) hb); have ns_ := m_ (b4_ (g := gbS) (o := .cells (setCells x8_3) 72 (0, 0)) (by (with_reducible repeat (first | refine b1_ ?_ _ | refine b2_ ?_ | refine b3_ ?_ _)); exact BKS.out) hb); clear BKS; have BKS := ns_; clear ns_; clear BK120; clear BK121; clear HB; have BK120 := n0_; have BK121 := n1_; have HB := n2_; clear n0_ n1_ n2_; (try clear hb)))
           go_meet
           case rel => exact ⟨_, (decide (x7_3 > x7_16)), (by first | rfl | (simp; done) | (simp [*]; done)), H', ⟨by have := HJ2.out; have := HJ16.out; have := HK3.out; first | omega | exact Nat.le_refl _⟩, ⟨by (with_reducible repeat (first | refine b1_ ?_ _ | refine b2_ ?_ | refine b3_ ?_ _)); exact BKS.out⟩, ⟨by (with_reducible repeat (first | refine b1_ ?_ _ | refine b2_ ?_ | refine b3_ ?_ _)); exact BK120.out⟩, ⟨by (with_reducible repeat (first | refine b1_ ?_ _ | refine b2_ ?_ | refine b3_ ?_ _)); exact BK121.out⟩, ⟨by repeat (with_reducible first | exact HB.out | apply l1_ | apply l2_ | apply l3_ | refine l4_ ?_ GE120.out | refine l4_ ?_ GE121.out)⟩⟩
          ·
           replace c25 := Bool.eq_false_iff.mpr c25
           subst c25
           rw [if_neg (show ¬ (false = true) by decide)] at H
           have H' := m_ H
           clear H
           have p126 : 0 ≤ (x7_3 : Int) := o1_ (by with_reducible assumption)
           have q126 : x7_3 < (l0.length : Int) := o1_ (by with_reducible assumption)
           obtain ⟨ad126, e126, hx126_0, hx126_1⟩ := at_T51 HR0.out x7_3 p126 q126
           cases e126
           replace hx126_0 := (HB.out.cell (c1_ w _ hx126_0)).trans hx126_0
           replace hx126_1 := (HB.out.cell (c1_ w _ hx126_1)).trans hx126_1
           replace p126 := eq_true p126
           replace q126 := eq_true q126
           go_wp2_with (first | (go_at_call 33; (with_reducible refine (pattern_element_is.calls ((rd_T51 l0 x7_3).f0) ((rd_T51 l0 x7_3).f1) 93 false _ A24.out).mono ?_); rintro e w27 ⟨rfl, hb⟩; have n0_ := m_ (b4_ (g := gb120) (o := .cells #[.int .i64 x121000_3, .string x121001_3, .bool x121002_3, .slice none 0 0] 35 (0, 0)) (by (with_reducible repeat (first | refine b1_ ?_ _ | refine b2_ ?_ | refine b3_ ?_ _)); exact BK120.out) hb); have n1_ := m_ (b4_ (g := gb121) (o := .cells #[.int .i64 4, .string (⟨#[]⟩ : ByteArray), .bool x122002_16, .slice none 0 0] 35 (0, 0)) (by (with_reducible repeat (first | refine b1_ ?_ _ | refine b2_ ?_ | refine b3_ ?_ _)); exact BK121.out) hb); have n2_ := m_ (l5_ (by repeat (with_reducible first | exact HB.out | apply l1_ | apply l2_ | apply l3_ | refine l4_ ?_ GE120.out | refine l4_ ?_ GE121.out)) hb); have ns_ := m_ (b4_ (g := gbS) (o := .cells (setCells x8_3) 72 (0, 0)) (by (with_reducible repeat (first | refine b1_ ?_ _ | refine b2_ ?_ | refine b3_ ?_ _)); exact BKS.out) hb); clear BKS; have BKS := ns_; clear ns_; clear BK120; clear BK121; clear HB; have BK120 := n0_; have BK121 := n1_; have HB := n2_; clear n0_ n1_ n2_; (try clear hb)))
           go_meet
           case rel => exact ⟨_, (false), (by first | rfl | (simp; done) | (simp [*]; done)), H', ⟨by have := HJ2.out; have := HJ16.out; have := HK3.out; first | omega | exact Nat.le_refl _⟩, ⟨by (with_reducible repeat (first | refine b1_ ?_ _ | refine b2_ ?_ | refine b3_ ?_ _)); exact BKS.out⟩, ⟨by (with_reducible repeat (first | refine b1_ ?_ _ | refine b2_ ?_ | refine b3_ ?_ _)); exact BK120.out⟩, ⟨by (with_reducible repeat (first | refine b1_ ?_ _ | refine b2_ ?_ | refine b3_ ?_ _)); exact BK121.out⟩, ⟨by repeat (with_reducible first | exact HB.out | apply l1_ | apply l2_ | apply l3_ | refine l4_ ?_ GE120.out | refine l4_ ?_ GE121.out)⟩⟩
         rw [if_neg c23] at H
         exact absurd H (by simp)
        case rest =>
         clear HC22
         (try clear c1); (try clear p1); (try clear q1); (try clear hx1); (try clear c2); (try clear p2); (try clear c3); (try clear c6); (try clear p6); (try clear c8); (try clear c8b0); (try clear c10); (try clear c10b0); (try clear c12); (try clear p12); (try clear q12); (try clear hx12); (try clear c18); (try clear c19); (try clear c21); (try clear c21b0); (try clear c23); (try clear c23b0); (try clear c25); (try clear hcz20_0); (try clear hcz20_1); (try clear hcz20_2); (try clear hcz20_3); (try clear hcz7_0); (try clear hcz7_1); (try clear hcz7_2); (try clear hcz7_3); (try clear hfz20_0); (try clear hfz20_1); (try clear hfz20_2); (try clear hfz20_3); (try clear hfz7_0); (try clear hfz7_1); (try clear hfz7_2); (try clear hfz7_3); (try clear hx122_0); (try clear hx122_1); (try clear hx124_0); (try clear hx124_1); (try clear hx126_0); (try clear hx126_1); (try clear p1); (try clear p12); (try clear p122); (try clear p124); (try clear p126); (try clear p2); (try clear p6); (try clear q1); (try clear q12); (try clear q122); (try clear q124); (try clear q126)
         obtain ⟨kq, x50_21, rfl, HA, HJ21, BKS, BK120, BK121, HB⟩ := hcut
         cases kq with
         | zero => exact absurd HA.out (by simp [pattern_bracket.j3])
         | succ kj21 =>
          have H := HA.out
          clear HA
          simp only [pattern_bracket.j3] at H
          by_cases c28 : x50_21 = true
          ·
           subst c28
           rw [if_pos rfl] at H
           replace H := Option.bind_eq_some_iff.mp H
           obtain ⟨t128, A290, H⟩ := H
           try dsimp -simprocs only at H
           have A29 := m_ A290
           clear A290
           simp only [Option.some.injEq, Prod.mk.injEq] at H
           obtain ⟨rfl, rfl, rfl, rfl, rfl⟩ := H
           go_wp2_with (first | (go_at_call 45; (with_reducible refine (pattern_bytes_spans.calls x8_3 t128 gbS _ ?sideS A29.out).mono ?_); (case sideS => ((with_reducible repeat (first | refine b1_ ?_ _ | refine b2_ ?_ | refine b3_ ?_ _)); exact BKS.out)); rintro e w30 ⟨v129, rfl, ho0, hb⟩; have n0_ := m_ (Kd.R_lower ho0 (l6_ (by repeat (with_reducible first | exact HB.out | apply l1_ | apply l2_ | apply l3_ | refine l4_ ?_ GE120.out | refine l4_ ?_ GE121.out)))); have n1_ := m_ (b4_ (g := gb120) (o := .cells #[.int .i64 x121000_3, .string x121001_3, .bool x121002_3, .slice none 0 0] 35 (0, 0)) (by (with_reducible repeat (first | refine b1_ ?_ _ | refine b2_ ?_ | refine b3_ ?_ _)); exact BK120.out) hb); have n2_ := m_ (b4_ (g := gb121) (o := .cells #[.int .i64 4, .string (⟨#[]⟩ : ByteArray), .bool x122002_16, .slice none 0 0] 35 (0, 0)) (by (with_reducible repeat (first | refine b1_ ?_ _ | refine b2_ ?_ | refine b3_ ?_ _)); exact BK121.out) hb); have n3_ := m_ (l5_ (by repeat (with_reducible first | exact HB.out | apply l1_ | apply l2_ | apply l3_ | refine l4_ ?_ GE120.out | refine l4_ ?_ GE121.out)) hb); have ns_ := m_ (b4_ (g := gbS) (o := .cells (setCells x8_3) 72 (0, 0)) (by (with_reducible repeat (first | refine b1_ ?_ _ | refine b2_ ?_ | refine b3_ ?_ _)); exact BKS.out) hb); clear BKS; have BKS := ns_; clear ns_; clear BK120; clear BK121; clear HB; have HO130 := n0_; have BK120 := n1_; have BK121 := n2_; have HB := n3_; clear n0_ n1_ n2_ n3_; (try clear hb); (try clear ho0); obtain ⟨Ao31, co31, eo31⟩ := Kd.R_slice HO130.out; subst eo31; have hnb32 := NB121_120.out; have hnc32 := NB120_121.out; have hcz33_0 : w30.cell? ⟨gb121, 0, none⟩ = some (.int .i64 4) := (b5_ BK121.out 0).trans rfl; have hcz33_1 : w30.cell? ⟨gb121, 1, none⟩ = some (.string (⟨#[]⟩ : ByteArray)) := (b5_ BK121.out 1).trans rfl; have hcz33_2 : w30.cell? ⟨gb121, 2, none⟩ = some (.bool x122002_16) := (b5_ BK121.out 2).trans rfl; have hcz33_3 : w30.cell? ⟨gb121, 3, none⟩ = some (.slice none 0 0) := (b5_ BK121.out 3).trans rfl; have hfz33_0 := f1_ BK121.out 0; have hfz33_1 := f1_ BK121.out 1; have hfz33_2 := f1_ BK121.out 2; have hfz33_3 := f1_ BK121.out 3; have hcz34_0 : w30.cell? ⟨gb120, 0, none⟩ = some (.int .i64 x121000_3) := (b5_ BK120.out 0).trans rfl; have hcz34_1 : w30.cell? ⟨gb120, 1, none⟩ = some (.string x121001_3) := (b5_ BK120.out 1).trans rfl; have hcz34_2 : w30.cell? ⟨gb120, 2, none⟩ = some (.bool x121002_3) := (b5_ BK120.out 2).trans rfl; have hcz34_3 : w30.cell? ⟨gb120, 3, none⟩ = some (.slice none 0 0) := (b5_ BK120.out 3).trans rfl; have hfz34_0 := f1_ BK120.out 0; have hfz34_1 := f1_ BK120.out 1; have hfz34_2 := f1_ BK120.out 2; have hfz34_3 := f1_ BK120.out 3))
           refine bodyPost_ret (results_ct rfl _ _ gb120 35 #[.int .i64 4, .string (⟨#[]⟩ : ByteArray), .bool x122002_16, .slice Ao31 t128.length co31] (0, 0) _ rfl (by (with_reducible repeat (first | refine b1_ ?_ _ | refine b2_ ?_ | refine b3_ ?_ _)); refine blk_put (cs := #[.int .i64 4, .string (⟨#[]⟩ : ByteArray), .bool x122002_16, .slice none 0 0]) ?_ 3 _ rfl; (with_reducible repeat (first | refine b1_ ?_ _ | refine b2_ ?_ | refine b3_ ?_ _)); refine blk_put (cs := #[.int .i64 4, .string (⟨#[]⟩ : ByteArray), .bool x121002_3, .slice none 0 0]) ?_ 2 _ rfl; (with_reducible repeat (first | refine b1_ ?_ _ | refine b2_ ?_ | refine b3_ ?_ _)); refine blk_put (cs := #[.int .i64 4, .string x121001_3, .bool x121002_3, .slice none 0 0]) ?_ 1 _ rfl; (with_reducible repeat (first | refine b1_ ?_ _ | refine b2_ ?_ | refine b3_ ?_ _)); refine blk_put (cs := #[.int .i64 x121000_3, .string x121001_3, .bool x121002_3, .slice none 0 0]) ?_ 0 _ rfl; (with_reducible repeat (first | refine b1_ ?_ _ | refine b2_ ?_ | refine b3_ ?_ _)); refine blk_far ?_ NB120_121.out _; (with_reducible repeat (first | refine b1_ ?_ _ | refine b2_ ?_ | refine b3_ ?_ _)); exact BK120.out) Try.underlying35 rfl (by kernel_rfl)) rfl ?_
           exact ⟨_, by first | rfl | (simp [errW_none, errW_some] <;> rfl) | (simp [*, errW_none, errW_some] <;> rfl), by (with_reducible repeat (first | apply r1_ | apply r2_ | apply r3_)); exact Kd.R_mono (Kd.R_far (p := ⟨gb120, 3, none⟩) (Kd.R_far (p := ⟨gb120, 2, none⟩) (Kd.R_far (p := ⟨gb120, 1, none⟩) (Kd.R_far (p := ⟨gb120, 0, none⟩) (Kd.R_far (p := ⟨gb121, 3, none⟩) (Kd.R_types (Kd.R_types HO130.out BK121.out (by decide)) BK120.out (by decide)) (fun _ hk => hk.1.2) (.slice Ao31 t128.length co31)) (fun _ hk => hk.2) (.int .i64 4)) (fun _ hk => hk.2) (.string (⟨#[]⟩ : ByteArray))) (fun _ hk => hk.2) (.bool x122002_16)) (fun _ hk => hk.2) (.slice Ao31 t128.length co31)) (fun _ hk => trivial), by repeat (with_reducible first | exact HB.out | apply l1_ | apply l2_ | apply l3_ | refine l4_ ?_ GE120.out | refine l4_ ?_ GE121.out)⟩
          ·
           replace c28 := Bool.eq_false_iff.mpr c28
           subst c28
           rw [if_neg (show ¬ (false = true) by decide)] at H
           replace H := Option.bind_eq_some_iff.mp H
           obtain ⟨⟨t131, t132⟩, A350, H⟩ := H
           try dsimp -simprocs only at H
           have A35 := m_ A350
           clear A350
           have HC36 := m_ H
           clear H
           go_upto_region 13 with (first | (go_at_call 46; (with_reducible refine (pattern_className.calls kj21 _ _ l0 x7_3 t131 t132 _ ?side1 ?side2 A35.out).mono ?_); (case side1 => repeat (first | exact (Kd.C_below HR0.out HB.out) | (with_reducible refine Kd.C_alloc ?_ _) | (with_reducible refine Kd.C_drewN ?_ _) | (with_reducible refine Kd.C_drew ?_))); (case side2 => exact HC0.out); rintro e w37 ⟨rfl, hb⟩; have n0_ := m_ (b4_ (g := gb120) (o := .cells #[.int .i64 x121000_3, .string x121001_3, .bool x121002_3, .slice none 0 0] 35 (0, 0)) (by (with_reducible repeat (first | refine b1_ ?_ _ | refine b2_ ?_ | refine b3_ ?_ _)); exact BK120.out) hb); have n1_ := m_ (b4_ (g := gb121) (o := .cells #[.int .i64 4, .string (⟨#[]⟩ : ByteArray), .bool x122002_16, .slice none 0 0] 35 (0, 0)) (by (with_reducible repeat (first | refine b1_ ?_ _ | refine b2_ ?_ | refine b3_ ?_ _)); exact BK121.out) hb); have n2_ := m_ (l5_ (by repeat (with_reducible first | exact HB.out | apply l1_ | apply l2_ | apply l3_ | refine l4_ ?_ GE120.out | refine l4_ ?_ GE121.out)) hb); have ns_ := m_ (b4_ (g := gbS) (o := .cells (setCells x8_3) 72 (0, 0)) (by (with_reducible repeat (first | refine b1_ ?_ _ | refine b2_ ?_ | refine b3_ ?_ _)); exact BKS.out) hb); clear BKS; have BKS := ns_; clear ns_; clear BK120; clear BK121; clear HB; have BK120 := n0_; have BK121 := n1_; have HB := n2_; clear n0_ n1_ n2_; (try clear hb)))
           (try simp only [Act.put, List.setIfInBounds_toArray, List.set_cons_zero, List.set_cons_succ])
           go_cut [67] (fun v67 wc => ∃ (kq : Nat) (x67_35 : Bool) (x8_35 : ByteArray), v67 = .bool x67_35 ∧ Aside0 (pattern_bracket.j4 kq l0 x7_3 x8_35 x7_16 t132 x67_35 4 (⟨#[]⟩ : ByteArray) x122002_16 = some (r1, r2, r3, r4, r5)) ∧ Aside0 (kq ≤ kj21) ∧ Aside0 (wc.heap[gbS]? = some (.cells (setCells x8_35) 72 (0, 0))) ∧ Aside0 (wc.heap[gb120]? = some (.cells #[.int .i64 x121000_3, .string x121001_3, .bool x121002_3, (.slice none 0 0)] 35 (0, 0))) ∧ Aside0 (wc.heap[gb121]? = some (.cells #[.int .i64 4, .string (⟨#[]⟩ : ByteArray), .bool x122002_16, (.slice none 0 0)] 35 (0, 0))) ∧ Aside0 (Below w.heap.size w wc))
           case first =>
            have H := HC36.out
            clear HC36
            by_cases c38 : t132 > 0
            ·
             rw [if_pos c38] at H
             have c38b0 : decide (0 < t132) = true := decide_eq_true c38
             clear c38
             (first | rw [c38b0] | (simp only [i64_w, i32_w]; rw [c38b0]) | skip)
             replace H := Option.bind_eq_some_iff.mp H
             obtain ⟨⟨t133, t133s⟩, A390, H⟩ := H
             try dsimp -simprocs only at H
             have A39 := m_ A390
             clear A390
             have H' := m_ H
             clear H
             go_wp2_with (first | (go_at_call 47; (with_reducible refine (pattern_bytes_class.calls x8_3 t131 t133 t133s gbS _ ?sideS A39.out).mono ?_); (case sideS => ((with_reducible repeat (first | refine b1_ ?_ _ | refine b2_ ?_ | refine b3_ ?_ _)); exact BKS.out)); rintro e w38 ⟨rfl, hs, hb⟩; have n0_ := m_ (keepB (g := gb120) (o := .cells #[.int .i64 x121000_3, .string x121001_3, .bool x121002_3, .slice none 0 0] 35 (0, 0)) (by (with_reducible repeat (first | refine b1_ ?_ _ | refine b2_ ?_ | refine b3_ ?_ _)); exact BK120.out) hb LR.out); have n1_ := m_ (keepB (g := gb121) (o := .cells #[.int .i64 4, .string (⟨#[]⟩ : ByteArray), .bool x122002_16, .slice none 0 0] 35 (0, 0)) (by (with_reducible repeat (first | refine b1_ ?_ _ | refine b2_ ?_ | refine b3_ ?_ _)); exact BK121.out) hb LI.out); have n2_ := m_ (stepB (by repeat (with_reducible first | exact HB.out | apply l1_ | apply l2_ | apply l3_ | refine l4_ ?_ GE120.out | refine l4_ ?_ GE121.out)) hb GES.out); have n3_ := m_ hs; clear BKS; clear BK120; clear BK121; clear HB; have BKS := n3_; have BK120 := n0_; have BK121 := n1_; have HB := n2_; clear n0_ n1_ n2_ n3_; clear hs hb))
             go_meet
             case rel => exact ⟨_, (t133), (t133s), (by first | rfl | (simp; done) | (simp [*]; done)), H', ⟨by have := HJ2.out; have := HJ16.out; have := HK3.out; have := HJ21.out; first | omega | exact Nat.le_refl _⟩, ⟨by (with_reducible repeat (first | refine b1_ ?_ _ | refine b2_ ?_ | refine b3_ ?_ _)); exact BKS.out⟩, ⟨by (with_reducible repeat (first | refine b1_ ?_ _ | refine b2_ ?_ | refine b3_ ?_ _)); exact BK120.out⟩, ⟨by (with_reducible repeat (first | refine b1_ ?_ _ | refine b2_ ?_ | refine b3_ ?_ _)); exact BK121.out⟩, ⟨by repeat (with_reducible first | exact HB.out | apply l1_ | apply l2_ | apply l3_ | refine l4_ ?_ GE120.out | refine l4_ ?_ GE121.out)⟩⟩
            rw [if_neg c38] at H
            have c38b0 : decide (0 < t132) = false := decide_eq_false c38
            clear c38
            (first | rw [c38b0] | (simp only [i64_w, i32_w]; rw [c38b0]) | skip)
            have H' := m_ H
            clear H
            go_wp2
            go_meet
            case rel => exact ⟨_, (false), (x8_3), (by first | rfl | (simp; done) | (simp [*]; done)), H', ⟨by have := HJ2.out; have := HJ16.out; have := HK3.out; have := HJ21.out; first | omega | exact Nat.le_refl _⟩, ⟨by (with_reducible repeat (first | refine b1_ ?_ _ | refine b2_ ?_ | refine b3_ ?_ _)); exact BKS.out⟩, ⟨by (with_reducible repeat (first | refine b1_ ?_ _ | refine b2_ ?_ | refine b3_ ?_ _)); exact BK120.out⟩, ⟨by (with_reducible repeat (first | refine b1_ ?_ _ | refine b2_ ?_ | refine b3_ ?_ _)); exact BK121.out⟩, ⟨by repeat (with_reducible first | exact HB.out | apply l1_ | apply l2_ | apply l3_ | refine l4_ ?_ GE120.out | refine l4_ ?_ GE121.out)⟩⟩
           case rest =>
            clear HC36
            (try clear c1); (try clear p1); (try clear q1); (try clear hx1); (try clear c2); (try clear p2); (try clear c3); (try clear c6); (try clear p6); (try clear c8); (try clear c8b0); (try clear c10); (try clear c10b0); (try clear c12); (try clear p12); (try clear q12); (try clear hx12); (try clear c18); (try clear c19); (try clear c21); (try clear c21b0); (try clear c23); (try clear c23b0); (try clear c25); (try clear c28); (try clear c32); (try clear c34); (try clear c38); (try clear c38b0); (try clear hcz20_0); (try clear hcz20_1); (try clear hcz20_2); (try clear hcz20_3); (try clear hcz33_0); (try clear hcz33_1); (try clear hcz33_2); (try clear hcz33_3); (try clear hcz34_0); (try clear hcz34_1); (try clear hcz34_2); (try clear hcz34_3); (try clear hcz7_0); (try clear hcz7_1); (try clear hcz7_2); (try clear hcz7_3); (try clear hfz20_0); (try clear hfz20_1); (try clear hfz20_2); (try clear hfz20_3); (try clear hfz33_0); (try clear hfz33_1); (try clear hfz33_2); (try clear hfz33_3); (try clear hfz34_0); (try clear hfz34_1); (try clear hfz34_2); (try clear hfz34_3); (try clear hfz7_0); (try clear hfz7_1); (try clear hfz7_2); (try clear hfz7_3); (try clear hx122_0); (try clear hx122_1); (try clear hx124_0); (try clear hx124_1); (try clear hx126_0); (try clear hx126_1); (try clear p1); (try clear p12); (try clear p122); (try clear p124); (try clear p126); (try clear p2); (try clear p6); (try clear q1); (try clear q12); (try clear q122); (try clear q124); (try clear q126)
            obtain ⟨kq, x67_35, x8_35, rfl, HA, HJ35, BKS, BK120, BK121, HB⟩ := hcut
            cases kq with
            | zero => exact absurd HA.out (by simp [pattern_bracket.j4])
            | succ kj35 =>
             have H := HA.out
             clear HA
             simp only [pattern_bracket.j4] at H
             by_cases c40 : x67_35 = true
             ·
              subst c40
              rw [if_pos rfl] at H
              have H' := m_ H
              clear H
              go_wp2
              go_roundg kj35
              case measure => have := HJ2.out; have := HJ16.out; have := HK3.out; have := HJ21.out; have := HJ35.out; omega
              case rel => exact ⟨(t132), (x8_35), (x121000_3), (x121001_3), (x121002_3), (by first | rfl | (simp; done) | (simp [*]; done)), H', ⟨by have := HJ2.out; have := HJ16.out; have := HK3.out; have := HJ21.out; have := HJ35.out; omega⟩, ⟨by (with_reducible repeat (first | refine b1_ ?_ _ | refine b2_ ?_ | refine b3_ ?_ _)); exact BKS.out⟩, ⟨by (with_reducible repeat (first | refine b1_ ?_ _ | refine b2_ ?_ | refine b3_ ?_ _)); exact BK120.out⟩, ⟨by (with_reducible repeat (first | refine b1_ ?_ _ | refine b2_ ?_ | refine b3_ ?_ _)); exact BK121.out⟩, ⟨by repeat (with_reducible first | exact HB.out | apply l1_ | apply l2_ | apply l3_ | refine l4_ ?_ GE120.out | refine l4_ ?_ GE121.out)⟩⟩
             ·
              replace c40 := Bool.eq_false_iff.mpr c40
              subst c40
              rw [if_neg (show ¬ (false = true) by decide)] at H
              have HC41 := m_ H
              clear H
              go_upto_region 15 with (fail)
              go_cut [90] (fun v90 wc => ∃ (kq : Nat) (x90_40 : Bool), v90 = .bool x90_40 ∧ Aside0 (pattern_bracket.j5 kq l0 x7_3 x8_35 x7_16 x90_40 4 (⟨#[]⟩ : ByteArray) x122002_16 = some (r1, r2, r3, r4, r5)) ∧ Aside0 (kq ≤ kj35) ∧ Aside0 (wc.heap[gbS]? = some (.cells (setCells x8_35) 72 (0, 0))) ∧ Aside0 (wc.heap[gb120]? = some (.cells #[.int .i64 x121000_3, .string x121001_3, .bool x121002_3, (.slice none 0 0)] 35 (0, 0))) ∧ Aside0 (wc.heap[gb121]? = some (.cells #[.int .i64 4, .string (⟨#[]⟩ : ByteArray), .bool x122002_16, (.slice none 0 0)] 35 (0, 0))) ∧ Aside0 (Below w.heap.size w wc))
              case first =>
               have H := HC41.out
               clear HC41
               by_cases c42 : (wrap64 (x7_3 + 2)) < (l0.length : Int)
               ·
                rw [if_pos c42] at H
                have c42b0 : decide ((wrap64 (x7_3 + 2)) < (l0.length : Int)) = true := decide_eq_true c42
                clear c42
                (first | rw [c42b0] | (simp only [i64_w, i32_w]; rw [c42b0]) | skip)
                obtain ⟨ji43, hji43⟩ : ∃ j_ : Int, (wrap64 (x7_3 + 1)) = j_ := ⟨_, rfl⟩
                first | rw [hji43] at H | simp only [hji43] at H
                have hji43w : (IntKind.i64.wrap (x7_3 + 1)) = ji43 := (i64_w _).trans hji43
                by_cases c44 : 0 ≤ (ji43)
                ·
                 rw [if_pos c44] at H
                 have c44b0 : decide (0 ≤ (ji43)) = true := decide_eq_true c44
                 clear c44
                 by_cases c45 : (ji43) < (l0.length : Int)
                 ·
                  rw [if_pos c45] at H
                  have c45b0 : decide ((ji43) < (l0.length : Int)) = true := decide_eq_true c45
                  clear c45
                  replace H := Option.bind_eq_some_iff.mp H
                  obtain ⟨t135, A460, H⟩ := H
                  try dsimp -simprocs only at H
                  have A46 := m_ A460
                  clear A460
                  by_cases c47 : t135 = true
                  ·
                   subst c47
                   rw [if_pos rfl] at H
                   obtain ⟨ji48, hji48⟩ : ∃ j_ : Int, (wrap64 (x7_3 + 2)) = j_ := ⟨_, rfl⟩
                   first | rw [hji48] at H | simp only [hji48] at H
                   (try rw [hji48] at c42b0)
                   (try rw [hji48] at A46)
                   have hji48w : (IntKind.i64.wrap (x7_3 + 2)) = ji48 := (i64_w _).trans hji48
                   by_cases c49 : 0 ≤ (ji48)
                   ·
                    rw [if_pos c49] at H
                    have c49b0 : decide (0 ≤ (ji48)) = true := decide_eq_true c49
                    clear c49
                    replace H := Option.bind_eq_some_iff.mp H
                    obtain ⟨t137, A500, H⟩ := H
                    try dsimp -simprocs only at H
                    have A50 := m_ A500
                    clear A500
                    have H' := m_ H
                    clear H
                    have p134 : 0 ≤ ((ji43) : Int) := o1_ (by with_reducible assumption)
                    have q134 : (ji43) < (l0.length : Int) := o1_ (by with_reducible assumption)
                    obtain ⟨ad134, e134, hx134_0, hx134_1⟩ := at_T51 HR0.out (ji43) p134 q134
                    cases e134
                    replace hx134_0 := (HB.out.cell (c1_ w _ hx134_0)).trans hx134_0
                    replace hx134_1 := (HB.out.cell (c1_ w _ hx134_1)).trans hx134_1
                    replace p134 := eq_true p134
                    replace q134 := eq_true q134
                    go_wp2_with (first | (go_at_call 33; (with_reducible refine (pattern_element_is.calls ((rd_T51 l0 (ji43)).f0) ((rd_T51 l0 (ji43)).f1) 45 true _ A46.out).mono ?_); rintro e w51 ⟨rfl, hb⟩; have n0_ := m_ (b4_ (g := gb120) (o := .cells #[.int .i64 x121000_3, .string x121001_3, .bool x121002_3, .slice none 0 0] 35 (0, 0)) (by (with_reducible repeat (first | refine b1_ ?_ _ | refine b2_ ?_ | refine b3_ ?_ _)); exact BK120.out) hb); have n1_ := m_ (b4_ (g := gb121) (o := .cells #[.int .i64 4, .string (⟨#[]⟩ : ByteArray), .bool x122002_16, .slice none 0 0] 35 (0, 0)) (by (with_reducible repeat (first | refine b1_ ?_ _ | refine b2_ ?_ | refine b3_ ?_ _)); exact BK121.out) hb); have n2_ := m_ (l5_ (by repeat (with_reducible first | exact HB.out | apply l1_ | apply l2_ | apply l3_ | refine l4_ ?_ GE120.out | refine l4_ ?_ GE121.out)) hb); have ns_ := m_ (b4_ (g := gbS) (o := .cells (setCells x8_35) 72 (0, 0)) (by (with_reducible repeat (first | refine b1_ ?_ _ | refine b2_ ?_ | refine b3_ ?_ _)); exact BKS.out) hb); clear BKS; have BKS := ns_; clear ns_; clear BK120; clear BK121; clear HB; have BK120 := n0_; have BK121 := n1_; have HB := n2_; clear n0_ n1_ n2_; (try clear hb); have p136 : 0 ≤ ((ji48) : Int) := o1_ (by with_reducible assumption); have q136 : (ji48) < (l0.length : Int) := o1_ (by with_reducible assumption); obtain ⟨ad136, e136, hx136_0, hx136_1⟩ := at_T51 HR0.out (ji48) p136 q136; obtain rfl : ad134 = ad136 := (by injection e136); replace hx136_0 := (HB.out.cell (c1_ w _ hx136_0)).trans hx136_0; replace hx136_1 := (HB.out.cell (c1_ w _ hx136_1)).trans hx136_1; replace p136 := eq_true p136; replace q136 := eq_true q136) | (go_at_call 33; (with_reducible refine (pattern_element_is.calls ((rd_T51 l0 (ji48)).f0) ((rd_T51 l0 (ji48)).f1) 93 t137 _ A50.out).mono ?_); rintro e w52 ⟨rfl, hb⟩; have n0_ := m_ (b4_ (g := gb120) (o := .cells #[.int .i64 x121000_3, .string x121001_3, .bool x121002_3, .slice none 0 0] 35 (0, 0)) (by (with_reducible repeat (first | refine b1_ ?_ _ | refine b2_ ?_ | refine b3_ ?_ _)); exact BK120.out) hb); have n1_ := m_ (b4_ (g := gb121) (o := .cells #[.int .i64 4, .string (⟨#[]⟩ : ByteArray), .bool x122002_16, .slice none 0 0] 35 (0, 0)) (by (with_reducible repeat (first | refine b1_ ?_ _ | refine b2_ ?_ | refine b3_ ?_ _)); exact BK121.out) hb); have n2_ := m_ (l5_ (by repeat (with_reducible first | exact HB.out | apply l1_ | apply l2_ | apply l3_ | refine l4_ ?_ GE120.out | refine l4_ ?_ GE121.out)) hb); have ns_ := m_ (b4_ (g := gbS) (o := .cells (setCells x8_35) 72 (0, 0)) (by (with_reducible repeat (first | refine b1_ ?_ _ | refine b2_ ?_ | refine b3_ ?_ _)); exact BKS.out) hb); clear BKS; have BKS := ns_; clear ns_; clear BK120; clear BK121; clear HB; have BK120 := n0_; have BK121 := n1_; have HB := n2_; clear n0_ n1_ n2_; (try clear hb)))
                    go_meet
                    case rel => exact ⟨_, (!t137), (by first | rfl | (simp; done) | (simp [*]; done)), H', ⟨by have := HJ2.out; have := HJ16.out; have := HK3.out; have := HJ21.out; have := HJ35.out; first | omega | exact Nat.le_refl _⟩, ⟨by (with_reducible repeat (first | refine b1_ ?_ _ | refine b2_ ?_ | refine b3_ ?_ _)); exact BKS.out⟩, ⟨by (with_reducible repeat (first | refine b1_ ?_ _ | refine b2_ ?_ | refine b3_ ?_ _)); exact BK120.out⟩, ⟨by (with_reducible repeat (first | refine b1_ ?_ _ | refine b2_ ?_ | refine b3_ ?_ _)); exact BK121.out⟩, ⟨by repeat (with_reducible first | exact HB.out | apply l1_ | apply l2_ | apply l3_ | refine l4_ ?_ GE120.out | refine l4_ ?_ GE121.out)⟩⟩
                   rw [if_neg c49] at H
                   exact absurd H (by simp)
                  ·
                   replace c47 := Bool.eq_false_iff.mpr c47
                   subst c47
                   rw [if_neg (show ¬ (false = true) by decide)] at H
                   have H' := m_ H
                   clear H
                   have p134 : 0 ≤ ((ji43) : Int) := o1_ (by with_reducible assumption)
                   have q134 : (ji43) < (l0.length : Int) := o1_ (by with_reducible assumption)
                   obtain ⟨ad134, e134, hx134_0, hx134_1⟩ := at_T51 HR0.out (ji43) p134 q134
                   cases e134
                   replace hx134_0 := (HB.out.cell (c1_ w _ hx134_0)).trans hx134_0
                   replace hx134_1 := (HB.out.cell (c1_ w _ hx134_1)).trans hx134_1
                   replace p134 := eq_true p134
                   replace q134 := eq_true q134
                   go_wp2_with (first | (go_at_call 33; (with_reducible refine (pattern_element_is.calls ((rd_T51 l0 (ji43)).f0) ((rd_T51 l0 (ji43)).f1) 45 false _ A46.out).mono ?_); rintro e w53 ⟨rfl, hb⟩; have n0_ := m_ (b4_ (g := gb120) (o := .cells #[.int .i64 x121000_3, .string x121001_3, .bool x121002_3, .slice none 0 0] 35 (0, 0)) (by (with_reducible repeat (first | refine b1_ ?_ _ | refine b2_ ?_ | refine b3_ ?_ _)); exact BK120.out) hb); have n1_ := m_ (b4_ (g := gb121) (o := .cells #[.int .i64 4, .string (⟨#[]⟩ : ByteArray), .bool x122002_16, .slice none 0 0] 35 (0, 0)) (by (with_reducible repeat (first | refine b1_ ?_ _ | refine b2_ ?_ | refine b3_ ?_ _)); exact BK121.out) hb); have n2_ := m_ (l5_ (by repeat (with_reducible first | exact HB.out | apply l1_ | apply l2_ | apply l3_ | refine l4_ ?_ GE120.out | refine l4_ ?_ GE121.out)) hb); have ns_ := m_ (b4_ (g := gbS) (o := .cells (setCells x8_35) 72 (0, 0)) (by (with_reducible repeat (first | refine b1_ ?_ _ | refine b2_ ?_ | refine b3_ ?_ _)); exact BKS.out) hb); clear BKS; have BKS := ns_; clear ns_; clear BK120; clear BK121; clear HB; have BK120 := n0_; have BK121 := n1_; have HB := n2_; clear n0_ n1_ n2_; (try clear hb)))
                   go_meet
                   case rel => exact ⟨_, (false), (by first | rfl | (simp; done) | (simp [*]; done)), H', ⟨by have := HJ2.out; have := HJ16.out; have := HK3.out; have := HJ21.out; have := HJ35.out; first | omega | exact Nat.le_refl _⟩, ⟨by (with_reducible repeat (first | refine b1_ ?_ _ | refine b2_ ?_ | refine b3_ ?_ _)); exact BKS.out⟩, ⟨by (with_reducible repeat (first | refine b1_ ?_ _ | refine b2_ ?_ | refine b3_ ?_ _)); exact BK120.out⟩, ⟨by (with_reducible repeat (first | refine b1_ ?_ _ | refine b2_ ?_ | refine b3_ ?_ _)); exact BK121.out⟩, ⟨by repeat (with_reducible first | exact HB.out | apply l1_ | apply l2_ | apply l3_ | refine l4_ ?_ GE120.out | refine l4_ ?_ GE121.out)⟩⟩
                 rw [if_neg c45] at H
                 exact absurd H (by simp)
                rw [if_neg c44] at H
                exact absurd H (by simp)
               rw [if_neg c42] at H
               have c42b0 : decide ((wrap64 (x7_3 + 2)) < (l0.length : Int)) = false := decide_eq_false c42
               clear c42
               (first | rw [c42b0] | (simp only [i64_w, i32_w]; rw [c42b0]) | skip)
               have H' := m_ H
               clear H
               go_wp2
               go_meet
               case rel => exact ⟨_, (false), (by first | rfl | (simp; done) | (simp [*]; done)), H', ⟨by have := HJ2.out; have := HJ16.out; have := HK3.out; have := HJ21.out; have := HJ35.out; first | omega | exact Nat.le_refl _⟩, ⟨by (with_reducible repeat (first | refine b1_ ?_ _ | refine b2_ ?_ | refine b3_ ?_ _)); exact BKS.out⟩, ⟨by (with_reducible repeat (first | refine b1_ ?_ _ | refine b2_ ?_ | refine b3_ ?_ _)); exact BK120.out⟩, ⟨by (with_reducible repeat (first | refine b1_ ?_ _ | refine b2_ ?_ | refine b3_ ?_ _)); exact BK121.out⟩, ⟨by repeat (with_reducible first | exact HB.out | apply l1_ | apply l2_ | apply l3_ | refine l4_ ?_ GE120.out | refine l4_ ?_ GE121.out)⟩⟩
              case rest =>
               clear HC41
               (try clear c1); (try clear p1); (try clear q1); (try clear hx1); (try clear c2); (try clear p2); (try clear c3); (try clear c4); (try clear c6); (try clear p6); (try clear c8); (try clear c8b0); (try clear c10); (try clear c10b0); (try clear c12); (try clear p12); (try clear q12); (try clear hx12); (try clear p13); (try clear q13); (try clear hx13); (try clear c18); (try clear c19); (try clear c21); (try clear c21b0); (try clear c23); (try clear c23b0); (try clear c25); (try clear c28); (try clear c32); (try clear c34); (try clear c38); (try clear c38b0); (try clear c40); (try clear c42); (try clear c42b0); (try clear c44); (try clear c44b0); (try clear c45); (try clear c45b0); (try clear c47); (try clear c49); (try clear c49b0); (try clear hcz20_0); (try clear hcz20_1); (try clear hcz20_2); (try clear hcz20_3); (try clear hcz33_0); (try clear hcz33_1); (try clear hcz33_2); (try clear hcz33_3); (try clear hcz34_0); (try clear hcz34_1); (try clear hcz34_2); (try clear hcz34_3); (try clear hcz7_0); (try clear hcz7_1); (try clear hcz7_2); (try clear hcz7_3); (try clear hfz20_0); (try clear hfz20_1); (try clear hfz20_2); (try clear hfz20_3); (try clear hfz33_0); (try clear hfz33_1); (try clear hfz33_2); (try clear hfz33_3); (try clear hfz34_0); (try clear hfz34_1); (try clear hfz34_2); (try clear hfz34_3); (try clear hfz7_0); (try clear hfz7_1); (try clear hfz7_2); (try clear hfz7_3); (try clear hx122_0); (try clear hx122_1); (try clear hx124_0); (try clear hx124_1); (try clear hx126_0); (try clear hx126_1); (try clear hx134_0); (try clear hx134_1); (try clear hx136_0); (try clear hx136_1); (try clear p1); (try clear p12); (try clear p122); (try clear p124); (try clear p126); (try clear p134); (try clear p136); (try clear p2); (try clear p6); (try clear q1); (try clear q12); (try clear q122); (try clear q124); (try clear q126); (try clear q134); (try clear q136)
               obtain ⟨kq, x90_40, rfl, HA, HJ40, BKS, BK120, BK121, HB⟩ := hcut
               cases kq with
               | zero => exact absurd HA.out (by simp [pattern_bracket.j5])
               | succ kj40 =>
                have H := HA.out
                clear HA
                simp only [pattern_bracket.j5] at H
                by_cases c54 : x90_40 = true
                ·
                 subst c54
                 rw [if_pos rfl] at H
                 by_cases c55 : 0 ≤ x7_3
                 ·
                  rw [if_pos c55] at H
                  have c55b0 : decide (0 ≤ x7_3) = true := decide_eq_true c55
                  clear c55
                  by_cases c56 : x7_3 < (l0.length : Int)
                  ·
                   rw [if_pos c56] at H
                   have c56b0 : decide (x7_3 < (l0.length : Int)) = true := decide_eq_true c56
                   clear c56
                   obtain ⟨ji57, hji57⟩ : ∃ j_ : Int, (wrap64 (x7_3 + 2)) = j_ := ⟨_, rfl⟩
                   first | rw [hji57] at H | simp only [hji57] at H
                   have hji57w : (IntKind.i64.wrap (x7_3 + 2)) = ji57 := (i64_w _).trans hji57
                   by_cases c58 : 0 ≤ (ji57)
                   ·
                    rw [if_pos c58] at H
                    have c58b0 : decide (0 ≤ (ji57)) = true := decide_eq_true c58
                    clear c58
                    by_cases c59 : (ji57) < (l0.length : Int)
                    ·
                     rw [if_pos c59] at H
                     have c59b0 : decide ((ji57) < (l0.length : Int)) = true := decide_eq_true c59
                     clear c59
                     replace H := Option.bind_eq_some_iff.mp H
                     obtain ⟨t140, A600, H⟩ := H
                     try dsimp -simprocs only at H
                     have A60 := m_ A600
                     clear A600
                     have H' := m_ H
                     clear H
                     have p138 : 0 ≤ (x7_3 : Int) := o1_ (by with_reducible assumption)
                     have q138 : x7_3 < (l0.length : Int) := o1_ (by with_reducible assumption)
                     obtain ⟨ad138, e138, hx138_0, hx138_1⟩ := at_T51 HR0.out x7_3 p138 q138
                     cases e138
                     have lt138_ := Nat.lt_of_lt_of_le (c1_ w _ hx138_0) GES.out
                     replace hx138_0 := (HB.out.cell (c1_ w _ hx138_0)).trans hx138_0
                     replace hx138_1 := (HB.out.cell (c1_ w _ hx138_1)).trans hx138_1
                     replace p138 := eq_true p138
                     replace q138 := eq_true q138
                     have p139 : 0 ≤ ((ji57) : Int) := o1_ (by with_reducible assumption)
                     have q139 : (ji57) < (l0.length : Int) := o1_ (by with_reducible assumption)
                     obtain ⟨ad139, e139, hx139_0, hx139_1⟩ := at_T51 HR0.out (ji57) p139 q139
                     obtain rfl : ad138 = ad139 := (by injection e139)
                     have lt139_ := Nat.lt_of_lt_of_le (c1_ w _ hx139_0) GES.out
                     replace hx139_0 := (HB.out.cell (c1_ w _ hx139_0)).trans hx139_0
                     replace hx139_1 := (HB.out.cell (c1_ w _ hx139_1)).trans hx139_1
                     replace p139 := eq_true p139
                     replace q139 := eq_true q139
                     try go_wp2_with fail
                     go_region_held3 (fun w' => w'.cell? (ad138.add (x7_3.toNat * 2)) = some (.int .u8 (rd_T51 l0 x7_3).f0) ∧ w'.cell? (ad138.add ((ji57).toNat * 2)) = some (.int .u8 (rd_T51 l0 (ji57)).f0)) (first | exact ⟨k0_, k1_⟩ | exact ⟨hx138_0, hx139_0⟩ | go_keep) (first | (go_at_call 48; (with_reducible refine (pattern_bytes_add.calls x8_35 ((rd_T51 l0 x7_3).f0) ((rd_T51 l0 (ji57)).f0) t140 gbS _ ?sideS A60.out).mono ?_); (case sideS => ((with_reducible repeat (first | refine b1_ ?_ _ | refine b2_ ?_ | refine b3_ ?_ _)); exact BKS.out)); rintro e w38 ⟨vU, rfl, hs, hb⟩; have k0_ := (hb.cell lt138_).trans hx138_0; have k1_ := (hb.cell lt139_).trans hx139_0; have n0_ := m_ (keepB (g := gb120) (o := .cells #[.int .i64 x121000_3, .string x121001_3, .bool x121002_3, .slice none 0 0] 35 (0, 0)) (by (with_reducible repeat (first | refine b1_ ?_ _ | refine b2_ ?_ | refine b3_ ?_ _)); exact BK120.out) hb LR.out); have n1_ := m_ (keepB (g := gb121) (o := .cells #[.int .i64 4, .string (⟨#[]⟩ : ByteArray), .bool x122002_16, .slice none 0 0] 35 (0, 0)) (by (with_reducible repeat (first | refine b1_ ?_ _ | refine b2_ ?_ | refine b3_ ?_ _)); exact BK121.out) hb LI.out); have n2_ := m_ (stepB (by repeat (with_reducible first | exact HB.out | apply l1_ | apply l2_ | apply l3_ | refine l4_ ?_ GE120.out | refine l4_ ?_ GE121.out)) hb GES.out); have n3_ := m_ hs; clear BKS; clear BK120; clear BK121; clear HB; have BKS := n3_; have BK120 := n0_; have BK121 := n1_; have HB := n2_; clear n0_ n1_ n2_ n3_; clear hs hb))
                     go_wp2
                     go_roundg kj40
                     case measure => have := HJ2.out; have := HJ16.out; have := HK3.out; have := HJ21.out; have := HJ35.out; have := HJ40.out; omega
                     case rel => exact ⟨(wrap64 (x7_3 + 3)), (t140), (x121000_3), (x121001_3), (x121002_3), (by first | rfl | (simp; done) | (simp [*]; done)), H', ⟨by have := HJ2.out; have := HJ16.out; have := HK3.out; have := HJ21.out; have := HJ35.out; have := HJ40.out; omega⟩, ⟨by (with_reducible repeat (first | refine b1_ ?_ _ | refine b2_ ?_ | refine b3_ ?_ _)); exact BKS.out⟩, ⟨by (with_reducible repeat (first | refine b1_ ?_ _ | refine b2_ ?_ | refine b3_ ?_ _)); exact BK120.out⟩, ⟨by (with_reducible repeat (first | refine b1_ ?_ _ | refine b2_ ?_ | refine b3_ ?_ _)); exact BK121.out⟩, ⟨by repeat (with_reducible first | exact HB.out | apply l1_ | apply l2_ | apply l3_ | refine l4_ ?_ GE120.out | refine l4_ ?_ GE121.out)⟩⟩
                    rw [if_neg c59] at H
                    exact absurd H (by simp)
                   rw [if_neg c58] at H
                   exact absurd H (by simp)
                  rw [if_neg c56] at H
                  exact absurd H (by simp)
                 rw [if_neg c55] at H
                 exact absurd H (by simp)
                ·
                 replace c54 := Bool.eq_false_iff.mpr c54
                 subst c54
                 rw [if_neg (show ¬ (false = true) by decide)] at H
                 by_cases c61 : 0 ≤ x7_3
                 ·
                  rw [if_pos c61] at H
                  have c61b0 : decide (0 ≤ x7_3) = true := decide_eq_true c61
                  clear c61
                  by_cases c62 : x7_3 < (l0.length : Int)
                  ·
                   rw [if_pos c62] at H
                   have c62b0 : decide (x7_3 < (l0.length : Int)) = true := decide_eq_true c62
                   clear c62
                   replace H := Option.bind_eq_some_iff.mp H
                   obtain ⟨t143, A630, H⟩ := H
                   try dsimp -simprocs only at H
                   have A63 := m_ A630
                   clear A630
                   have H' := m_ H
                   clear H
                   have p141 : 0 ≤ (x7_3 : Int) := o1_ (by with_reducible assumption)
                   have q141 : x7_3 < (l0.length : Int) := o1_ (by with_reducible assumption)
                   obtain ⟨ad141, e141, hx141_0, hx141_1⟩ := at_T51 HR0.out x7_3 p141 q141
                   cases e141
                   have lt141_ := Nat.lt_of_lt_of_le (c1_ w _ hx141_0) GES.out
                   replace hx141_0 := (HB.out.cell (c1_ w _ hx141_0)).trans hx141_0
                   replace hx141_1 := (HB.out.cell (c1_ w _ hx141_1)).trans hx141_1
                   replace p141 := eq_true p141
                   replace q141 := eq_true q141
                   have p142 : 0 ≤ (x7_3 : Int) := o1_ (by with_reducible assumption)
                   have q142 : x7_3 < (l0.length : Int) := o1_ (by with_reducible assumption)
                   obtain ⟨ad142, e142, hx142_0, hx142_1⟩ := at_T51 HR0.out x7_3 p142 q142
                   obtain rfl : ad141 = ad142 := (by injection e142)
                   have lt142_ := Nat.lt_of_lt_of_le (c1_ w _ hx142_0) GES.out
                   replace hx142_0 := (HB.out.cell (c1_ w _ hx142_0)).trans hx142_0
                   replace hx142_1 := (HB.out.cell (c1_ w _ hx142_1)).trans hx142_1
                   replace p142 := eq_true p142
                   replace q142 := eq_true q142
                   try go_wp2_with fail
                   go_region_held3 (fun w' => w'.cell? (ad141.add (x7_3.toNat * 2)) = some (.int .u8 (rd_T51 l0 x7_3).f0) ∧ w'.cell? (ad141.add (x7_3.toNat * 2)) = some (.int .u8 (rd_T51 l0 x7_3).f0)) (first | exact ⟨k0_, k1_⟩ | exact ⟨hx141_0, hx142_0⟩ | go_keep) (first | (go_at_call 48; (with_reducible refine (pattern_bytes_add.calls x8_35 ((rd_T51 l0 x7_3).f0) ((rd_T51 l0 x7_3).f0) t143 gbS _ ?sideS A63.out).mono ?_); (case sideS => ((with_reducible repeat (first | refine b1_ ?_ _ | refine b2_ ?_ | refine b3_ ?_ _)); exact BKS.out)); rintro e w38 ⟨vU, rfl, hs, hb⟩; have k0_ := (hb.cell lt141_).trans hx141_0; have k1_ := (hb.cell lt142_).trans hx142_0; have n0_ := m_ (keepB (g := gb120) (o := .cells #[.int .i64 x121000_3, .string x121001_3, .bool x121002_3, .slice none 0 0] 35 (0, 0)) (by (with_reducible repeat (first | refine b1_ ?_ _ | refine b2_ ?_ | refine b3_ ?_ _)); exact BK120.out) hb LR.out); have n1_ := m_ (keepB (g := gb121) (o := .cells #[.int .i64 4, .string (⟨#[]⟩ : ByteArray), .bool x122002_16, .slice none 0 0] 35 (0, 0)) (by (with_reducible repeat (first | refine b1_ ?_ _ | refine b2_ ?_ | refine b3_ ?_ _)); exact BK121.out) hb LI.out); have n2_ := m_ (stepB (by repeat (with_reducible first | exact HB.out | apply l1_ | apply l2_ | apply l3_ | refine l4_ ?_ GE120.out | refine l4_ ?_ GE121.out)) hb GES.out); have n3_ := m_ hs; clear BKS; clear BK120; clear BK121; clear HB; have BKS := n3_; have BK120 := n0_; have BK121 := n1_; have HB := n2_; clear n0_ n1_ n2_ n3_; clear hs hb))
                   go_wp2
                   go_roundg kj40
                   case measure => have := HJ2.out; have := HJ16.out; have := HK3.out; have := HJ21.out; have := HJ35.out; have := HJ40.out; omega
                   case rel => exact ⟨(wrap64 (x7_3 + 1)), (t143), (x121000_3), (x121001_3), (x121002_3), (by first | rfl | (simp; done) | (simp [*]; done)), H', ⟨by have := HJ2.out; have := HJ16.out; have := HK3.out; have := HJ21.out; have := HJ35.out; have := HJ40.out; omega⟩, ⟨by (with_reducible repeat (first | refine b1_ ?_ _ | refine b2_ ?_ | refine b3_ ?_ _)); exact BKS.out⟩, ⟨by (with_reducible repeat (first | refine b1_ ?_ _ | refine b2_ ?_ | refine b3_ ?_ _)); exact BK120.out⟩, ⟨by (with_reducible repeat (first | refine b1_ ?_ _ | refine b2_ ?_ | refine b3_ ?_ _)); exact BK121.out⟩, ⟨by repeat (with_reducible first | exact HB.out | apply l1_ | apply l2_ | apply l3_ | refine l4_ ?_ GE120.out | refine l4_ ?_ GE121.out)⟩⟩
                  rw [if_neg c62] at H
                  exact absurd H (by simp)
                 rw [if_neg c61] at H
                 exact absurd H (by simp)
       rw [if_neg c21] at H
       have c21b0 : decide (x7_3 < (l0.length : Int)) = false := decide_eq_false c21
       clear c21
       simp only [Option.some.injEq, Prod.mk.injEq] at H
       obtain ⟨rfl, rfl, rfl, rfl, rfl⟩ := H
       have hnb64 := NB120_121.out
       have hnc64 := NB121_120.out
       have hcz65_0 : wr.cell? ⟨gb120, 0, none⟩ = some (.int .i64 x121000_3) := (b5_ BK120.out 0).trans rfl
       have hcz65_1 : wr.cell? ⟨gb120, 1, none⟩ = some (.string x121001_3) := (b5_ BK120.out 1).trans rfl
       have hcz65_2 : wr.cell? ⟨gb120, 2, none⟩ = some (.bool x121002_3) := (b5_ BK120.out 2).trans rfl
       have hcz65_3 : wr.cell? ⟨gb120, 3, none⟩ = some (.slice none 0 0) := (b5_ BK120.out 3).trans rfl
       have hfz65_0 := f1_ BK120.out 0
       have hfz65_1 := f1_ BK120.out 1
       have hfz65_2 := f1_ BK120.out 2
       have hfz65_3 := f1_ BK120.out 3
       go_wp2
       refine bodyPost_ret (results_ct rfl _ _ gb120 35 #[.int .i64 0, .string (⟨#[]⟩ : ByteArray), .bool false, .slice none 0 0] (0, 0) _ rfl (by (with_reducible repeat (first | refine b1_ ?_ _ | refine b2_ ?_ | refine b3_ ?_ _)); refine blk_put (cs := #[.int .i64 0, .string (⟨#[]⟩ : ByteArray), .bool false, .slice none 0 0]) ?_ 3 _ rfl; (with_reducible repeat (first | refine b1_ ?_ _ | refine b2_ ?_ | refine b3_ ?_ _)); refine blk_put (cs := #[.int .i64 0, .string (⟨#[]⟩ : ByteArray), .bool x121002_3, .slice none 0 0]) ?_ 2 _ rfl; (with_reducible repeat (first | refine b1_ ?_ _ | refine b2_ ?_ | refine b3_ ?_ _)); refine blk_put (cs := #[.int .i64 0, .string x121001_3, .bool x121002_3, .slice none 0 0]) ?_ 1 _ rfl; (with_reducible repeat (first | refine b1_ ?_ _ | refine b2_ ?_ | refine b3_ ?_ _)); refine blk_put (cs := #[.int .i64 x121000_3, .string x121001_3, .bool x121002_3, .slice none 0 0]) ?_ 0 _ rfl; (with_reducible repeat (first | refine b1_ ?_ _ | refine b2_ ?_ | refine b3_ ?_ _)); exact BK120.out) Try.underlying35 rfl (by kernel_rfl)) rfl ?_
       exact ⟨_, by first | rfl | (simp [errW_none, errW_some] <;> rfl) | (simp [*, errW_none, errW_some] <;> rfl), by first | exact Kd.R_nil _ _ _ _ _ | exact Kd.N_nil _ _ _ _ _ | exact Kd.V_nil _ _ _ _ _ | exact Kd.Q_nil _ _ _ _ _ | exact Kd.S_nil _ _ _ _ _, by repeat (with_reducible first | exact HB.out | apply l1_ | apply l2_ | apply l3_ | refine l4_ ?_ GE120.out | refine l4_ ?_ GE121.out)⟩
end Go.Proofs.Ytbekhjcnmifnnaa.Q
