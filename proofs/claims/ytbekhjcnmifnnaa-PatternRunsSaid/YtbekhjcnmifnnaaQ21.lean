import Derived.Test.YtbekhjcnmifnnaaQ0
import Derived.Test.YtbekhjcnmifnnaaQ11
set_option linter.unusedVariables false
set_option linter.unusedSimpArgs false
namespace Go.Proofs.Ytbekhjcnmifnnaa.Q
open Go.RowKit Go.Proofs.YtbekhjcnmifnnaaW.PrintWords Go.Proofs.YtbekhjcnmifnnaaW.PrintLast Go.Proofs.YtbekhjcnmifnnaaW.PrintMore
def pattern_Literal.l0 : Nat → ByteArray → List (S35) → Int → Int → Option (ByteArray × Bool)
 | 0, _, _, _, _ => none
 | k + 1, x4, x7, x8, x9 => if x9 < x8 then (if 0 ≤ x9 then (if x9 < (x7.length : Int) then (if ((rd_T35 x7 x9).f0) = 1 then ((pattern_valid.f k ((rd_T35 x7 x9).f0) ((rd_T35 x7 x9).f1) ((rd_T35 x7 x9).f2) ((rd_T35 x7 x9).f3)).bind fun t256 => (if t256 = true then (if x4.size + ((rd_T35 x7 x9).f1).size ≤ 9223372036854775807 then (pattern_Literal.l0 k (x4 ++ ((rd_T35 x7 x9).f1)) x7 x8 (wrap64 (x9 + 1))) else (none)) else (some ((⟨#[]⟩ : ByteArray), false)))) else (some ((⟨#[]⟩ : ByteArray), false))) else (none)) else (none)) else (some (x4, true))
def pattern_Literal.f (k : Nat) (l0 : List (S35)) : Option (ByteArray × Bool) := pattern_Literal.l0 k (⟨#[]⟩ : ByteArray) l0 (l0.length : Int) 0
theorem pattern_Literal.mono_l : ∀ k, (∀ y0 y1 y2 y3, LeO (pattern_Literal.l0 k y0 y1 y2 y3) (pattern_Literal.l0 (k + 1) y0 y1 y2 y3))
 | 0 => fun _ _ _ _ r h => by simp [pattern_Literal.l0] at h
 | k + 1 => by
  have ih0 := pattern_Literal.mono_l k
  ·
   intro y0 y1 y2 y3
   unfold pattern_Literal.l0
   repeat' first
   | (with_reducible exact ih0 _ _ _ _)
   | (with_reducible exact pattern_valid.mono _ _ _ _ _)
   | (with_reducible exact LeO.refl _)
   | (with_reducible exact LeO.none _)
   | (with_reducible refine LeO.ite ?_ ?_)
   | (with_reducible refine LeO.bind ?_ (fun _ => ?_))
theorem pattern_Literal.mono : ∀ a0 k, LeO (pattern_Literal.f k a0) (pattern_Literal.f (k + 1) a0) := by
 intro a0 k
 have ih0 := pattern_Literal.mono_l k
 unfold pattern_Literal.f
 repeat' first
  | (with_reducible exact ih0 _ _ _ _)
  | (with_reducible exact pattern_valid.mono _ _ _ _ _)
  | (with_reducible exact LeO.refl _)
  | (with_reducible exact LeO.none _)
  | (with_reducible refine LeO.ite ?_ ?_)
  | (with_reducible refine LeO.bind ?_ (fun _ => ?_))
set_option maxHeartbeats 8000000 in
set_option maxRecDepth 100000 in
theorem pattern_Literal.calls (k : Nat) (A0 : Option Addr) (c0 : Nat) (l0 : List (S35)) (r1 : ByteArray) (r2 : Bool) (w : World) (hr0 : Kd.C k35 w A0 l0.length l0) (hc0 : l0.length ≤ c0) (h : pattern_Literal.f k l0 = some (r1, r2)) :
 Calls Try.prog 27 #[.slice A0 l0.length c0] w fun e w' => e = .returned (.tuple #[.string r1, .bool r2]) ∧ Below w.heap.size w w' := by
 have hu35 := Try.underlying35
 have HR0 := m_ hr0
 have HC0 := m_ hc0
 clear hr0 hc0
 have HB := m_ (Below.refl w.heap.size w)
 have H : (pattern_Literal.l0 k (⟨#[]⟩ : ByteArray) l0 (l0.length : Int) 0) = some (r1, r2) := h
 clear h
 have H' := m_ H
 clear H
 go_enter Try.func27, Try.ntmps27
 go_wp2
 go_loopg [4, 9] k (fun kq v4 v9 w' => ∃ (x4_1 : ByteArray) (x9_1 : Int), v4 = .string x4_1 ∧ v9 = .int .i64 x9_1 ∧ Aside0 (pattern_Literal.l0 kq x4_1 l0 (l0.length : Int) x9_1 = some (r1, r2)) ∧ Aside0 (kq ≤ k) ∧ Aside0 (Below w.heap.size w w'))
 case atStart => exact ⟨((⟨#[]⟩ : ByteArray)), (0), (by first | rfl | (simp; done) | (simp [*]; done)), (by first | rfl | (simp; done) | (simp [*]; done)), H', ⟨Nat.le_refl _⟩, ⟨by repeat (with_reducible first | exact HB.out | apply l1_ | apply l2_ | apply l3_)⟩⟩
 case round =>
  clear H'
  obtain ⟨x4_1, x9_1, rfl, rfl, HA, HK1, HB⟩ := hrel
  cases gk with
  | zero => exact absurd HA.out (by simp [pattern_Literal.l0])
  | succ k1 =>
   have H := HA.out
   clear HA
   simp only [pattern_Literal.l0] at H
   by_cases c2 : x9_1 < (l0.length : Int)
   ·
    rw [if_pos c2] at H
    have c2b0 : decide (x9_1 < (l0.length : Int)) = true := decide_eq_true c2
    clear c2
    by_cases c3 : 0 ≤ x9_1
    ·
     rw [if_pos c3] at H
     have c3b0 : decide (0 ≤ x9_1) = true := decide_eq_true c3
     clear c3
     by_cases c4 : x9_1 < (l0.length : Int)
     ·
      rw [if_pos c4] at H
      have c4b0 : decide (x9_1 < (l0.length : Int)) = true := decide_eq_true c4
      clear c4
      by_cases c5 : ((rd_T35 l0 x9_1).f0) = 1
      ·
       rw [if_pos c5] at H
       have c5b0 : (((rd_T35 l0 x9_1).f0) == 1) = true := beq_iff_eq.mpr c5
       have c5b1 : (((rd_T35 l0 x9_1).f0) != 1) = false := bne_eq_false_iff_eq.mpr c5
       clear c5
       replace H := Option.bind_eq_some_iff.mp H
       obtain ⟨t256, A60, H⟩ := H
       try dsimp -simprocs only at H
       have A6 := m_ A60
       clear A60
       by_cases c7 : t256 = true
       ·
        subst c7
        rw [if_pos rfl] at H
        by_cases c8 : x4_1.size + ((rd_T35 l0 x9_1).f1).size ≤ 9223372036854775807
        ·
         rw [if_pos c8] at H
         have c8b0 := eq_true c8
         have c8b1 : decide (x4_1.size + ((rd_T35 l0 x9_1).f1).size ≤ 9223372036854775807) = true := decide_eq_true c8
         try have c8b2 : (9223372036854775807 < x4_1.size + ((rd_T35 l0 x9_1).f1).size) = False := eq_false (Nat.not_lt.2 c8)
         have H' := m_ H
         clear H
         have p254 : 0 ≤ (x9_1 : Int) := o1_ (by with_reducible assumption)
         have q254 : x9_1 < (l0.length : Int) := o1_ (by with_reducible assumption)
         obtain ⟨ad254, A254_3, c254_3, e254, hx254_0, hx254_1, hx254_2, hx254_3, hl254_3, hi254_3⟩ := at_T35 HR0.out x9_1 p254 q254
         cases e254
         replace hx254_0 := (HB.out.cell (c1_ w _ hx254_0)).trans hx254_0
         replace hx254_1 := (HB.out.cell (c1_ w _ hx254_1)).trans hx254_1
         replace hx254_2 := (HB.out.cell (c1_ w _ hx254_2)).trans hx254_2
         replace hx254_3 := (HB.out.cell (c1_ w _ hx254_3)).trans hx254_3
         have HR254_3 := m_ hi254_3
         have HC254_3 := m_ hl254_3
         clear hi254_3 hl254_3
         replace p254 := eq_true p254
         replace q254 := eq_true q254
         go_wp2_with (first | ((with_reducible refine gate_dst (N := 6) rfl ?_); refine box_event ?hg (N := 6) ?hd (cs := #[.int .i64 0, .string (⟨#[]⟩ : ByteArray), .bool false, .slice none 0 0]) (t := 35) ?hr ?_; (case hd => rfl); (case hg => rfl); (case hr => first | (go_simp; done) | (go_simp; rfl)); intro gb255 hg w9 hbox hb; have BK255 := m_ (hbox); have GW255 := m_ ((by rw [hg]; exact (l6_ (by repeat (with_reducible first | exact HB.out | apply l1_ | apply l2_ | apply l3_))) : w.heap.size ≤ gb255)); have GE255 := m_ ((by rw [hg]; exact (l6_ (by repeat (with_reducible first | exact HB.out | apply l1_ | apply l2_ | apply l3_))) : w.heap.size ≤ gb255)); replace HB := m_ (l5_ (by repeat (with_reducible first | exact HB.out | apply l1_ | apply l2_ | apply l3_)) hb); clear hb hbox hg; have hcz10_0 : w9.cell? ⟨gb255, 0, none⟩ = some (.int .i64 0) := (b5_ BK255.out 0).trans rfl; have hcz10_1 : w9.cell? ⟨gb255, 1, none⟩ = some (.string (⟨#[]⟩ : ByteArray)) := (b5_ BK255.out 1).trans rfl; have hcz10_2 : w9.cell? ⟨gb255, 2, none⟩ = some (.bool false) := (b5_ BK255.out 2).trans rfl; have hcz10_3 : w9.cell? ⟨gb255, 3, none⟩ = some (.slice none 0 0) := (b5_ BK255.out 3).trans rfl; have hfz10_0 := f1_ BK255.out 0; have hfz10_1 := f1_ BK255.out 1; have hfz10_2 := f1_ BK255.out 2; have hfz10_3 := f1_ BK255.out 3) | (go_at_call 44; (with_reducible refine (pattern_valid.calls k1 ((rd_T35 l0 x9_1).f0) ((rd_T35 l0 x9_1).f1) ((rd_T35 l0 x9_1).f2) _ _ ((rd_T35 l0 x9_1).f3) true _ ?side1 ?side2 A6.out).mono ?_); (case side1 => exact Kd.C_below HR254_3.out (by repeat (with_reducible first | exact HB.out | apply l1_ | apply l2_ | apply l3_ | refine l4_ ?_ GE255.out))); (case side2 => exact HC254_3.out); rintro e w11 ⟨rfl, hb⟩; replace BK255 := m_ (b4_ (g := gb255) (o := .cells #[.int .i64 ((rd_T35 l0 x9_1).f0), .string ((rd_T35 l0 x9_1).f1), .bool ((rd_T35 l0 x9_1).f2), .slice A254_3 ((rd_T35 l0 x9_1).f3).length c254_3] 35 (0, 0)) (by (with_reducible repeat (first | refine b1_ ?_ _ | refine b2_ ?_ | refine b3_ ?_ _)); refine blk_put (cs := #[.int .i64 ((rd_T35 l0 x9_1).f0), .string ((rd_T35 l0 x9_1).f1), .bool ((rd_T35 l0 x9_1).f2), .slice none 0 0]) ?_ 3 _ rfl; (with_reducible repeat (first | refine b1_ ?_ _ | refine b2_ ?_ | refine b3_ ?_ _)); refine blk_put (cs := #[.int .i64 ((rd_T35 l0 x9_1).f0), .string ((rd_T35 l0 x9_1).f1), .bool false, .slice none 0 0]) ?_ 2 _ rfl; (with_reducible repeat (first | refine b1_ ?_ _ | refine b2_ ?_ | refine b3_ ?_ _)); refine blk_put (cs := #[.int .i64 ((rd_T35 l0 x9_1).f0), .string (⟨#[]⟩ : ByteArray), .bool false, .slice none 0 0]) ?_ 1 _ rfl; (with_reducible repeat (first | refine b1_ ?_ _ | refine b2_ ?_ | refine b3_ ?_ _)); refine blk_put (cs := #[.int .i64 0, .string (⟨#[]⟩ : ByteArray), .bool false, .slice none 0 0]) ?_ 0 _ rfl; (with_reducible repeat (first | refine b1_ ?_ _ | refine b2_ ?_ | refine b3_ ?_ _)); exact BK255.out) hb); replace HB := m_ (l5_ (by repeat (with_reducible first | exact HB.out | apply l1_ | apply l2_ | apply l3_ | refine l4_ ?_ GE255.out)) hb); (try clear hb); have hcz12_0 : w11.cell? ⟨gb255, 0, none⟩ = some (.int .i64 ((rd_T35 l0 x9_1).f0)) := (b5_ BK255.out 0).trans rfl; have hcz12_1 : w11.cell? ⟨gb255, 1, none⟩ = some (.string ((rd_T35 l0 x9_1).f1)) := (b5_ BK255.out 1).trans rfl; have hcz12_2 : w11.cell? ⟨gb255, 2, none⟩ = some (.bool ((rd_T35 l0 x9_1).f2)) := (b5_ BK255.out 2).trans rfl; have hcz12_3 : w11.cell? ⟨gb255, 3, none⟩ = some (.slice A254_3 ((rd_T35 l0 x9_1).f3).length c254_3) := (b5_ BK255.out 3).trans rfl; have hfz12_0 := f1_ BK255.out 0; have hfz12_1 := f1_ BK255.out 1; have hfz12_2 := f1_ BK255.out 2; have hfz12_3 := f1_ BK255.out 3))
         go_roundg k1
         case measure => have := HK1.out; omega
         case rel => exact ⟨(x4_1 ++ ((rd_T35 l0 x9_1).f1)), (wrap64 (x9_1 + 1)), (by first | rfl | (simp; done) | (simp [*]; done)), (by first | rfl | (simp; done) | (simp [*]; done)), H', ⟨by have := HK1.out; omega⟩, ⟨by repeat (with_reducible first | exact HB.out | apply l1_ | apply l2_ | apply l3_ | refine l4_ ?_ GE255.out)⟩⟩
        rw [if_neg c8] at H
        exact absurd H (by simp)
       ·
        replace c7 := Bool.eq_false_iff.mpr c7
        subst c7
        rw [if_neg (show ¬ (false = true) by decide)] at H
        simp only [Option.some.injEq, Prod.mk.injEq] at H
        obtain ⟨rfl, rfl⟩ := H
        have p254 : 0 ≤ (x9_1 : Int) := o1_ (by with_reducible assumption)
        have q254 : x9_1 < (l0.length : Int) := o1_ (by with_reducible assumption)
        obtain ⟨ad254, A254_3, c254_3, e254, hx254_0, hx254_1, hx254_2, hx254_3, hl254_3, hi254_3⟩ := at_T35 HR0.out x9_1 p254 q254
        cases e254
        replace hx254_0 := (HB.out.cell (c1_ w _ hx254_0)).trans hx254_0
        replace hx254_1 := (HB.out.cell (c1_ w _ hx254_1)).trans hx254_1
        replace hx254_2 := (HB.out.cell (c1_ w _ hx254_2)).trans hx254_2
        replace hx254_3 := (HB.out.cell (c1_ w _ hx254_3)).trans hx254_3
        have HR254_3 := m_ hi254_3
        have HC254_3 := m_ hl254_3
        clear hi254_3 hl254_3
        replace p254 := eq_true p254
        replace q254 := eq_true q254
        go_wp2_with (first | ((with_reducible refine gate_dst (N := 6) rfl ?_); refine box_event ?hg (N := 6) ?hd (cs := #[.int .i64 0, .string (⟨#[]⟩ : ByteArray), .bool false, .slice none 0 0]) (t := 35) ?hr ?_; (case hd => rfl); (case hg => rfl); (case hr => first | (go_simp; done) | (go_simp; rfl)); intro gb255 hg w13 hbox hb; have BK255 := m_ (hbox); have GW255 := m_ ((by rw [hg]; exact (l6_ (by repeat (with_reducible first | exact HB.out | apply l1_ | apply l2_ | apply l3_))) : w.heap.size ≤ gb255)); have GE255 := m_ ((by rw [hg]; exact (l6_ (by repeat (with_reducible first | exact HB.out | apply l1_ | apply l2_ | apply l3_))) : w.heap.size ≤ gb255)); replace HB := m_ (l5_ (by repeat (with_reducible first | exact HB.out | apply l1_ | apply l2_ | apply l3_)) hb); clear hb hbox hg; have hcz14_0 : w13.cell? ⟨gb255, 0, none⟩ = some (.int .i64 0) := (b5_ BK255.out 0).trans rfl; have hcz14_1 : w13.cell? ⟨gb255, 1, none⟩ = some (.string (⟨#[]⟩ : ByteArray)) := (b5_ BK255.out 1).trans rfl; have hcz14_2 : w13.cell? ⟨gb255, 2, none⟩ = some (.bool false) := (b5_ BK255.out 2).trans rfl; have hcz14_3 : w13.cell? ⟨gb255, 3, none⟩ = some (.slice none 0 0) := (b5_ BK255.out 3).trans rfl; have hfz14_0 := f1_ BK255.out 0; have hfz14_1 := f1_ BK255.out 1; have hfz14_2 := f1_ BK255.out 2; have hfz14_3 := f1_ BK255.out 3) | (go_at_call 44; (with_reducible refine (pattern_valid.calls k1 ((rd_T35 l0 x9_1).f0) ((rd_T35 l0 x9_1).f1) ((rd_T35 l0 x9_1).f2) _ _ ((rd_T35 l0 x9_1).f3) false _ ?side1 ?side2 A6.out).mono ?_); (case side1 => exact Kd.C_below HR254_3.out (by repeat (with_reducible first | exact HB.out | apply l1_ | apply l2_ | apply l3_ | refine l4_ ?_ GE255.out))); (case side2 => exact HC254_3.out); rintro e w15 ⟨rfl, hb⟩; replace BK255 := m_ (b4_ (g := gb255) (o := .cells #[.int .i64 ((rd_T35 l0 x9_1).f0), .string ((rd_T35 l0 x9_1).f1), .bool ((rd_T35 l0 x9_1).f2), .slice A254_3 ((rd_T35 l0 x9_1).f3).length c254_3] 35 (0, 0)) (by (with_reducible repeat (first | refine b1_ ?_ _ | refine b2_ ?_ | refine b3_ ?_ _)); refine blk_put (cs := #[.int .i64 ((rd_T35 l0 x9_1).f0), .string ((rd_T35 l0 x9_1).f1), .bool ((rd_T35 l0 x9_1).f2), .slice none 0 0]) ?_ 3 _ rfl; (with_reducible repeat (first | refine b1_ ?_ _ | refine b2_ ?_ | refine b3_ ?_ _)); refine blk_put (cs := #[.int .i64 ((rd_T35 l0 x9_1).f0), .string ((rd_T35 l0 x9_1).f1), .bool false, .slice none 0 0]) ?_ 2 _ rfl; (with_reducible repeat (first | refine b1_ ?_ _ | refine b2_ ?_ | refine b3_ ?_ _)); refine blk_put (cs := #[.int .i64 ((rd_T35 l0 x9_1).f0), .string (⟨#[]⟩ : ByteArray), .bool false, .slice none 0 0]) ?_ 1 _ rfl; (with_reducible repeat (first | refine b1_ ?_ _ | refine b2_ ?_ | refine b3_ ?_ _)); refine blk_put (cs := #[.int .i64 0, .string (⟨#[]⟩ : ByteArray), .bool false, .slice none 0 0]) ?_ 0 _ rfl; (with_reducible repeat (first | refine b1_ ?_ _ | refine b2_ ?_ | refine b3_ ?_ _)); exact BK255.out) hb); replace HB := m_ (l5_ (by repeat (with_reducible first | exact HB.out | apply l1_ | apply l2_ | apply l3_ | refine l4_ ?_ GE255.out)) hb); (try clear hb)))
        go_ret2
        exact ⟨by first | rfl | (simp [errW_none, errW_some] <;> rfl) | (simp [*, errW_none, errW_some] <;> rfl), by repeat (with_reducible first | exact HB.out | apply l1_ | apply l2_ | apply l3_ | refine l4_ ?_ GE255.out)⟩
      rw [if_neg c5] at H
      have c5b0 : (((rd_T35 l0 x9_1).f0) == 1) = false := beq_eq_false_iff_ne.mpr c5
      have c5b1 : (((rd_T35 l0 x9_1).f0) != 1) = true := bne_iff_ne.mpr c5
      simp only [Option.some.injEq, Prod.mk.injEq] at H
      obtain ⟨rfl, rfl⟩ := H
      have p254 : 0 ≤ (x9_1 : Int) := o1_ (by with_reducible assumption)
      have q254 : x9_1 < (l0.length : Int) := o1_ (by with_reducible assumption)
      obtain ⟨ad254, A254_3, c254_3, e254, hx254_0, hx254_1, hx254_2, hx254_3, hl254_3, hi254_3⟩ := at_T35 HR0.out x9_1 p254 q254
      cases e254
      replace hx254_0 := (HB.out.cell (c1_ w _ hx254_0)).trans hx254_0
      replace hx254_1 := (HB.out.cell (c1_ w _ hx254_1)).trans hx254_1
      replace hx254_2 := (HB.out.cell (c1_ w _ hx254_2)).trans hx254_2
      replace hx254_3 := (HB.out.cell (c1_ w _ hx254_3)).trans hx254_3
      have HR254_3 := m_ hi254_3
      have HC254_3 := m_ hl254_3
      clear hi254_3 hl254_3
      replace p254 := eq_true p254
      replace q254 := eq_true q254
      go_wp2_with (first | ((with_reducible refine gate_dst (N := 6) rfl ?_); refine box_event ?hg (N := 6) ?hd (cs := #[.int .i64 0, .string (⟨#[]⟩ : ByteArray), .bool false, .slice none 0 0]) (t := 35) ?hr ?_; (case hd => rfl); (case hg => rfl); (case hr => first | (go_simp; done) | (go_simp; rfl)); intro gb255 hg w16 hbox hb; have BK255 := m_ (hbox); have GW255 := m_ ((by rw [hg]; exact (l6_ (by repeat (with_reducible first | exact HB.out | apply l1_ | apply l2_ | apply l3_))) : w.heap.size ≤ gb255)); have GE255 := m_ ((by rw [hg]; exact (l6_ (by repeat (with_reducible first | exact HB.out | apply l1_ | apply l2_ | apply l3_))) : w.heap.size ≤ gb255)); replace HB := m_ (l5_ (by repeat (with_reducible first | exact HB.out | apply l1_ | apply l2_ | apply l3_)) hb); clear hb hbox hg; have hcz17_0 : w16.cell? ⟨gb255, 0, none⟩ = some (.int .i64 0) := (b5_ BK255.out 0).trans rfl; have hcz17_1 : w16.cell? ⟨gb255, 1, none⟩ = some (.string (⟨#[]⟩ : ByteArray)) := (b5_ BK255.out 1).trans rfl; have hcz17_2 : w16.cell? ⟨gb255, 2, none⟩ = some (.bool false) := (b5_ BK255.out 2).trans rfl; have hcz17_3 : w16.cell? ⟨gb255, 3, none⟩ = some (.slice none 0 0) := (b5_ BK255.out 3).trans rfl; have hfz17_0 := f1_ BK255.out 0; have hfz17_1 := f1_ BK255.out 1; have hfz17_2 := f1_ BK255.out 2; have hfz17_3 := f1_ BK255.out 3))
      go_ret2
      exact ⟨by first | rfl | (simp [errW_none, errW_some] <;> rfl) | (simp [*, errW_none, errW_some] <;> rfl), by repeat (with_reducible first | exact HB.out | apply l1_ | apply l2_ | apply l3_ | refine l4_ ?_ GE255.out)⟩
     rw [if_neg c4] at H
     exact absurd H (by simp)
    rw [if_neg c3] at H
    exact absurd H (by simp)
   rw [if_neg c2] at H
   have c2b0 : decide (x9_1 < (l0.length : Int)) = false := decide_eq_false c2
   clear c2
   simp only [Option.some.injEq, Prod.mk.injEq] at H
   obtain ⟨rfl, rfl⟩ := H
   go_wp2
   go_ret2
   exact ⟨by first | rfl | (simp [errW_none, errW_some] <;> rfl) | (simp [*, errW_none, errW_some] <;> rfl), by repeat (with_reducible first | exact HB.out | apply l1_ | apply l2_ | apply l3_)⟩
end Go.Proofs.Ytbekhjcnmifnnaa.Q
