import Derived.Test.YtbekhjcnmifnnaaQ0
import Derived.Test.YtbekhjcnmifnnaaQ31
import Derived.Test.YtbekhjcnmifnnaaQ34
import Derived.Test.YtbekhjcnmifnnaaQ36
set_option linter.unusedVariables false
set_option linter.unusedSimpArgs false
namespace Go.Proofs.Ytbekhjcnmifnnaa.Q
open Go.RowKit Go.Proofs.YtbekhjcnmifnnaaW.PrintWords Go.Proofs.YtbekhjcnmifnnaaW.PrintLast Go.Proofs.YtbekhjcnmifnnaaW.PrintMore
mutual
def jobshellref04_bracket.j0 : Nat → List (S65) → Int → Bool → Int → ByteArray → Bool → Option (Int × ByteArray × Bool × (List (S58)) × Int × Bool)
 | 0, _, _, _, _, _, _ => none
 | k + 1, x0, x8, x23, x436000, x436001, x436002 => if x23 = true then (jobshellref04_bracket.j1 k x0 (wrap64 (x8 + 1)) x436000 x436001 true) else (jobshellref04_bracket.j1 k x0 x8 x436000 x436001 x436002)
def jobshellref04_bracket.j1 : Nat → List (S65) → Int → Int → ByteArray → Bool → Option (Int × ByteArray × Bool × (List (S58)) × Int × Bool)
 | 0, _, _, _, _, _ => none
 | k + 1, x0, x8, x436000, x436001, x436002 => jobshellref04_bracket.l0 k x0 x8 ([] : List (S58)) true x436000 x436001 x436002
def jobshellref04_bracket.l0 : Nat → List (S65) → Int → List (S58) → Bool → Int → ByteArray → Bool → Option (Int × ByteArray × Bool × (List (S58)) × Int × Bool)
 | 0, _, _, _, _, _, _, _ => none
 | k + 1, x0, x8, x9, x10, x436000, x436001, x436002 => if x8 < (x0.length : Int) then (if x10 = true then ((jobshellref04_member.f k x0 x8).bind fun bt438 => (if x9.length + bt438.1.length < 70368744177664 then (jobshellref04_bracket.l0 k x0 bt438.2 (x9 ++ bt438.1) false x436000 x436001 x436002) else (none))) else ((jobshellref04_is.f x0 x8 93).bind fun t445 => (if t445 = true then (if x8 ≥ (x0.length : Int) then (some (0, (⟨#[]⟩ : ByteArray), false, ([] : List (S58)), 0, false)) else ((jobshellref04_set.f k x9).bind fun t446 => (some (x436000, x436001, x436002, t446, wrap64 (x8 + 1), true)))) else ((jobshellref04_member.f k x0 x8).bind fun bt449 => (if x9.length + bt449.1.length < 70368744177664 then (jobshellref04_bracket.l0 k x0 bt449.2 (x9 ++ bt449.1) false x436000 x436001 x436002) else (none)))))) else (if x8 ≥ (x0.length : Int) then (some (0, (⟨#[]⟩ : ByteArray), false, ([] : List (S58)), 0, false)) else ((jobshellref04_set.f k x9).bind fun t456 => (some (x436000, x436001, x436002, t456, wrap64 (x8 + 1), true))))
end
def jobshellref04_bracket.f (k : Nat) (l0 : List (S65)) (a1 : Int) : Option (Int × ByteArray × Bool × (List (S58)) × Int × Bool) := (jobshellref04_is.f l0 (wrap64 (a1 + 1)) 33).bind fun t436 => (if t436 = true then (jobshellref04_bracket.j0 k l0 (wrap64 (a1 + 1)) true 4 (⟨#[]⟩ : ByteArray) false) else ((jobshellref04_is.f l0 (wrap64 (a1 + 1)) 94).bind fun t437 => (jobshellref04_bracket.j0 k l0 (wrap64 (a1 + 1)) t437 4 (⟨#[]⟩ : ByteArray) false)))
set_option maxHeartbeats 8000000 in
set_option maxRecDepth 100000 in
theorem jobshellref04_bracket.calls (k : Nat) (A0 : Option Addr) (c0 : Nat) (l0 : List (S65)) (a1 : Int) (r1 : Int) (r2 : ByteArray) (r3 : Bool) (r4 : List (S58)) (r5 : Int) (r6 : Bool) (w : World) (hr0 : Kd.C k65 w A0 l0.length l0) (hc0 : l0.length ≤ c0) (h : jobshellref04_bracket.f k l0 a1 = some (r1, r2, r3, r4, r5, r6)) :
 Calls Try.prog 40 #[.slice A0 l0.length c0, .int .i64 a1] w fun e w' => ∃ v3_ : Value, e = .returned (.tuple #[.agg #[.int .i64 r1, .string r2, .bool r3, v3_], .int .i64 r5, .bool r6]) ∧ Kd.R k58 58 w' w.heap.size (fun _ => True) v3_ r4 ∧ Below w.heap.size w w' := by
 have hu35 := Try.underlying35
 have HR0 := m_ hr0
 have HC0 := m_ hc0
 clear hr0 hc0
 have HB := m_ (Below.refl w.heap.size w)
 have H : ((jobshellref04_is.f l0 (wrap64 (a1 + 1)) 33).bind fun t436 => (if t436 = true then (jobshellref04_bracket.j0 k l0 (wrap64 (a1 + 1)) true 4 (⟨#[]⟩ : ByteArray) false) else ((jobshellref04_is.f l0 (wrap64 (a1 + 1)) 94).bind fun t437 => (jobshellref04_bracket.j0 k l0 (wrap64 (a1 + 1)) t437 4 (⟨#[]⟩ : ByteArray) false)))) = some (r1, r2, r3, r4, r5, r6) := h
 clear h
 have HC3 := m_ H
 clear H
 go_enter Try.func40, Try.ntmps40
 go_upto_region 3 with (first | ((with_reducible refine gate_dst (N := 4) rfl ?_); refine box_event ?hg (N := 4) ?hd (cs := #[.int .i64 0, .string (⟨#[]⟩ : ByteArray), .bool false, .slice none 0 0]) (t := 35) ?hr ?_; (case hd => rfl); (case hg => rfl); (case hr => first | (go_simp; done) | (go_simp; rfl)); intro gb434 hg w4 hbox hb; have BK434 := m_ (hbox); have GW434 := m_ ((by rw [hg]; exact (l6_ (by repeat (with_reducible first | exact HB.out | apply l1_ | apply l2_ | apply l3_))) : w.heap.size ≤ gb434)); have GE434 := m_ ((by rw [hg]; exact (l6_ (by repeat (with_reducible first | exact HB.out | apply l1_ | apply l2_ | apply l3_))) : w.heap.size ≤ gb434)); replace HB := m_ (l5_ (by repeat (with_reducible first | exact HB.out | apply l1_ | apply l2_ | apply l3_)) hb); clear hb hbox hg) | ((with_reducible refine gate_dst (N := 7) rfl ?_); refine box_event ?hg (N := 7) ?hd (cs := #[.int .i64 0, .string (⟨#[]⟩ : ByteArray), .bool false, .slice none 0 0]) (t := 35) ?hr ?_; (case hd => rfl); (case hg => rfl); (case hr => first | (go_simp; done) | (go_simp; rfl)); intro gb435 hg w5 hbox hb; have BK435 := m_ (hbox); have GW435 := m_ ((by rw [hg]; exact (l6_ (by repeat (with_reducible first | exact HB.out | apply l1_ | apply l2_ | apply l3_ | refine l4_ ?_ GE434.out))) : w.heap.size ≤ gb435)); have GE435 := m_ ((by rw [hg]; exact (l6_ (by repeat (with_reducible first | exact HB.out | apply l1_ | apply l2_ | apply l3_ | refine l4_ ?_ GE434.out))) : w.heap.size ≤ gb435)); replace HB := m_ (l5_ (by repeat (with_reducible first | exact HB.out | apply l1_ | apply l2_ | apply l3_ | refine l4_ ?_ GE434.out)) hb); have NB434_435 := m_ ((by rw [hg]; exact Nat.ne_of_lt (blk_lt (g := gb434) (o := .cells #[.int .i64 0, .string (⟨#[]⟩ : ByteArray), .bool false, .slice none 0 0] 35 (0, 0)) (by (with_reducible repeat (first | refine b1_ ?_ _ | refine b2_ ?_ | refine b3_ ?_ _)); exact BK434.out)) : gb434 ≠ gb435)); have NB435_434 := m_ ((by rw [hg]; exact Nat.ne_of_gt (blk_lt (g := gb434) (o := .cells #[.int .i64 0, .string (⟨#[]⟩ : ByteArray), .bool false, .slice none 0 0] 35 (0, 0)) (by (with_reducible repeat (first | refine b1_ ?_ _ | refine b2_ ?_ | refine b3_ ?_ _)); exact BK434.out)) : gb435 ≠ gb434)); replace BK434 := m_ (b4_ (g := gb434) (o := .cells #[.int .i64 0, .string (⟨#[]⟩ : ByteArray), .bool false, .slice none 0 0] 35 (0, 0)) (by (with_reducible repeat (first | refine b1_ ?_ _ | refine b2_ ?_ | refine b3_ ?_ _)); exact BK434.out) hb); clear hb hbox hg; have hnb6 := NB435_434.out; have hnc6 := NB434_435.out; have hcz7_0 : w5.cell? ⟨gb435, 0, none⟩ = some (.int .i64 0) := (b5_ BK435.out 0).trans rfl; have hcz7_1 : w5.cell? ⟨gb435, 1, none⟩ = some (.string (⟨#[]⟩ : ByteArray)) := (b5_ BK435.out 1).trans rfl; have hcz7_2 : w5.cell? ⟨gb435, 2, none⟩ = some (.bool false) := (b5_ BK435.out 2).trans rfl; have hcz7_3 : w5.cell? ⟨gb435, 3, none⟩ = some (.slice none 0 0) := (b5_ BK435.out 3).trans rfl; have hfz7_0 := f1_ BK435.out 0; have hfz7_1 := f1_ BK435.out 1; have hfz7_2 := f1_ BK435.out 2; have hfz7_3 := f1_ BK435.out 3))
 (try simp only [Act.put, List.setIfInBounds_toArray, List.set_cons_zero, List.set_cons_succ])
 go_cut [23] (fun v23 wc => ∃ (kq : Nat) (x23_2 : Bool), v23 = .bool x23_2 ∧ Aside0 (jobshellref04_bracket.j0 kq l0 (wrap64 (a1 + 1)) x23_2 4 (⟨#[]⟩ : ByteArray) false = some (r1, r2, r3, r4, r5, r6)) ∧ Aside0 (kq ≤ k) ∧ Aside0 (wc.heap[gb434]? = some (.cells #[.int .i64 0, .string (⟨#[]⟩ : ByteArray), .bool false, (.slice none 0 0)] 35 (0, 0))) ∧ Aside0 (wc.heap[gb435]? = some (.cells #[.int .i64 4, .string (⟨#[]⟩ : ByteArray), .bool false, (.slice none 0 0)] 35 (0, 0))) ∧ Aside0 (Below w.heap.size w wc))
 case first =>
  have H := HC3.out
  clear HC3
  replace H := Option.bind_eq_some_iff.mp H
  obtain ⟨t436, A80, H⟩ := H
  try dsimp -simprocs only at H
  have A8 := m_ A80
  clear A80
  by_cases c9 : t436 = true
  ·
   subst c9
   rw [if_pos rfl] at H
   have H' := m_ H
   clear H
   go_wp2_with (first | ((with_reducible refine gate_callee (f := 39) rfl ?_); refine goesL_ (some 18) rfl rfl Try.func39 (by kernel_rfl) rfl #[.slice A0 l0.length c0, .int .i64 (wrap64 (a1 + 1)), .int .u8 33] rfl (by (try simp only [List.map_toArray, List.map_cons, List.map_nil]); first | done | rfl | (simp only [List.length_drop, List.length_take]; rfl)) ?_; (with_reducible refine (jobshellref04_is.calls _ _ l0 (wrap64 (a1 + 1)) 33 true _ ?side1 ?side2 A8.out).mono ?_); (case side1 => exact Kd.C_below HR0.out (by repeat (with_reducible first | exact HB.out | apply l1_ | apply l2_ | apply l3_ | refine l4_ ?_ GE434.out | refine l4_ ?_ GE435.out))); (case side2 => exact HC0.out); rintro e w' ⟨rfl, ⟨nd, rfl⟩⟩; refine ⟨_, rfl, ?_⟩))
   go_meet
   case rel => exact ⟨_, (true), (by first | rfl | (simp; done) | (simp [*]; done)), H', ⟨by first | omega | exact Nat.le_refl _⟩, ⟨by (with_reducible repeat (first | refine b1_ ?_ _ | refine b2_ ?_ | refine b3_ ?_ _)); refine blk_far ?_ NB434_435.out _; (with_reducible repeat (first | refine b1_ ?_ _ | refine b2_ ?_ | refine b3_ ?_ _)); refine blk_far ?_ NB434_435.out _; (with_reducible repeat (first | refine b1_ ?_ _ | refine b2_ ?_ | refine b3_ ?_ _)); refine blk_far ?_ NB434_435.out _; (with_reducible repeat (first | refine b1_ ?_ _ | refine b2_ ?_ | refine b3_ ?_ _)); refine blk_far ?_ NB434_435.out _; (with_reducible repeat (first | refine b1_ ?_ _ | refine b2_ ?_ | refine b3_ ?_ _)); exact BK434.out⟩, ⟨by (with_reducible repeat (first | refine b1_ ?_ _ | refine b2_ ?_ | refine b3_ ?_ _)); refine blk_put (cs := #[.int .i64 4, .string (⟨#[]⟩ : ByteArray), .bool false, .slice none 0 0]) ?_ 3 _ rfl; (with_reducible repeat (first | refine b1_ ?_ _ | refine b2_ ?_ | refine b3_ ?_ _)); refine blk_put (cs := #[.int .i64 4, .string (⟨#[]⟩ : ByteArray), .bool false, .slice none 0 0]) ?_ 2 _ rfl; (with_reducible repeat (first | refine b1_ ?_ _ | refine b2_ ?_ | refine b3_ ?_ _)); refine blk_put (cs := #[.int .i64 4, .string (⟨#[]⟩ : ByteArray), .bool false, .slice none 0 0]) ?_ 1 _ rfl; (with_reducible repeat (first | refine b1_ ?_ _ | refine b2_ ?_ | refine b3_ ?_ _)); refine blk_put (cs := #[.int .i64 0, .string (⟨#[]⟩ : ByteArray), .bool false, .slice none 0 0]) ?_ 0 _ rfl; (with_reducible repeat (first | refine b1_ ?_ _ | refine b2_ ?_ | refine b3_ ?_ _)); exact BK435.out⟩, ⟨by repeat (with_reducible first | exact HB.out | apply l1_ | apply l2_ | apply l3_ | refine l4_ ?_ GE434.out | refine l4_ ?_ GE435.out)⟩⟩
  ·
   replace c9 := Bool.eq_false_iff.mpr c9
   subst c9
   rw [if_neg (show ¬ (false = true) by decide)] at H
   replace H := Option.bind_eq_some_iff.mp H
   obtain ⟨t437, A100, H⟩ := H
   try dsimp -simprocs only at H
   have A10 := m_ A100
   clear A100
   have H' := m_ H
   clear H
   go_wp2_with (first | ((with_reducible refine gate_callee (f := 39) rfl ?_); refine goesL_ (some 18) rfl rfl Try.func39 (by kernel_rfl) rfl #[.slice A0 l0.length c0, .int .i64 (wrap64 (a1 + 1)), .int .u8 33] rfl (by (try simp only [List.map_toArray, List.map_cons, List.map_nil]); first | done | rfl | (simp only [List.length_drop, List.length_take]; rfl)) ?_; (with_reducible refine (jobshellref04_is.calls _ _ l0 (wrap64 (a1 + 1)) 33 false _ ?side1 ?side2 A8.out).mono ?_); (case side1 => exact Kd.C_below HR0.out (by repeat (with_reducible first | exact HB.out | apply l1_ | apply l2_ | apply l3_ | refine l4_ ?_ GE434.out | refine l4_ ?_ GE435.out))); (case side2 => exact HC0.out); rintro e w' ⟨rfl, ⟨nd, rfl⟩⟩; refine ⟨_, rfl, ?_⟩) | (go_at_call 39; (with_reducible refine (jobshellref04_is.calls _ _ l0 (wrap64 (a1 + 1)) 94 t437 _ ?side1 ?side2 A10.out).mono ?_); (case side1 => exact Kd.C_below HR0.out (by repeat (with_reducible first | exact HB.out | apply l1_ | apply l2_ | apply l3_ | refine l4_ ?_ GE434.out | refine l4_ ?_ GE435.out))); (case side2 => exact HC0.out); rintro e w' ⟨rfl, ⟨nd, rfl⟩⟩))
   go_meet
   case rel => exact ⟨_, (t437), (by first | rfl | (simp; done) | (simp [*]; done)), H', ⟨by first | omega | exact Nat.le_refl _⟩, ⟨by (with_reducible repeat (first | refine b1_ ?_ _ | refine b2_ ?_ | refine b3_ ?_ _)); refine blk_far ?_ NB434_435.out _; (with_reducible repeat (first | refine b1_ ?_ _ | refine b2_ ?_ | refine b3_ ?_ _)); refine blk_far ?_ NB434_435.out _; (with_reducible repeat (first | refine b1_ ?_ _ | refine b2_ ?_ | refine b3_ ?_ _)); refine blk_far ?_ NB434_435.out _; (with_reducible repeat (first | refine b1_ ?_ _ | refine b2_ ?_ | refine b3_ ?_ _)); refine blk_far ?_ NB434_435.out _; (with_reducible repeat (first | refine b1_ ?_ _ | refine b2_ ?_ | refine b3_ ?_ _)); exact BK434.out⟩, ⟨by (with_reducible repeat (first | refine b1_ ?_ _ | refine b2_ ?_ | refine b3_ ?_ _)); refine blk_put (cs := #[.int .i64 4, .string (⟨#[]⟩ : ByteArray), .bool false, .slice none 0 0]) ?_ 3 _ rfl; (with_reducible repeat (first | refine b1_ ?_ _ | refine b2_ ?_ | refine b3_ ?_ _)); refine blk_put (cs := #[.int .i64 4, .string (⟨#[]⟩ : ByteArray), .bool false, .slice none 0 0]) ?_ 2 _ rfl; (with_reducible repeat (first | refine b1_ ?_ _ | refine b2_ ?_ | refine b3_ ?_ _)); refine blk_put (cs := #[.int .i64 4, .string (⟨#[]⟩ : ByteArray), .bool false, .slice none 0 0]) ?_ 1 _ rfl; (with_reducible repeat (first | refine b1_ ?_ _ | refine b2_ ?_ | refine b3_ ?_ _)); refine blk_put (cs := #[.int .i64 0, .string (⟨#[]⟩ : ByteArray), .bool false, .slice none 0 0]) ?_ 0 _ rfl; (with_reducible repeat (first | refine b1_ ?_ _ | refine b2_ ?_ | refine b3_ ?_ _)); exact BK435.out⟩, ⟨by repeat (with_reducible first | exact HB.out | apply l1_ | apply l2_ | apply l3_ | refine l4_ ?_ GE434.out | refine l4_ ?_ GE435.out)⟩⟩
 case rest =>
  clear HC3
  (try clear p2); (try clear c3); (try clear c4); (try clear c6); (try clear p6); (try clear c9); (try clear hcz7_0); (try clear hcz7_1); (try clear hcz7_2); (try clear hcz7_3); (try clear hfz7_0); (try clear hfz7_1); (try clear hfz7_2); (try clear hfz7_3)
  obtain ⟨kq, x23_2, rfl, HA, HJ2, BK434, BK435, HB⟩ := hcut
  cases kq with
  | zero => exact absurd HA.out (by simp [jobshellref04_bracket.j0])
  | succ kj2 =>
   have H := HA.out
   clear HA
   simp only [jobshellref04_bracket.j0] at H
   have HC11 := m_ H
   clear H
   go_upto_if 23 with (fail)
   go_cut [8] (fun v8 wc => ∃ (kq : Nat) (x8_10 : Int) (x436002_10 : Bool), v8 = .int .i64 x8_10 ∧ Aside0 (jobshellref04_bracket.j1 kq l0 x8_10 4 (⟨#[]⟩ : ByteArray) x436002_10 = some (r1, r2, r3, r4, r5, r6)) ∧ Aside0 (kq ≤ kj2) ∧ Aside0 (wc.heap[gb434]? = some (.cells #[.int .i64 0, .string (⟨#[]⟩ : ByteArray), .bool false, (.slice none 0 0)] 35 (0, 0))) ∧ Aside0 (wc.heap[gb435]? = some (.cells #[.int .i64 4, .string (⟨#[]⟩ : ByteArray), .bool x436002_10, (.slice none 0 0)] 35 (0, 0))) ∧ Aside0 (Below w.heap.size w wc))
   case first =>
    have H := HC11.out
    clear HC11
    by_cases c12 : x23_2 = true
    ·
     subst c12
     rw [if_pos rfl] at H
     have H' := m_ H
     clear H
     have hnb13 := NB435_434.out
     have hnc13 := NB434_435.out
     have hcz14_0 : wc.cell? ⟨gb435, 0, none⟩ = some (.int .i64 4) := (b5_ BK435.out 0).trans rfl
     have hcz14_1 : wc.cell? ⟨gb435, 1, none⟩ = some (.string (⟨#[]⟩ : ByteArray)) := (b5_ BK435.out 1).trans rfl
     have hcz14_2 : wc.cell? ⟨gb435, 2, none⟩ = some (.bool false) := (b5_ BK435.out 2).trans rfl
     have hcz14_3 : wc.cell? ⟨gb435, 3, none⟩ = some (.slice none 0 0) := (b5_ BK435.out 3).trans rfl
     have hfz14_0 := f1_ BK435.out 0
     have hfz14_1 := f1_ BK435.out 1
     have hfz14_2 := f1_ BK435.out 2
     have hfz14_3 := f1_ BK435.out 3
     go_wp2
     go_meet
     case rel => exact ⟨_, (wrap64 ((wrap64 (a1 + 1)) + 1)), (true), (by first | rfl | (simp; done) | (simp [*]; done)), H', ⟨by have := HJ2.out; first | omega | exact Nat.le_refl _⟩, ⟨by (with_reducible repeat (first | refine b1_ ?_ _ | refine b2_ ?_ | refine b3_ ?_ _)); refine blk_far ?_ NB434_435.out _; (with_reducible repeat (first | refine b1_ ?_ _ | refine b2_ ?_ | refine b3_ ?_ _)); exact BK434.out⟩, ⟨by (with_reducible repeat (first | refine b1_ ?_ _ | refine b2_ ?_ | refine b3_ ?_ _)); refine blk_put (cs := #[.int .i64 4, .string (⟨#[]⟩ : ByteArray), .bool false, .slice none 0 0]) ?_ 2 _ rfl; (with_reducible repeat (first | refine b1_ ?_ _ | refine b2_ ?_ | refine b3_ ?_ _)); exact BK435.out⟩, ⟨by repeat (with_reducible first | exact HB.out | apply l1_ | apply l2_ | apply l3_ | refine l4_ ?_ GE434.out | refine l4_ ?_ GE435.out)⟩⟩
    ·
     replace c12 := Bool.eq_false_iff.mpr c12
     subst c12
     rw [if_neg (show ¬ (false = true) by decide)] at H
     have H' := m_ H
     clear H
     go_wp2
     go_meet
     case rel => exact ⟨_, ((wrap64 (a1 + 1))), (false), (by first | rfl | (simp; done) | (simp [*]; done)), H', ⟨by have := HJ2.out; first | omega | exact Nat.le_refl _⟩, ⟨by (with_reducible repeat (first | refine b1_ ?_ _ | refine b2_ ?_ | refine b3_ ?_ _)); exact BK434.out⟩, ⟨by (with_reducible repeat (first | refine b1_ ?_ _ | refine b2_ ?_ | refine b3_ ?_ _)); exact BK435.out⟩, ⟨by repeat (with_reducible first | exact HB.out | apply l1_ | apply l2_ | apply l3_ | refine l4_ ?_ GE434.out | refine l4_ ?_ GE435.out)⟩⟩
   case rest =>
    clear HC11
    (try clear c1); (try clear p2); (try clear c3); (try clear c4); (try clear c6); (try clear p6); (try clear c9); (try clear c12); (try clear c13); (try clear hcz14_0); (try clear hcz14_1); (try clear hcz14_2); (try clear hcz14_3); (try clear hcz7_0); (try clear hcz7_1); (try clear hcz7_2); (try clear hcz7_3); (try clear hfz14_0); (try clear hfz14_1); (try clear hfz14_2); (try clear hfz14_3); (try clear hfz7_0); (try clear hfz7_1); (try clear hfz7_2); (try clear hfz7_3); (try clear p2); (try clear p6)
    obtain ⟨kq, x8_10, x436002_10, rfl, HA, HJ10, BK434, BK435, HB⟩ := hcut
    cases kq with
    | zero => exact absurd HA.out (by simp [jobshellref04_bracket.j1])
    | succ kj10 =>
     have H := HA.out
     clear HA
     simp only [jobshellref04_bracket.j1] at H
     have H' := m_ H
     clear H
     go_wp2
     go_loopg [8, 9, 10] kj10 (fun kq v8 v9 v10 w' => ∃ (x8_3 : Int) (x9_3 : List (S58)) (x10_3 : Bool), v8 = .int .i64 x8_3 ∧ v10 = .bool x10_3 ∧ Aside0 (jobshellref04_bracket.l0 kq l0 x8_3 x9_3 x10_3 4 (⟨#[]⟩ : ByteArray) x436002_10 = some (r1, r2, r3, r4, r5, r6)) ∧ Aside0 (kq ≤ kj10) ∧ Aside0 (Kd.R k58 58 w' w.heap.size (fun _ => True) v9 x9_3) ∧ Aside0 (w'.heap[gb434]? = some (.cells #[.int .i64 0, .string (⟨#[]⟩ : ByteArray), .bool false, (.slice none 0 0)] 35 (0, 0))) ∧ Aside0 (w'.heap[gb435]? = some (.cells #[.int .i64 4, .string (⟨#[]⟩ : ByteArray), .bool x436002_10, (.slice none 0 0)] 35 (0, 0))) ∧ Aside0 (Below w.heap.size w w'))
     case atStart => exact ⟨(x8_10), (([] : List (S58))), (true), (by first | rfl | (simp; done) | (simp [*]; done)), (by first | rfl | (simp; done) | (simp [*]; done)), H', ⟨Nat.le_refl _⟩, ⟨by first | exact Kd.R_nil _ _ _ _ _ | exact Kd.N_nil _ _ _ _ _ | exact Kd.V_nil _ _ _ _ _ | exact Kd.Q_nil _ _ _ _ _ | exact Kd.S_nil _ _ _ _ _⟩, ⟨by (with_reducible repeat (first | refine b1_ ?_ _ | refine b2_ ?_ | refine b3_ ?_ _)); exact BK434.out⟩, ⟨by (with_reducible repeat (first | refine b1_ ?_ _ | refine b2_ ?_ | refine b3_ ?_ _)); exact BK435.out⟩, ⟨by repeat (with_reducible first | exact HB.out | apply l1_ | apply l2_ | apply l3_ | refine l4_ ?_ GE434.out | refine l4_ ?_ GE435.out)⟩⟩
     case round =>
      clear H'
      (try clear c1); (try clear p2); (try clear c3); (try clear c4); (try clear c6); (try clear p6); (try clear c9); (try clear c12); (try clear c13); (try clear hcz14_0); (try clear hcz14_1); (try clear hcz14_2); (try clear hcz14_3); (try clear hcz7_0); (try clear hcz7_1); (try clear hcz7_2); (try clear hcz7_3); (try clear hfz14_0); (try clear hfz14_1); (try clear hfz14_2); (try clear hfz14_3); (try clear hfz7_0); (try clear hfz7_1); (try clear hfz7_2); (try clear hfz7_3); (try clear p2); (try clear p6)
      obtain ⟨x8_3, x9_3, x10_3, rfl, rfl, HA, HK3, HO_9, BK434, BK435, HB⟩ := hrel
      cases gk with
      | zero => exact absurd HA.out (by simp [jobshellref04_bracket.l0])
      | succ k3 =>
       have H := HA.out
       clear HA
       simp only [jobshellref04_bracket.l0] at H
       by_cases c15 : x8_3 < (l0.length : Int)
       ·
        rw [if_pos c15] at H
        have c15b0 : decide (x8_3 < (l0.length : Int)) = true := decide_eq_true c15
        clear c15
        by_cases c16 : x10_3 = true
        ·
         subst c16
         rw [if_pos rfl] at H
         replace H := Option.bind_eq_some_iff.mp H
         obtain ⟨⟨t438, t441⟩, A170, H⟩ := H
         try dsimp -simprocs only at H
         have A17 := m_ A170
         clear A170
         by_cases c18 : x9_3.length + t438.length < 70368744177664
         ·
          rw [if_pos c18] at H
          have LMc18 := m_ c18
          clear c18
          obtain ⟨y442, hy442⟩ : ∃ y_ : List (S58), y_ = (x9_3 ++ t438) := ⟨_, rfl⟩
          replace H : (jobshellref04_bracket.l0 k3 l0 t441 y442 false 4 (⟨#[]⟩ : ByteArray) x436002_10) = some (r1, r2, r3, r4, r5, r6) := by subst hy442; exact H
          have Ny442 := m_ hy442
          clear hy442
          have H' := m_ H
          clear H
          go_wp2_with (first | ((with_reducible refine gate_callee (f := 50) rfl ?_); refine goesL_ (some 43) rfl rfl Try.func50 (by kernel_rfl) rfl #[.slice A0 l0.length c0, .int .i64 x8_3] rfl (by (try simp only [List.map_toArray, List.map_cons, List.map_nil]); first | done | rfl | (simp only [List.length_drop, List.length_take]; rfl)) ?_; (with_reducible refine (jobshellref04_member.calls k3 _ _ l0 x8_3 t438 t441 _ ?side1 ?side2 A17.out).mono ?_); (case side1 => repeat (first | exact (Kd.C_below HR0.out HB.out) | (with_reducible refine Kd.C_alloc ?_ _) | (with_reducible refine Kd.C_drewN ?_ _) | (with_reducible refine Kd.C_drew ?_))); (case side2 => exact HC0.out); rintro e w19 ⟨v439, rfl, ho0, hb⟩; refine ⟨_, rfl, ?_⟩; have HO440 := m_ (Kd.V_lower (Kd.V_mono (ok' := fun k_ => some k_ ≠ (u9 : Value).ownBlock ∧ k_ ≠ gb434 ∧ k_ ≠ gb435) ho0 (fun k_ hk_ => ⟨(Kd.fresh' (Kd.R_lt (by (with_reducible repeat (first | apply r1_ | apply r2_ | apply r3_)); exact HO_9.out)) k_ hk_), (Kd.freshB (g := gb434) (o := .cells #[.int .i64 0, .string (⟨#[]⟩ : ByteArray), .bool false, .slice none 0 0] 35 (0, 0)) (by (with_reducible repeat (first | refine b1_ ?_ _ | refine b2_ ?_ | refine b3_ ?_ _)); exact BK434.out) k_ hk_), (Kd.freshB (g := gb435) (o := .cells #[.int .i64 4, .string (⟨#[]⟩ : ByteArray), .bool x436002_10, .slice none 0 0] 35 (0, 0)) (by (with_reducible repeat (first | refine b1_ ?_ _ | refine b2_ ?_ | refine b3_ ?_ _)); exact BK435.out) k_ hk_)⟩)) (l6_ (by repeat (with_reducible first | exact HB.out | apply l1_ | apply l2_ | apply l3_ | refine l4_ ?_ GE434.out | refine l4_ ?_ GE435.out)))); replace HO_9 := m_ (Kd.R_below (by (with_reducible repeat (first | apply r1_ | apply r2_ | apply r3_)); exact HO_9.out) hb); replace BK434 := m_ (b4_ (g := gb434) (o := .cells #[.int .i64 0, .string (⟨#[]⟩ : ByteArray), .bool false, .slice none 0 0] 35 (0, 0)) (by (with_reducible repeat (first | refine b1_ ?_ _ | refine b2_ ?_ | refine b3_ ?_ _)); exact BK434.out) hb); replace BK435 := m_ (b4_ (g := gb435) (o := .cells #[.int .i64 4, .string (⟨#[]⟩ : ByteArray), .bool x436002_10, .slice none 0 0] 35 (0, 0)) (by (with_reducible repeat (first | refine b1_ ?_ _ | refine b2_ ?_ | refine b3_ ?_ _)); exact BK435.out) hb); replace HB := m_ (l5_ (by repeat (with_reducible first | exact HB.out | apply l1_ | apply l2_ | apply l3_ | refine l4_ ?_ GE434.out | refine l4_ ?_ GE435.out)) hb); (try clear hb); (try clear ho0); obtain ⟨Ao21, co21, eo21⟩ := Kd.V_slice HO440.out; subst eo21) | ((with_reducible refine gate_builtin (b := .append) (xs := #[.tmp 46, .tmp 47]) rfl ?_); at_builtin; refine Kd.R_append_rows k58 (w0 := w) w.heap.size rfl (.tmp 46) (.tmp 47) 33 58 (.agg #[(.int .u8 0), (.int .u8 0)]) 2 rfl Try.underlying33 info58 rfl (by decide) (by omega) u9 x9_3 t438 _ _ _ (fun _ => True) (fun _ => False) rfl rfl ?aO ?aR (fun _ _ h => h) (fun _ h => h.elim) ?aF ?aB ?aS ?aL ?_; (case aR => repeat (first | exact (Kd.V_reads' HO440.out).2.2 | (with_reducible refine Kd.C_alloc ?_ _) | (with_reducible refine Kd.C_drewN ?_ _) | (with_reducible refine Kd.C_drew ?_))); (case aB => exact (by repeat (with_reducible first | exact HB.out | apply l1_ | apply l2_ | apply l3_ | refine l4_ ?_ GE434.out | refine l4_ ?_ GE435.out))); (case aF => exact (fun _ _ => trivial)); (case aO => exact (by (with_reducible repeat (first | apply r1_ | apply r2_ | apply r3_)); exact HO_9.out)); (case aS => exact (l6_ (by repeat (with_reducible first | exact HB.out | apply l1_ | apply l2_ | apply l3_ | refine l4_ ?_ GE434.out | refine l4_ ?_ GE435.out)))); (case aL => have := LMc18.out; omega); intro v443 w20 ho hb hg hat; rw [← Ny442.out] at ho; replace BK434 := m_ (blk_grown (g := gb434) (o := .cells #[.int .i64 0, .string (⟨#[]⟩ : ByteArray), .bool false, .slice none 0 0] 35 (0, 0)) (by (with_reducible repeat (first | refine b1_ ?_ _ | refine b2_ ?_ | refine b3_ ?_ _)); exact BK434.out) hg (Kd.R_ne HO_9.out BK434.out (by decide))); replace BK435 := m_ (blk_grown (g := gb435) (o := .cells #[.int .i64 4, .string (⟨#[]⟩ : ByteArray), .bool x436002_10, .slice none 0 0] 35 (0, 0)) (by (with_reducible repeat (first | refine b1_ ?_ _ | refine b2_ ?_ | refine b3_ ?_ _)); exact BK435.out) hg (Kd.R_ne HO_9.out BK435.out (by decide))); replace HO440 := m_ (Kd.V_afterv (ok := (fun k_ => k_ ≠ gb434 ∧ k_ ≠ gb435)) (by (with_reducible repeat (first | apply Kd.V_alloc | apply Kd.V_drewN | apply Kd.V_drew)); exact Kd.V_mono HO440.out (fun _ hk => (And.intro ((And.intro (hk.2.1) (hk.2.2))) (hk.1)))) hg hat); replace HB := m_ (hb); have HO444 := m_ (ho); clear HO_9; clear ho hb hg hat))
          go_roundg k3
          case measure => have := HJ2.out; have := HJ10.out; have := HK3.out; omega
          case rel => exact ⟨(t441), (y442), (false), (by first | rfl | (simp; done) | (simp [*]; done)), (by first | rfl | (simp; done) | (simp [*]; done)), H', ⟨by have := HJ2.out; have := HJ10.out; have := HK3.out; omega⟩, ⟨by (with_reducible repeat (first | apply r1_ | apply r2_ | apply r3_)); exact HO444.out⟩, ⟨by (with_reducible repeat (first | refine b1_ ?_ _ | refine b2_ ?_ | refine b3_ ?_ _)); exact BK434.out⟩, ⟨by (with_reducible repeat (first | refine b1_ ?_ _ | refine b2_ ?_ | refine b3_ ?_ _)); exact BK435.out⟩, ⟨by repeat (with_reducible first | exact HB.out | apply l1_ | apply l2_ | apply l3_ | refine l4_ ?_ GE434.out | refine l4_ ?_ GE435.out)⟩⟩
         rw [if_neg c18] at H
         exact absurd H (by simp)
        ·
         replace c16 := Bool.eq_false_iff.mpr c16
         subst c16
         rw [if_neg (show ¬ (false = true) by decide)] at H
         replace H := Option.bind_eq_some_iff.mp H
         obtain ⟨t445, A220, H⟩ := H
         try dsimp -simprocs only at H
         have A22 := m_ A220
         clear A220
         by_cases c23 : t445 = true
         ·
          subst c23
          rw [if_pos rfl] at H
          by_cases c24 : x8_3 ≥ (l0.length : Int)
          ·
           rw [if_pos c24] at H
           have c24b0 : decide ((l0.length : Int) ≤ x8_3) = true := decide_eq_true c24
           clear c24
           simp only [Option.some.injEq, Prod.mk.injEq] at H
           obtain ⟨rfl, rfl, rfl, rfl, rfl, rfl⟩ := H
           go_wp2_with (first | (go_at_call 39; (with_reducible refine (jobshellref04_is.calls _ _ l0 x8_3 93 true _ ?side1 ?side2 A22.out).mono ?_); (case side1 => repeat (first | exact (Kd.C_below HR0.out HB.out) | (with_reducible refine Kd.C_alloc ?_ _) | (with_reducible refine Kd.C_drewN ?_ _) | (with_reducible refine Kd.C_drew ?_))); (case side2 => exact HC0.out); rintro e w' ⟨rfl, ⟨nd, rfl⟩⟩; (try (rw [drewN_self wr]; generalize hq_ : World.drewN wr _ = wr; have n0_ : Aside0 (Kd.R k58 58 wr w.heap.size (fun _ => True) u9 x9_3) := ⟨by rw [← hq_]; exact (by (with_reducible repeat (first | apply r1_ | apply r2_ | apply r3_)); exact HO_9.out)⟩; have n1_ : Aside0 (wr.heap[gb434]? = some (.cells #[.int .i64 0, .string (⟨#[]⟩ : ByteArray), .bool false, .slice none 0 0] 35 (0, 0))) := ⟨by rw [← hq_]; exact (by (with_reducible repeat (first | refine b1_ ?_ _ | refine b2_ ?_ | refine b3_ ?_ _)); exact BK434.out)⟩; have n2_ : Aside0 (wr.heap[gb435]? = some (.cells #[.int .i64 4, .string (⟨#[]⟩ : ByteArray), .bool x436002_10, .slice none 0 0] 35 (0, 0))) := ⟨by rw [← hq_]; exact (by (with_reducible repeat (first | refine b1_ ?_ _ | refine b2_ ?_ | refine b3_ ?_ _)); exact BK435.out)⟩; have n3_ : Aside0 (Below w.heap.size w wr) := ⟨by rw [← hq_]; exact (by repeat (with_reducible first | exact HB.out | apply l1_ | apply l2_ | apply l3_ | refine l4_ ?_ GE434.out | refine l4_ ?_ GE435.out))⟩; clear HO_9 BK434 BK435 HB hq_; have HO_9 := n0_; have BK434 := n1_; have BK435 := n2_; have HB := n3_; clear n0_ n1_ n2_ n3_)); have hnb25 := NB434_435.out; have hnc25 := NB435_434.out; have hcz26_0 : wr.cell? ⟨gb434, 0, none⟩ = some (.int .i64 0) := (b5_ BK434.out 0).trans rfl; have hcz26_1 : wr.cell? ⟨gb434, 1, none⟩ = some (.string (⟨#[]⟩ : ByteArray)) := (b5_ BK434.out 1).trans rfl; have hcz26_2 : wr.cell? ⟨gb434, 2, none⟩ = some (.bool false) := (b5_ BK434.out 2).trans rfl; have hcz26_3 : wr.cell? ⟨gb434, 3, none⟩ = some (.slice none 0 0) := (b5_ BK434.out 3).trans rfl; have hfz26_0 := f1_ BK434.out 0; have hfz26_1 := f1_ BK434.out 1; have hfz26_2 := f1_ BK434.out 2; have hfz26_3 := f1_ BK434.out 3))
           refine bodyPost_ret (results_ctt rfl _ _ gb434 35 #[.int .i64 0, .string (⟨#[]⟩ : ByteArray), .bool false, .slice none 0 0] (0, 0) _ rfl (by (with_reducible repeat (first | refine b1_ ?_ _ | refine b2_ ?_ | refine b3_ ?_ _)); refine blk_put (cs := #[.int .i64 0, .string (⟨#[]⟩ : ByteArray), .bool false, .slice none 0 0]) ?_ 3 _ rfl; (with_reducible repeat (first | refine b1_ ?_ _ | refine b2_ ?_ | refine b3_ ?_ _)); refine blk_put (cs := #[.int .i64 0, .string (⟨#[]⟩ : ByteArray), .bool false, .slice none 0 0]) ?_ 2 _ rfl; (with_reducible repeat (first | refine b1_ ?_ _ | refine b2_ ?_ | refine b3_ ?_ _)); refine blk_put (cs := #[.int .i64 0, .string (⟨#[]⟩ : ByteArray), .bool false, .slice none 0 0]) ?_ 1 _ rfl; (with_reducible repeat (first | refine b1_ ?_ _ | refine b2_ ?_ | refine b3_ ?_ _)); refine blk_put (cs := #[.int .i64 0, .string (⟨#[]⟩ : ByteArray), .bool false, .slice none 0 0]) ?_ 0 _ rfl; (with_reducible repeat (first | refine b1_ ?_ _ | refine b2_ ?_ | refine b3_ ?_ _)); exact BK434.out) Try.underlying35 rfl (by kernel_rfl)) rfl ?_
           exact ⟨_, by first | rfl | (simp [errW_none, errW_some] <;> rfl) | (simp [*, errW_none, errW_some] <;> rfl), by first | exact Kd.R_nil _ _ _ _ _ | exact Kd.N_nil _ _ _ _ _ | exact Kd.V_nil _ _ _ _ _ | exact Kd.Q_nil _ _ _ _ _ | exact Kd.S_nil _ _ _ _ _, by repeat (with_reducible first | exact HB.out | apply l1_ | apply l2_ | apply l3_ | refine l4_ ?_ GE434.out | refine l4_ ?_ GE435.out)⟩
          rw [if_neg c24] at H
          have c24b0 : decide ((l0.length : Int) ≤ x8_3) = false := decide_eq_false c24
          clear c24
          replace H := Option.bind_eq_some_iff.mp H
          obtain ⟨t446, A270, H⟩ := H
          try dsimp -simprocs only at H
          have A27 := m_ A270
          clear A270
          simp only [Option.some.injEq, Prod.mk.injEq] at H
          obtain ⟨rfl, rfl, rfl, rfl, rfl, rfl⟩ := H
          go_wp2_with (first | (go_at_call 39; (with_reducible refine (jobshellref04_is.calls _ _ l0 x8_3 93 true _ ?side1 ?side2 A22.out).mono ?_); (case side1 => repeat (first | exact (Kd.C_below HR0.out HB.out) | (with_reducible refine Kd.C_alloc ?_ _) | (with_reducible refine Kd.C_drewN ?_ _) | (with_reducible refine Kd.C_drew ?_))); (case side2 => exact HC0.out); rintro e w' ⟨rfl, ⟨nd, rfl⟩⟩; (try (rw [drewN_self wr]; generalize hq_ : World.drewN wr _ = wr; have n0_ : Aside0 (Kd.R k58 58 wr w.heap.size (fun _ => True) u9 x9_3) := ⟨by rw [← hq_]; exact (by (with_reducible repeat (first | apply r1_ | apply r2_ | apply r3_)); exact HO_9.out)⟩; have n1_ : Aside0 (wr.heap[gb434]? = some (.cells #[.int .i64 0, .string (⟨#[]⟩ : ByteArray), .bool false, .slice none 0 0] 35 (0, 0))) := ⟨by rw [← hq_]; exact (by (with_reducible repeat (first | refine b1_ ?_ _ | refine b2_ ?_ | refine b3_ ?_ _)); exact BK434.out)⟩; have n2_ : Aside0 (wr.heap[gb435]? = some (.cells #[.int .i64 4, .string (⟨#[]⟩ : ByteArray), .bool x436002_10, .slice none 0 0] 35 (0, 0))) := ⟨by rw [← hq_]; exact (by (with_reducible repeat (first | refine b1_ ?_ _ | refine b2_ ?_ | refine b3_ ?_ _)); exact BK435.out)⟩; have n3_ : Aside0 (Below w.heap.size w wr) := ⟨by rw [← hq_]; exact (by repeat (with_reducible first | exact HB.out | apply l1_ | apply l2_ | apply l3_ | refine l4_ ?_ GE434.out | refine l4_ ?_ GE435.out))⟩; clear HO_9 BK434 BK435 HB hq_; have HO_9 := n0_; have BK434 := n1_; have BK435 := n2_; have HB := n3_; clear n0_ n1_ n2_ n3_)); obtain ⟨Ao28, co28, eo28⟩ := Kd.R_slice HO_9.out; subst eo28) | ((with_reducible refine gate_callee (f := 51) rfl ?_); refine goesL_ (some 56) rfl rfl Try.func51 (by kernel_rfl) rfl #[.slice Ao28 x9_3.length co28] rfl (by (try simp only [List.map_toArray, List.map_cons, List.map_nil]); first | done | rfl | (simp only [List.length_drop, List.length_take]; rfl)) ?_; (with_reducible refine (jobshellref04_set.calls k3 _ _ x9_3 t446 _ ?side1 ?side2 A27.out).mono ?_); (case side1 => repeat (first | exact (Kd.R_reads' HO_9.out).2.2 | (with_reducible refine Kd.C_alloc ?_ _) | (with_reducible refine Kd.C_drewN ?_ _) | (with_reducible refine Kd.C_drew ?_))); (case side2 => exact (Kd.R_reads' HO_9.out).2.1); rintro e w29 ⟨v447, rfl, ho0, hb⟩; refine ⟨_, rfl, ?_⟩; have HO448 := m_ (Kd.R_lower (Kd.R_new' ho0 (Kd.R_lt (by (with_reducible repeat (first | apply r1_ | apply r2_ | apply r3_)); exact HO_9.out))) (l6_ (by repeat (with_reducible first | exact HB.out | apply l1_ | apply l2_ | apply l3_ | refine l4_ ?_ GE434.out | refine l4_ ?_ GE435.out)))); replace HO_9 := m_ (Kd.R_elder' (by (with_reducible repeat (first | apply r1_ | apply r2_ | apply r3_)); exact HO_9.out) (Kd.R_base ho0) hb); replace BK434 := m_ (b4_ (g := gb434) (o := .cells #[.int .i64 0, .string (⟨#[]⟩ : ByteArray), .bool false, .slice none 0 0] 35 (0, 0)) (by (with_reducible repeat (first | refine b1_ ?_ _ | refine b2_ ?_ | refine b3_ ?_ _)); exact BK434.out) hb); replace BK435 := m_ (b4_ (g := gb435) (o := .cells #[.int .i64 4, .string (⟨#[]⟩ : ByteArray), .bool x436002_10, .slice none 0 0] 35 (0, 0)) (by (with_reducible repeat (first | refine b1_ ?_ _ | refine b2_ ?_ | refine b3_ ?_ _)); exact BK435.out) hb); replace HB := m_ (l5_ (by repeat (with_reducible first | exact HB.out | apply l1_ | apply l2_ | apply l3_ | refine l4_ ?_ GE434.out | refine l4_ ?_ GE435.out)) hb); (try clear hb); (try clear ho0); obtain ⟨Ao30, co30, eo30⟩ := Kd.R_slice HO448.out; subst eo30; have hnb31 := NB435_434.out; have hnc31 := NB434_435.out; have hcz32_0 : w29.cell? ⟨gb435, 0, none⟩ = some (.int .i64 4) := (b5_ BK435.out 0).trans rfl; have hcz32_1 : w29.cell? ⟨gb435, 1, none⟩ = some (.string (⟨#[]⟩ : ByteArray)) := (b5_ BK435.out 1).trans rfl; have hcz32_2 : w29.cell? ⟨gb435, 2, none⟩ = some (.bool x436002_10) := (b5_ BK435.out 2).trans rfl; have hcz32_3 : w29.cell? ⟨gb435, 3, none⟩ = some (.slice none 0 0) := (b5_ BK435.out 3).trans rfl; have hfz32_0 := f1_ BK435.out 0; have hfz32_1 := f1_ BK435.out 1; have hfz32_2 := f1_ BK435.out 2; have hfz32_3 := f1_ BK435.out 3; have hcz33_0 : w29.cell? ⟨gb434, 0, none⟩ = some (.int .i64 0) := (b5_ BK434.out 0).trans rfl; have hcz33_1 : w29.cell? ⟨gb434, 1, none⟩ = some (.string (⟨#[]⟩ : ByteArray)) := (b5_ BK434.out 1).trans rfl; have hcz33_2 : w29.cell? ⟨gb434, 2, none⟩ = some (.bool false) := (b5_ BK434.out 2).trans rfl; have hcz33_3 : w29.cell? ⟨gb434, 3, none⟩ = some (.slice none 0 0) := (b5_ BK434.out 3).trans rfl; have hfz33_0 := f1_ BK434.out 0; have hfz33_1 := f1_ BK434.out 1; have hfz33_2 := f1_ BK434.out 2; have hfz33_3 := f1_ BK434.out 3))
          refine bodyPost_ret (results_ctt rfl _ _ gb434 35 #[.int .i64 4, .string (⟨#[]⟩ : ByteArray), .bool x436002_10, .slice Ao30 t446.length co30] (0, 0) _ rfl (by (with_reducible repeat (first | refine b1_ ?_ _ | refine b2_ ?_ | refine b3_ ?_ _)); refine blk_put (cs := #[.int .i64 4, .string (⟨#[]⟩ : ByteArray), .bool x436002_10, .slice none 0 0]) ?_ 3 _ rfl; (with_reducible repeat (first | refine b1_ ?_ _ | refine b2_ ?_ | refine b3_ ?_ _)); refine blk_put (cs := #[.int .i64 4, .string (⟨#[]⟩ : ByteArray), .bool false, .slice none 0 0]) ?_ 2 _ rfl; (with_reducible repeat (first | refine b1_ ?_ _ | refine b2_ ?_ | refine b3_ ?_ _)); refine blk_put (cs := #[.int .i64 4, .string (⟨#[]⟩ : ByteArray), .bool false, .slice none 0 0]) ?_ 1 _ rfl; (with_reducible repeat (first | refine b1_ ?_ _ | refine b2_ ?_ | refine b3_ ?_ _)); refine blk_put (cs := #[.int .i64 0, .string (⟨#[]⟩ : ByteArray), .bool false, .slice none 0 0]) ?_ 0 _ rfl; (with_reducible repeat (first | refine b1_ ?_ _ | refine b2_ ?_ | refine b3_ ?_ _)); refine blk_far ?_ NB434_435.out _; (with_reducible repeat (first | refine b1_ ?_ _ | refine b2_ ?_ | refine b3_ ?_ _)); exact BK434.out) Try.underlying35 rfl (by kernel_rfl)) rfl ?_
          exact ⟨_, by first | rfl | (simp [errW_none, errW_some] <;> rfl) | (simp [*, errW_none, errW_some] <;> rfl), by (with_reducible repeat (first | apply r1_ | apply r2_ | apply r3_)); exact Kd.R_mono (Kd.R_far (p := ⟨gb434, 3, none⟩) (Kd.R_far (p := ⟨gb434, 2, none⟩) (Kd.R_far (p := ⟨gb434, 1, none⟩) (Kd.R_far (p := ⟨gb434, 0, none⟩) (Kd.R_far (p := ⟨gb435, 3, none⟩) (Kd.R_types (Kd.R_types HO448.out BK435.out (by decide)) BK434.out (by decide)) (fun _ hk => hk.1.2) (.slice Ao30 t446.length co30)) (fun _ hk => hk.2) (.int .i64 4)) (fun _ hk => hk.2) (.string (⟨#[]⟩ : ByteArray))) (fun _ hk => hk.2) (.bool x436002_10)) (fun _ hk => hk.2) (.slice Ao30 t446.length co30)) (fun _ hk => trivial), by repeat (with_reducible first | exact HB.out | apply l1_ | apply l2_ | apply l3_ | refine l4_ ?_ GE434.out | refine l4_ ?_ GE435.out)⟩
         ·
          replace c23 := Bool.eq_false_iff.mpr c23
          subst c23
          rw [if_neg (show ¬ (false = true) by decide)] at H
          replace H := Option.bind_eq_some_iff.mp H
          obtain ⟨⟨t449, t452⟩, A340, H⟩ := H
          try dsimp -simprocs only at H
          have A34 := m_ A340
          clear A340
          by_cases c35 : x9_3.length + t449.length < 70368744177664
          ·
           rw [if_pos c35] at H
           have LMc35 := m_ c35
           clear c35
           obtain ⟨y453, hy453⟩ : ∃ y_ : List (S58), y_ = (x9_3 ++ t449) := ⟨_, rfl⟩
           replace H : (jobshellref04_bracket.l0 k3 l0 t452 y453 false 4 (⟨#[]⟩ : ByteArray) x436002_10) = some (r1, r2, r3, r4, r5, r6) := by subst hy453; exact H
           have Ny453 := m_ hy453
           clear hy453
           have H' := m_ H
           clear H
           go_wp2_with (first | (go_at_call 39; (with_reducible refine (jobshellref04_is.calls _ _ l0 x8_3 93 false _ ?side1 ?side2 A22.out).mono ?_); (case side1 => repeat (first | exact (Kd.C_below HR0.out HB.out) | (with_reducible refine Kd.C_alloc ?_ _) | (with_reducible refine Kd.C_drewN ?_ _) | (with_reducible refine Kd.C_drew ?_))); (case side2 => exact HC0.out); rintro e w' ⟨rfl, ⟨nd, rfl⟩⟩) | ((with_reducible refine gate_callee (f := 50) rfl ?_); refine goesL_ (some 43) rfl rfl Try.func50 (by kernel_rfl) rfl #[.slice A0 l0.length c0, .int .i64 x8_3] rfl (by (try simp only [List.map_toArray, List.map_cons, List.map_nil]); first | done | rfl | (simp only [List.length_drop, List.length_take]; rfl)) ?_; (with_reducible refine (jobshellref04_member.calls k3 _ _ l0 x8_3 t449 t452 _ ?side1 ?side2 A34.out).mono ?_); (case side1 => repeat (first | exact (Kd.C_below HR0.out (by repeat (with_reducible first | exact HB.out | apply l1_ | apply l2_ | apply l3_ | refine l4_ ?_ GE434.out | refine l4_ ?_ GE435.out))) | (with_reducible refine Kd.C_alloc ?_ _) | (with_reducible refine Kd.C_drewN ?_ _) | (with_reducible refine Kd.C_drew ?_))); (case side2 => exact HC0.out); rintro e w36 ⟨v450, rfl, ho0, hb⟩; refine ⟨_, rfl, ?_⟩; have HO451 := m_ (Kd.V_lower (Kd.V_mono (ok' := fun k_ => some k_ ≠ (u9 : Value).ownBlock ∧ k_ ≠ gb434 ∧ k_ ≠ gb435) ho0 (fun k_ hk_ => ⟨(Kd.fresh' (Kd.R_lt (by (with_reducible repeat (first | apply r1_ | apply r2_ | apply r3_)); exact HO_9.out)) k_ hk_), (Kd.freshB (g := gb434) (o := .cells #[.int .i64 0, .string (⟨#[]⟩ : ByteArray), .bool false, .slice none 0 0] 35 (0, 0)) (by (with_reducible repeat (first | refine b1_ ?_ _ | refine b2_ ?_ | refine b3_ ?_ _)); exact BK434.out) k_ hk_), (Kd.freshB (g := gb435) (o := .cells #[.int .i64 4, .string (⟨#[]⟩ : ByteArray), .bool x436002_10, .slice none 0 0] 35 (0, 0)) (by (with_reducible repeat (first | refine b1_ ?_ _ | refine b2_ ?_ | refine b3_ ?_ _)); exact BK435.out) k_ hk_)⟩)) (l6_ (by repeat (with_reducible first | exact HB.out | apply l1_ | apply l2_ | apply l3_ | refine l4_ ?_ GE434.out | refine l4_ ?_ GE435.out)))); replace HO_9 := m_ (Kd.R_below (by (with_reducible repeat (first | apply r1_ | apply r2_ | apply r3_)); exact HO_9.out) hb); replace BK434 := m_ (b4_ (g := gb434) (o := .cells #[.int .i64 0, .string (⟨#[]⟩ : ByteArray), .bool false, .slice none 0 0] 35 (0, 0)) (by (with_reducible repeat (first | refine b1_ ?_ _ | refine b2_ ?_ | refine b3_ ?_ _)); exact BK434.out) hb); replace BK435 := m_ (b4_ (g := gb435) (o := .cells #[.int .i64 4, .string (⟨#[]⟩ : ByteArray), .bool x436002_10, .slice none 0 0] 35 (0, 0)) (by (with_reducible repeat (first | refine b1_ ?_ _ | refine b2_ ?_ | refine b3_ ?_ _)); exact BK435.out) hb); replace HB := m_ (l5_ (by repeat (with_reducible first | exact HB.out | apply l1_ | apply l2_ | apply l3_ | refine l4_ ?_ GE434.out | refine l4_ ?_ GE435.out)) hb); (try clear hb); (try clear ho0); obtain ⟨Ao38, co38, eo38⟩ := Kd.V_slice HO451.out; subst eo38) | ((with_reducible refine gate_builtin (b := .append) (xs := #[.tmp 46, .tmp 47]) rfl ?_); at_builtin; refine Kd.R_append_rows k58 (w0 := w) w.heap.size rfl (.tmp 46) (.tmp 47) 33 58 (.agg #[(.int .u8 0), (.int .u8 0)]) 2 rfl Try.underlying33 info58 rfl (by decide) (by omega) u9 x9_3 t449 _ _ _ (fun _ => True) (fun _ => False) rfl rfl ?aO ?aR (fun _ _ h => h) (fun _ h => h.elim) ?aF ?aB ?aS ?aL ?_; (case aR => repeat (first | exact (Kd.V_reads' HO451.out).2.2 | (with_reducible refine Kd.C_alloc ?_ _) | (with_reducible refine Kd.C_drewN ?_ _) | (with_reducible refine Kd.C_drew ?_))); (case aB => exact (by repeat (with_reducible first | exact HB.out | apply l1_ | apply l2_ | apply l3_ | refine l4_ ?_ GE434.out | refine l4_ ?_ GE435.out))); (case aF => exact (fun _ _ => trivial)); (case aO => exact (by (with_reducible repeat (first | apply r1_ | apply r2_ | apply r3_)); exact HO_9.out)); (case aS => exact (l6_ (by repeat (with_reducible first | exact HB.out | apply l1_ | apply l2_ | apply l3_ | refine l4_ ?_ GE434.out | refine l4_ ?_ GE435.out)))); (case aL => have := LMc35.out; omega); intro v454 w37 ho hb hg hat; rw [← Ny453.out] at ho; replace BK434 := m_ (blk_grown (g := gb434) (o := .cells #[.int .i64 0, .string (⟨#[]⟩ : ByteArray), .bool false, .slice none 0 0] 35 (0, 0)) (by (with_reducible repeat (first | refine b1_ ?_ _ | refine b2_ ?_ | refine b3_ ?_ _)); exact BK434.out) hg (Kd.R_ne HO_9.out BK434.out (by decide))); replace BK435 := m_ (blk_grown (g := gb435) (o := .cells #[.int .i64 4, .string (⟨#[]⟩ : ByteArray), .bool x436002_10, .slice none 0 0] 35 (0, 0)) (by (with_reducible repeat (first | refine b1_ ?_ _ | refine b2_ ?_ | refine b3_ ?_ _)); exact BK435.out) hg (Kd.R_ne HO_9.out BK435.out (by decide))); replace HO451 := m_ (Kd.V_afterv (ok := (fun k_ => k_ ≠ gb434 ∧ k_ ≠ gb435)) (by (with_reducible repeat (first | apply Kd.V_alloc | apply Kd.V_drewN | apply Kd.V_drew)); exact Kd.V_mono HO451.out (fun _ hk => (And.intro ((And.intro (hk.2.1) (hk.2.2))) (hk.1)))) hg hat); replace HB := m_ (hb); have HO455 := m_ (ho); clear HO_9; clear ho hb hg hat))
           go_roundg k3
           case measure => have := HJ2.out; have := HJ10.out; have := HK3.out; omega
           case rel => exact ⟨(t452), (y453), (false), (by first | rfl | (simp; done) | (simp [*]; done)), (by first | rfl | (simp; done) | (simp [*]; done)), H', ⟨by have := HJ2.out; have := HJ10.out; have := HK3.out; omega⟩, ⟨by (with_reducible repeat (first | apply r1_ | apply r2_ | apply r3_)); exact HO455.out⟩, ⟨by (with_reducible repeat (first | refine b1_ ?_ _ | refine b2_ ?_ | refine b3_ ?_ _)); exact BK434.out⟩, ⟨by (with_reducible repeat (first | refine b1_ ?_ _ | refine b2_ ?_ | refine b3_ ?_ _)); exact BK435.out⟩, ⟨by repeat (with_reducible first | exact HB.out | apply l1_ | apply l2_ | apply l3_ | refine l4_ ?_ GE434.out | refine l4_ ?_ GE435.out)⟩⟩
          rw [if_neg c35] at H
          exact absurd H (by simp)
       rw [if_neg c15] at H
       have c15b0 : decide (x8_3 < (l0.length : Int)) = false := decide_eq_false c15
       clear c15
       by_cases c39 : x8_3 ≥ (l0.length : Int)
       ·
        rw [if_pos c39] at H
        have c39b0 : decide ((l0.length : Int) ≤ x8_3) = true := decide_eq_true c39
        clear c39
        simp only [Option.some.injEq, Prod.mk.injEq] at H
        obtain ⟨rfl, rfl, rfl, rfl, rfl, rfl⟩ := H
        have hnb40 := NB434_435.out
        have hnc40 := NB435_434.out
        have hcz41_0 : wr.cell? ⟨gb434, 0, none⟩ = some (.int .i64 0) := (b5_ BK434.out 0).trans rfl
        have hcz41_1 : wr.cell? ⟨gb434, 1, none⟩ = some (.string (⟨#[]⟩ : ByteArray)) := (b5_ BK434.out 1).trans rfl
        have hcz41_2 : wr.cell? ⟨gb434, 2, none⟩ = some (.bool false) := (b5_ BK434.out 2).trans rfl
        have hcz41_3 : wr.cell? ⟨gb434, 3, none⟩ = some (.slice none 0 0) := (b5_ BK434.out 3).trans rfl
        have hfz41_0 := f1_ BK434.out 0
        have hfz41_1 := f1_ BK434.out 1
        have hfz41_2 := f1_ BK434.out 2
        have hfz41_3 := f1_ BK434.out 3
        go_wp2
        refine bodyPost_ret (results_ctt rfl _ _ gb434 35 #[.int .i64 0, .string (⟨#[]⟩ : ByteArray), .bool false, .slice none 0 0] (0, 0) _ rfl (by (with_reducible repeat (first | refine b1_ ?_ _ | refine b2_ ?_ | refine b3_ ?_ _)); refine blk_put (cs := #[.int .i64 0, .string (⟨#[]⟩ : ByteArray), .bool false, .slice none 0 0]) ?_ 3 _ rfl; (with_reducible repeat (first | refine b1_ ?_ _ | refine b2_ ?_ | refine b3_ ?_ _)); refine blk_put (cs := #[.int .i64 0, .string (⟨#[]⟩ : ByteArray), .bool false, .slice none 0 0]) ?_ 2 _ rfl; (with_reducible repeat (first | refine b1_ ?_ _ | refine b2_ ?_ | refine b3_ ?_ _)); refine blk_put (cs := #[.int .i64 0, .string (⟨#[]⟩ : ByteArray), .bool false, .slice none 0 0]) ?_ 1 _ rfl; (with_reducible repeat (first | refine b1_ ?_ _ | refine b2_ ?_ | refine b3_ ?_ _)); refine blk_put (cs := #[.int .i64 0, .string (⟨#[]⟩ : ByteArray), .bool false, .slice none 0 0]) ?_ 0 _ rfl; (with_reducible repeat (first | refine b1_ ?_ _ | refine b2_ ?_ | refine b3_ ?_ _)); exact BK434.out) Try.underlying35 rfl (by kernel_rfl)) rfl ?_
        exact ⟨_, by first | rfl | (simp [errW_none, errW_some] <;> rfl) | (simp [*, errW_none, errW_some] <;> rfl), by first | exact Kd.R_nil _ _ _ _ _ | exact Kd.N_nil _ _ _ _ _ | exact Kd.V_nil _ _ _ _ _ | exact Kd.Q_nil _ _ _ _ _ | exact Kd.S_nil _ _ _ _ _, by repeat (with_reducible first | exact HB.out | apply l1_ | apply l2_ | apply l3_ | refine l4_ ?_ GE434.out | refine l4_ ?_ GE435.out)⟩
       rw [if_neg c39] at H
       have c39b0 : decide ((l0.length : Int) ≤ x8_3) = false := decide_eq_false c39
       clear c39
       replace H := Option.bind_eq_some_iff.mp H
       obtain ⟨t456, A420, H⟩ := H
       try dsimp -simprocs only at H
       have A42 := m_ A420
       clear A420
       simp only [Option.some.injEq, Prod.mk.injEq] at H
       obtain ⟨rfl, rfl, rfl, rfl, rfl, rfl⟩ := H
       obtain ⟨Ao43, co43, eo43⟩ := Kd.R_slice HO_9.out
       subst eo43
       go_wp2_with (first | ((with_reducible refine gate_callee (f := 51) rfl ?_); refine goesL_ (some 56) rfl rfl Try.func51 (by kernel_rfl) rfl #[.slice Ao43 x9_3.length co43] rfl (by (try simp only [List.map_toArray, List.map_cons, List.map_nil]); first | done | rfl | (simp only [List.length_drop, List.length_take]; rfl)) ?_; (with_reducible refine (jobshellref04_set.calls k3 _ _ x9_3 t456 _ ?side1 ?side2 A42.out).mono ?_); (case side1 => repeat (first | exact (Kd.R_reads' HO_9.out).2.2 | (with_reducible refine Kd.C_alloc ?_ _) | (with_reducible refine Kd.C_drewN ?_ _) | (with_reducible refine Kd.C_drew ?_))); (case side2 => exact (Kd.R_reads' HO_9.out).2.1); rintro e w44 ⟨v457, rfl, ho0, hb⟩; refine ⟨_, rfl, ?_⟩; have HO458 := m_ (Kd.R_lower (Kd.R_new' ho0 (Kd.R_lt (by (with_reducible repeat (first | apply r1_ | apply r2_ | apply r3_)); exact HO_9.out))) (l6_ (by repeat (with_reducible first | exact HB.out | apply l1_ | apply l2_ | apply l3_ | refine l4_ ?_ GE434.out | refine l4_ ?_ GE435.out)))); replace HO_9 := m_ (Kd.R_elder' (by (with_reducible repeat (first | apply r1_ | apply r2_ | apply r3_)); exact HO_9.out) (Kd.R_base ho0) hb); replace BK434 := m_ (b4_ (g := gb434) (o := .cells #[.int .i64 0, .string (⟨#[]⟩ : ByteArray), .bool false, .slice none 0 0] 35 (0, 0)) (by (with_reducible repeat (first | refine b1_ ?_ _ | refine b2_ ?_ | refine b3_ ?_ _)); exact BK434.out) hb); replace BK435 := m_ (b4_ (g := gb435) (o := .cells #[.int .i64 4, .string (⟨#[]⟩ : ByteArray), .bool x436002_10, .slice none 0 0] 35 (0, 0)) (by (with_reducible repeat (first | refine b1_ ?_ _ | refine b2_ ?_ | refine b3_ ?_ _)); exact BK435.out) hb); replace HB := m_ (l5_ (by repeat (with_reducible first | exact HB.out | apply l1_ | apply l2_ | apply l3_ | refine l4_ ?_ GE434.out | refine l4_ ?_ GE435.out)) hb); (try clear hb); (try clear ho0); obtain ⟨Ao45, co45, eo45⟩ := Kd.R_slice HO458.out; subst eo45; have hnb46 := NB435_434.out; have hnc46 := NB434_435.out; have hcz47_0 : w44.cell? ⟨gb435, 0, none⟩ = some (.int .i64 4) := (b5_ BK435.out 0).trans rfl; have hcz47_1 : w44.cell? ⟨gb435, 1, none⟩ = some (.string (⟨#[]⟩ : ByteArray)) := (b5_ BK435.out 1).trans rfl; have hcz47_2 : w44.cell? ⟨gb435, 2, none⟩ = some (.bool x436002_10) := (b5_ BK435.out 2).trans rfl; have hcz47_3 : w44.cell? ⟨gb435, 3, none⟩ = some (.slice none 0 0) := (b5_ BK435.out 3).trans rfl; have hfz47_0 := f1_ BK435.out 0; have hfz47_1 := f1_ BK435.out 1; have hfz47_2 := f1_ BK435.out 2; have hfz47_3 := f1_ BK435.out 3; have hcz48_0 : w44.cell? ⟨gb434, 0, none⟩ = some (.int .i64 0) := (b5_ BK434.out 0).trans rfl; have hcz48_1 : w44.cell? ⟨gb434, 1, none⟩ = some (.string (⟨#[]⟩ : ByteArray)) := (b5_ BK434.out 1).trans rfl; have hcz48_2 : w44.cell? ⟨gb434, 2, none⟩ = some (.bool false) := (b5_ BK434.out 2).trans rfl; have hcz48_3 : w44.cell? ⟨gb434, 3, none⟩ = some (.slice none 0 0) := (b5_ BK434.out 3).trans rfl; have hfz48_0 := f1_ BK434.out 0; have hfz48_1 := f1_ BK434.out 1; have hfz48_2 := f1_ BK434.out 2; have hfz48_3 := f1_ BK434.out 3))
       refine bodyPost_ret (results_ctt rfl _ _ gb434 35 #[.int .i64 4, .string (⟨#[]⟩ : ByteArray), .bool x436002_10, .slice Ao45 t456.length co45] (0, 0) _ rfl (by (with_reducible repeat (first | refine b1_ ?_ _ | refine b2_ ?_ | refine b3_ ?_ _)); refine blk_put (cs := #[.int .i64 4, .string (⟨#[]⟩ : ByteArray), .bool x436002_10, .slice none 0 0]) ?_ 3 _ rfl; (with_reducible repeat (first | refine b1_ ?_ _ | refine b2_ ?_ | refine b3_ ?_ _)); refine blk_put (cs := #[.int .i64 4, .string (⟨#[]⟩ : ByteArray), .bool false, .slice none 0 0]) ?_ 2 _ rfl; (with_reducible repeat (first | refine b1_ ?_ _ | refine b2_ ?_ | refine b3_ ?_ _)); refine blk_put (cs := #[.int .i64 4, .string (⟨#[]⟩ : ByteArray), .bool false, .slice none 0 0]) ?_ 1 _ rfl; (with_reducible repeat (first | refine b1_ ?_ _ | refine b2_ ?_ | refine b3_ ?_ _)); refine blk_put (cs := #[.int .i64 0, .string (⟨#[]⟩ : ByteArray), .bool false, .slice none 0 0]) ?_ 0 _ rfl; (with_reducible repeat (first | refine b1_ ?_ _ | refine b2_ ?_ | refine b3_ ?_ _)); refine blk_far ?_ NB434_435.out _; (with_reducible repeat (first | refine b1_ ?_ _ | refine b2_ ?_ | refine b3_ ?_ _)); exact BK434.out) Try.underlying35 rfl (by kernel_rfl)) rfl ?_
       exact ⟨_, by first | rfl | (simp [errW_none, errW_some] <;> rfl) | (simp [*, errW_none, errW_some] <;> rfl), by (with_reducible repeat (first | apply r1_ | apply r2_ | apply r3_)); exact Kd.R_mono (Kd.R_far (p := ⟨gb434, 3, none⟩) (Kd.R_far (p := ⟨gb434, 2, none⟩) (Kd.R_far (p := ⟨gb434, 1, none⟩) (Kd.R_far (p := ⟨gb434, 0, none⟩) (Kd.R_far (p := ⟨gb435, 3, none⟩) (Kd.R_types (Kd.R_types HO458.out BK435.out (by decide)) BK434.out (by decide)) (fun _ hk => hk.1.2) (.slice Ao45 t456.length co45)) (fun _ hk => hk.2) (.int .i64 4)) (fun _ hk => hk.2) (.string (⟨#[]⟩ : ByteArray))) (fun _ hk => hk.2) (.bool x436002_10)) (fun _ hk => hk.2) (.slice Ao45 t456.length co45)) (fun _ hk => trivial), by repeat (with_reducible first | exact HB.out | apply l1_ | apply l2_ | apply l3_ | refine l4_ ?_ GE434.out | refine l4_ ?_ GE435.out)⟩
end Go.Proofs.Ytbekhjcnmifnnaa.Q
