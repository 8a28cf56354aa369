import Derived.Test.YtbekhjcnmifnnaaQ0
import Derived.Test.YtbekhjcnmifnnaaQ12
import Derived.Test.YtbekhjcnmifnnaaQ18
set_option linter.unusedVariables false
set_option linter.unusedSimpArgs false
namespace Go.Proofs.Ytbekhjcnmifnnaa.Q
open Go.RowKit Go.Proofs.YtbekhjcnmifnnaaW.PrintWords Go.Proofs.YtbekhjcnmifnnaaW.PrintLast Go.Proofs.YtbekhjcnmifnnaaW.PrintMore
def pattern_Runs.l0 : Nat → List (S47) → List (S35) → Int → Int → Option ((List (S47)))
 | 0, _, _, _, _ => none
 | k + 1, x3, x9, x10, x11 => if x11 < x10 then (if 0 ≤ x11 then (if x11 < (x9.length : Int) then (if ((rd_T35 x9 x11).f0) = 1 then (if x3.length < 5864062014805 then (pattern_Runs.l0 k (x3 ++ [(⟨(rd_T35 x9 x11).f1, 1⟩ : S47)]) x9 x10 (wrap64 (x11 + 1))) else (none)) else (if ((rd_T35 x9 x11).f0) = 2 then (if x3.length < 5864062014805 then (pattern_Runs.l0 k (x3 ++ [(⟨(⟨#[63]⟩ : ByteArray), 0⟩ : S47)]) x9 x10 (wrap64 (x11 + 1))) else (none)) else (if ((rd_T35 x9 x11).f0) = 3 then (if x3.length < 5864062014805 then (pattern_Runs.l0 k (x3 ++ [(⟨(⟨#[42]⟩ : ByteArray), 0⟩ : S47)]) x9 x10 (wrap64 (x11 + 1))) else (none)) else ((pattern_setRuns.f k ((rd_T35 x9 x11).f0) ((rd_T35 x9 x11).f1) ((rd_T35 x9 x11).f2) ((rd_T35 x9 x11).f3)).bind fun t246 => (if x3.length + t246.length < 5864062014805 then (pattern_Runs.l0 k (x3 ++ t246) x9 x10 (wrap64 (x11 + 1))) else (none)))))) else (none)) else (none)) else (some x3)
def pattern_Runs.f (k : Nat) (l0 : List (S35)) : Option ((List (S47))) := (pattern_allValid.f k l0).bind fun t234 => (if t234 = true then (pattern_Runs.l0 k ([] : List (S47)) l0 (l0.length : Int) 0) else (some ([] : List (S47))))
theorem pattern_Runs.mono_l : ∀ k, (∀ y0 y1 y2 y3, LeO (pattern_Runs.l0 k y0 y1 y2 y3) (pattern_Runs.l0 (k + 1) y0 y1 y2 y3))
 | 0 => fun _ _ _ _ r h => by simp [pattern_Runs.l0] at h
 | k + 1 => by
  have ih0 := pattern_Runs.mono_l k
  ·
   intro y0 y1 y2 y3
   unfold pattern_Runs.l0
   repeat' first
   | (with_reducible exact ih0 _ _ _ _)
   | (with_reducible exact pattern_allValid.mono _ _)
   | (with_reducible exact pattern_setRuns.mono _ _ _ _ _)
   | (with_reducible exact LeO.refl _)
   | (with_reducible exact LeO.none _)
   | (with_reducible refine LeO.ite ?_ ?_)
   | (with_reducible refine LeO.bind ?_ (fun _ => ?_))
theorem pattern_Runs.mono : ∀ a0 k, LeO (pattern_Runs.f k a0) (pattern_Runs.f (k + 1) a0) := by
 intro a0 k
 have ih0 := pattern_Runs.mono_l k
 unfold pattern_Runs.f
 repeat' first
  | (with_reducible exact ih0 _ _ _ _)
  | (with_reducible exact pattern_allValid.mono _ _)
  | (with_reducible exact pattern_setRuns.mono _ _ _ _ _)
  | (with_reducible exact LeO.refl _)
  | (with_reducible exact LeO.none _)
  | (with_reducible refine LeO.ite ?_ ?_)
  | (with_reducible refine LeO.bind ?_ (fun _ => ?_))
set_option maxHeartbeats 8000000 in
set_option maxRecDepth 100000 in
theorem pattern_Runs.calls (k : Nat) (A0 : Option Addr) (c0 : Nat) (l0 : List (S35)) (r : List (S47)) (w : World) (hr0 : Kd.C k35 w A0 l0.length l0) (hc0 : l0.length ≤ c0) (h : pattern_Runs.f k l0 = some r) :
 Calls Try.prog 21 #[.slice A0 l0.length c0] w fun e w' => ∃ v0_ : Value, e = .returned (v0_) ∧ Kd.R k47 47 w' w.heap.size (fun _ => True) v0_ r ∧ Below w.heap.size w w' := by
 have hu35 := Try.underlying35
 have hu47 := Try.underlying47
 have HR0 := m_ hr0
 have HC0 := m_ hc0
 clear hr0 hc0
 have HB := m_ (Below.refl w.heap.size w)
 have H : ((pattern_allValid.f k l0).bind fun t234 => (if t234 = true then (pattern_Runs.l0 k ([] : List (S47)) l0 (l0.length : Int) 0) else (some ([] : List (S47))))) = some r := h
 clear h
 replace H := Option.bind_eq_some_iff.mp H
 obtain ⟨t234, A20, H⟩ := H
 try dsimp -simprocs only at H
 have A2 := m_ A20
 clear A20
 by_cases c3 : t234 = true
 ·
  subst c3
  rw [if_pos rfl] at H
  have H' := m_ H
  clear H
  go_enter Try.func21, Try.ntmps21
  go_wp2_with (first | ((with_reducible refine gate_callee (f := 35) rfl ?_); refine goesL_ (some 7) rfl rfl Try.func35 (by kernel_rfl) rfl #[.slice A0 l0.length c0] rfl (by (try simp only [List.map_toArray, List.map_cons, List.map_nil]); first | done | rfl | (simp only [List.length_drop, List.length_take]; rfl)) ?_; (with_reducible refine (pattern_allValid.calls k _ _ l0 true _ ?side1 ?side2 A2.out).mono ?_); (case side1 => repeat (first | exact HR0.out | (with_reducible refine Kd.C_alloc ?_ _) | (with_reducible refine Kd.C_drewN ?_ _) | (with_reducible refine Kd.C_drew ?_))); (case side2 => exact HC0.out); rintro e w4 ⟨rfl, hb⟩; refine ⟨_, rfl, ?_⟩; replace HB := m_ (l5_ (by repeat (with_reducible first | exact HB.out | apply l1_ | apply l2_ | apply l3_)) hb); (try clear hb)))
  go_loopg [3, 11] k (fun kq v3 v11 w' => ∃ (x3_1 : List (S47)) (x11_1 : Int), v11 = .int .i64 x11_1 ∧ Aside0 (pattern_Runs.l0 kq x3_1 l0 (l0.length : Int) x11_1 = some r) ∧ Aside0 (kq ≤ k) ∧ Aside0 (Kd.R k47 47 w' w.heap.size (fun _ => True) v3 x3_1) ∧ Aside0 (Below w.heap.size w w'))
  case atStart => exact ⟨(([] : List (S47))), (0), (by first | rfl | (simp; done) | (simp [*]; done)), H', ⟨Nat.le_refl _⟩, ⟨by first | exact Kd.R_nil _ _ _ _ _ | exact Kd.N_nil _ _ _ _ _ | exact Kd.V_nil _ _ _ _ _ | exact Kd.Q_nil _ _ _ _ _ | exact Kd.S_nil _ _ _ _ _⟩, ⟨by repeat (with_reducible first | exact HB.out | apply l1_ | apply l2_ | apply l3_)⟩⟩
  case round =>
   clear H'
   (try clear c2); (try clear p2); (try clear c3)
   obtain ⟨x3_1, x11_1, rfl, HA, HK1, HO_3, HB⟩ := hrel
   cases gk with
   | zero => exact absurd HA.out (by simp [pattern_Runs.l0])
   | succ k1 =>
    have H := HA.out
    clear HA
    simp only [pattern_Runs.l0] at H
    by_cases c5 : x11_1 < (l0.length : Int)
    ·
     rw [if_pos c5] at H
     have c5b0 : decide (x11_1 < (l0.length : Int)) = true := decide_eq_true c5
     clear c5
     by_cases c6 : 0 ≤ x11_1
     ·
      rw [if_pos c6] at H
      have c6b0 : decide (0 ≤ x11_1) = true := decide_eq_true c6
      clear c6
      by_cases c7 : x11_1 < (l0.length : Int)
      ·
       rw [if_pos c7] at H
       have c7b0 : decide (x11_1 < (l0.length : Int)) = true := decide_eq_true c7
       clear c7
       by_cases c8 : ((rd_T35 l0 x11_1).f0) = 1
       ·
        rw [if_pos c8] at H
        have c8b0 : (((rd_T35 l0 x11_1).f0) == 1) = true := beq_iff_eq.mpr c8
        have c8b1 : (((rd_T35 l0 x11_1).f0) != 1) = false := bne_eq_false_iff_eq.mpr c8
        clear c8
        by_cases c9 : x3_1.length < 5864062014805
        ·
         rw [if_pos c9] at H
         have LMc9 := m_ c9
         clear c9
         obtain ⟨y237, hy237⟩ : ∃ y_ : List (S47), y_ = (x3_1 ++ [(⟨(rd_T35 l0 x11_1).f1, 1⟩ : S47)]) := ⟨_, rfl⟩
         replace H : (pattern_Runs.l0 k1 y237 l0 (l0.length : Int) (wrap64 (x11_1 + 1))) = some r := by subst hy237; exact H
         have Ny237 := m_ hy237
         clear hy237
         have H' := m_ H
         clear H
         have p235 : 0 ≤ (x11_1 : Int) := o1_ (by with_reducible assumption)
         have q235 : x11_1 < (l0.length : Int) := o1_ (by with_reducible assumption)
         obtain ⟨ad235, A235_3, c235_3, e235, hx235_0, hx235_1, hx235_2, hx235_3, hl235_3, hi235_3⟩ := at_T35 HR0.out x11_1 p235 q235
         cases e235
         replace hx235_0 := (HB.out.cell (c1_ w _ hx235_0)).trans hx235_0
         replace hx235_1 := (HB.out.cell (c1_ w _ hx235_1)).trans hx235_1
         replace hx235_2 := (HB.out.cell (c1_ w _ hx235_2)).trans hx235_2
         replace hx235_3 := (HB.out.cell (c1_ w _ hx235_3)).trans hx235_3
         have HR235_3 := m_ hi235_3
         have HC235_3 := m_ hl235_3
         clear hi235_3 hl235_3
         replace p235 := eq_true p235
         replace q235 := eq_true q235
         go_wp2_with (first | ((with_reducible refine gate_dst (N := 5) rfl ?_); refine box_event ?hg (N := 5) ?hd (cs := #[.int .i64 0, .string (⟨#[]⟩ : ByteArray), .bool false, .slice none 0 0]) (t := 35) ?hr ?_; (case hd => rfl); (case hg => rfl); (case hr => first | (go_simp; done) | (go_simp; rfl)); intro gb236 hg w10 hbox hb; replace HO_3 := m_ (Kd.R_below (by (with_reducible repeat (first | apply r1_ | apply r2_ | apply r3_)); exact HO_3.out) hb); have BK236 := m_ (hbox); have GW236 := m_ ((by rw [hg]; exact (l6_ (by repeat (with_reducible first | exact HB.out | apply l1_ | apply l2_ | apply l3_))) : w.heap.size ≤ gb236)); have GE236 := m_ ((by rw [hg]; exact (l6_ (by repeat (with_reducible first | exact HB.out | apply l1_ | apply l2_ | apply l3_))) : w.heap.size ≤ gb236)); replace HB := m_ (l5_ (by repeat (with_reducible first | exact HB.out | apply l1_ | apply l2_ | apply l3_)) hb); clear hb hbox hg; have hcz11_0 : w10.cell? ⟨gb236, 0, none⟩ = some (.int .i64 0) := (b5_ BK236.out 0).trans rfl; have hcz11_1 : w10.cell? ⟨gb236, 1, none⟩ = some (.string (⟨#[]⟩ : ByteArray)) := (b5_ BK236.out 1).trans rfl; have hcz11_2 : w10.cell? ⟨gb236, 2, none⟩ = some (.bool false) := (b5_ BK236.out 2).trans rfl; have hcz11_3 : w10.cell? ⟨gb236, 3, none⟩ = some (.slice none 0 0) := (b5_ BK236.out 3).trans rfl; have hfz11_0 := f1_ BK236.out 0; have hfz11_1 := f1_ BK236.out 1; have hfz11_2 := f1_ BK236.out 2; have hfz11_3 := f1_ BK236.out 3) | ((with_reducible refine gate_builtin (b := .append) (xs := #[.tmp 23, .tmp 27]) rfl ?_); at_builtin; refine Kd.R_append k47 (w0 := w) w.heap.size rfl (.tmp 23) (.tmp 27) 22 47 (.agg #[(.string ⟨#[]⟩), (.int .i64 0)]) 24 rfl Try.underlying22 info47 rfl (by decide) (by omega) u3 x3_1 (⟨(rd_T35 l0 x11_1).f1, 1⟩ : S47) [.string ((rd_T35 l0 x11_1).f1), .int .i64 1] (fun _ => True) (fun _ => False) rfl (by first | (go_simp; done) | (go_simp; rfl)) ?aP (fun _ hk => hk.elim) ?aF ?aO ?aB ?aS ?aL ?_; (case aP => exact k47_mkM _ _ _ (⟨(rd_T35 l0 x11_1).f1, 1⟩ : S47)); (case aB => exact (by repeat (with_reducible first | exact HB.out | apply l1_ | apply l2_ | apply l3_ | refine l4_ ?_ GE236.out))); (case aF => exact (fun _ _ => trivial)); (case aO => exact (by (with_reducible repeat (first | apply r1_ | apply r2_ | apply r3_)); exact Kd.R_mono (Kd.R_far (p := ⟨gb236, 3, none⟩) (Kd.R_far (p := ⟨gb236, 2, none⟩) (Kd.R_far (p := ⟨gb236, 1, none⟩) (Kd.R_far (p := ⟨gb236, 0, none⟩) (Kd.R_types HO_3.out BK236.out (by decide)) (fun _ hk => hk.2) (.int .i64 ((rd_T35 l0 x11_1).f0))) (fun _ hk => hk.2) (.string ((rd_T35 l0 x11_1).f1))) (fun _ hk => hk.2) (.bool ((rd_T35 l0 x11_1).f2))) (fun _ hk => hk.2) (.slice A235_3 ((rd_T35 l0 x11_1).f3).length c235_3)) (fun _ hk => trivial))); (case aS => exact (l6_ (by repeat (with_reducible first | exact HB.out | apply l1_ | apply l2_ | apply l3_ | refine l4_ ?_ GE236.out)))); (case aL => have := LMc9.out; omega); intro v238 w12 ho hb hg hat; rw [← Ny237.out] at ho; replace BK236 := m_ (blk_grown (g := gb236) (o := .cells #[.int .i64 ((rd_T35 l0 x11_1).f0), .string ((rd_T35 l0 x11_1).f1), .bool ((rd_T35 l0 x11_1).f2), .slice A235_3 ((rd_T35 l0 x11_1).f3).length c235_3] 35 (0, 0)) (by (with_reducible repeat (first | refine b1_ ?_ _ | refine b2_ ?_ | refine b3_ ?_ _)); refine blk_put (cs := #[.int .i64 ((rd_T35 l0 x11_1).f0), .string ((rd_T35 l0 x11_1).f1), .bool ((rd_T35 l0 x11_1).f2), .slice none 0 0]) ?_ 3 _ rfl; (with_reducible repeat (first | refine b1_ ?_ _ | refine b2_ ?_ | refine b3_ ?_ _)); refine blk_put (cs := #[.int .i64 ((rd_T35 l0 x11_1).f0), .string ((rd_T35 l0 x11_1).f1), .bool false, .slice none 0 0]) ?_ 2 _ rfl; (with_reducible repeat (first | refine b1_ ?_ _ | refine b2_ ?_ | refine b3_ ?_ _)); refine blk_put (cs := #[.int .i64 ((rd_T35 l0 x11_1).f0), .string (⟨#[]⟩ : ByteArray), .bool false, .slice none 0 0]) ?_ 1 _ rfl; (with_reducible repeat (first | refine b1_ ?_ _ | refine b2_ ?_ | refine b3_ ?_ _)); refine blk_put (cs := #[.int .i64 0, .string (⟨#[]⟩ : ByteArray), .bool false, .slice none 0 0]) ?_ 0 _ rfl; (with_reducible repeat (first | refine b1_ ?_ _ | refine b2_ ?_ | refine b3_ ?_ _)); exact BK236.out) hg (Kd.R_ne HO_3.out BK236.out (by decide))); replace HB := m_ (hb); have HO239 := m_ (ho); clear HO_3; clear ho hb hg hat))
         go_roundg k1
         case measure => have := HK1.out; omega
         case rel => exact ⟨(y237), (wrap64 (x11_1 + 1)), (by first | rfl | (simp; done) | (simp [*]; done)), H', ⟨by have := HK1.out; omega⟩, ⟨by (with_reducible repeat (first | apply r1_ | apply r2_ | apply r3_)); exact HO239.out⟩, ⟨by repeat (with_reducible first | exact HB.out | apply l1_ | apply l2_ | apply l3_ | refine l4_ ?_ GE236.out)⟩⟩
        rw [if_neg c9] at H
        exact absurd H (by simp)
       rw [if_neg c8] at H
       have c8b0 : (((rd_T35 l0 x11_1).f0) == 1) = false := beq_eq_false_iff_ne.mpr c8
       have c8b1 : (((rd_T35 l0 x11_1).f0) != 1) = true := bne_iff_ne.mpr c8
       by_cases c13 : ((rd_T35 l0 x11_1).f0) = 2
       ·
        rw [if_pos c13] at H
        have c13b0 : (((rd_T35 l0 x11_1).f0) == 2) = true := beq_iff_eq.mpr c13
        have c13b1 : (((rd_T35 l0 x11_1).f0) != 2) = false := bne_eq_false_iff_eq.mpr c13
        clear c13
        by_cases c14 : x3_1.length < 5864062014805
        ·
         rw [if_pos c14] at H
         have LMc14 := m_ c14
         clear c14
         obtain ⟨y240, hy240⟩ : ∃ y_ : List (S47), y_ = (x3_1 ++ [(⟨(⟨#[63]⟩ : ByteArray), 0⟩ : S47)]) := ⟨_, rfl⟩
         replace H : (pattern_Runs.l0 k1 y240 l0 (l0.length : Int) (wrap64 (x11_1 + 1))) = some r := by subst hy240; exact H
         have Ny240 := m_ hy240
         clear hy240
         have H' := m_ H
         clear H
         have p235 : 0 ≤ (x11_1 : Int) := o1_ (by with_reducible assumption)
         have q235 : x11_1 < (l0.length : Int) := o1_ (by with_reducible assumption)
         obtain ⟨ad235, A235_3, c235_3, e235, hx235_0, hx235_1, hx235_2, hx235_3, hl235_3, hi235_3⟩ := at_T35 HR0.out x11_1 p235 q235
         cases e235
         replace hx235_0 := (HB.out.cell (c1_ w _ hx235_0)).trans hx235_0
         replace hx235_1 := (HB.out.cell (c1_ w _ hx235_1)).trans hx235_1
         replace hx235_2 := (HB.out.cell (c1_ w _ hx235_2)).trans hx235_2
         replace hx235_3 := (HB.out.cell (c1_ w _ hx235_3)).trans hx235_3
         have HR235_3 := m_ hi235_3
         have HC235_3 := m_ hl235_3
         clear hi235_3 hl235_3
         replace p235 := eq_true p235
         replace q235 := eq_true q235
         go_wp2_with (first | ((with_reducible refine gate_dst (N := 5) rfl ?_); refine box_event ?hg (N := 5) ?hd (cs := #[.int .i64 0, .string (⟨#[]⟩ : ByteArray), .bool false, .slice none 0 0]) (t := 35) ?hr ?_; (case hd => rfl); (case hg => rfl); (case hr => first | (go_simp; done) | (go_simp; rfl)); intro gb236 hg w15 hbox hb; replace HO_3 := m_ (Kd.R_below (by (with_reducible repeat (first | apply r1_ | apply r2_ | apply r3_)); exact HO_3.out) hb); have BK236 := m_ (hbox); have GW236 := m_ ((by rw [hg]; exact (l6_ (by repeat (with_reducible first | exact HB.out | apply l1_ | apply l2_ | apply l3_))) : w.heap.size ≤ gb236)); have GE236 := m_ ((by rw [hg]; exact (l6_ (by repeat (with_reducible first | exact HB.out | apply l1_ | apply l2_ | apply l3_))) : w.heap.size ≤ gb236)); replace HB := m_ (l5_ (by repeat (with_reducible first | exact HB.out | apply l1_ | apply l2_ | apply l3_)) hb); clear hb hbox hg; have hcz16_0 : w15.cell? ⟨gb236, 0, none⟩ = some (.int .i64 0) := (b5_ BK236.out 0).trans rfl; have hcz16_1 : w15.cell? ⟨gb236, 1, none⟩ = some (.string (⟨#[]⟩ : ByteArray)) := (b5_ BK236.out 1).trans rfl; have hcz16_2 : w15.cell? ⟨gb236, 2, none⟩ = some (.bool false) := (b5_ BK236.out 2).trans rfl; have hcz16_3 : w15.cell? ⟨gb236, 3, none⟩ = some (.slice none 0 0) := (b5_ BK236.out 3).trans rfl; have hfz16_0 := f1_ BK236.out 0; have hfz16_1 := f1_ BK236.out 1; have hfz16_2 := f1_ BK236.out 2; have hfz16_3 := f1_ BK236.out 3) | ((with_reducible refine gate_builtin (b := .append) (xs := #[.tmp 31, .tmp 33]) rfl ?_); at_builtin; refine Kd.R_append k47 (w0 := w) w.heap.size rfl (.tmp 31) (.tmp 33) 22 47 (.agg #[(.string ⟨#[]⟩), (.int .i64 0)]) 24 rfl Try.underlying22 info47 rfl (by decide) (by omega) u3 x3_1 (⟨(⟨#[63]⟩ : ByteArray), 0⟩ : S47) [.string (⟨#[63]⟩ : ByteArray), .int .i64 0] (fun _ => True) (fun _ => False) rfl (by first | (go_simp; done) | (go_simp; rfl)) ?aP (fun _ hk => hk.elim) ?aF ?aO ?aB ?aS ?aL ?_; (case aP => exact k47_mkM _ _ _ (⟨(⟨#[63]⟩ : ByteArray), 0⟩ : S47)); (case aB => exact (by repeat (with_reducible first | exact HB.out | apply l1_ | apply l2_ | apply l3_ | refine l4_ ?_ GE236.out))); (case aF => exact (fun _ _ => trivial)); (case aO => exact (by (with_reducible repeat (first | apply r1_ | apply r2_ | apply r3_)); exact Kd.R_mono (Kd.R_far (p := ⟨gb236, 3, none⟩) (Kd.R_far (p := ⟨gb236, 2, none⟩) (Kd.R_far (p := ⟨gb236, 1, none⟩) (Kd.R_far (p := ⟨gb236, 0, none⟩) (Kd.R_types HO_3.out BK236.out (by decide)) (fun _ hk => hk.2) (.int .i64 ((rd_T35 l0 x11_1).f0))) (fun _ hk => hk.2) (.string ((rd_T35 l0 x11_1).f1))) (fun _ hk => hk.2) (.bool ((rd_T35 l0 x11_1).f2))) (fun _ hk => hk.2) (.slice A235_3 ((rd_T35 l0 x11_1).f3).length c235_3)) (fun _ hk => trivial))); (case aS => exact (l6_ (by repeat (with_reducible first | exact HB.out | apply l1_ | apply l2_ | apply l3_ | refine l4_ ?_ GE236.out)))); (case aL => have := LMc14.out; omega); intro v241 w17 ho hb hg hat; rw [← Ny240.out] at ho; replace BK236 := m_ (blk_grown (g := gb236) (o := .cells #[.int .i64 ((rd_T35 l0 x11_1).f0), .string ((rd_T35 l0 x11_1).f1), .bool ((rd_T35 l0 x11_1).f2), .slice A235_3 ((rd_T35 l0 x11_1).f3).length c235_3] 35 (0, 0)) (by (with_reducible repeat (first | refine b1_ ?_ _ | refine b2_ ?_ | refine b3_ ?_ _)); refine blk_put (cs := #[.int .i64 ((rd_T35 l0 x11_1).f0), .string ((rd_T35 l0 x11_1).f1), .bool ((rd_T35 l0 x11_1).f2), .slice none 0 0]) ?_ 3 _ rfl; (with_reducible repeat (first | refine b1_ ?_ _ | refine b2_ ?_ | refine b3_ ?_ _)); refine blk_put (cs := #[.int .i64 ((rd_T35 l0 x11_1).f0), .string ((rd_T35 l0 x11_1).f1), .bool false, .slice none 0 0]) ?_ 2 _ rfl; (with_reducible repeat (first | refine b1_ ?_ _ | refine b2_ ?_ | refine b3_ ?_ _)); refine blk_put (cs := #[.int .i64 ((rd_T35 l0 x11_1).f0), .string (⟨#[]⟩ : ByteArray), .bool false, .slice none 0 0]) ?_ 1 _ rfl; (with_reducible repeat (first | refine b1_ ?_ _ | refine b2_ ?_ | refine b3_ ?_ _)); refine blk_put (cs := #[.int .i64 0, .string (⟨#[]⟩ : ByteArray), .bool false, .slice none 0 0]) ?_ 0 _ rfl; (with_reducible repeat (first | refine b1_ ?_ _ | refine b2_ ?_ | refine b3_ ?_ _)); exact BK236.out) hg (Kd.R_ne HO_3.out BK236.out (by decide))); replace HB := m_ (hb); have HO242 := m_ (ho); clear HO_3; clear ho hb hg hat))
         go_roundg k1
         case measure => have := HK1.out; omega
         case rel => exact ⟨(y240), (wrap64 (x11_1 + 1)), (by first | rfl | (simp; done) | (simp [*]; done)), H', ⟨by have := HK1.out; omega⟩, ⟨by (with_reducible repeat (first | apply r1_ | apply r2_ | apply r3_)); exact HO242.out⟩, ⟨by repeat (with_reducible first | exact HB.out | apply l1_ | apply l2_ | apply l3_ | refine l4_ ?_ GE236.out)⟩⟩
        rw [if_neg c14] at H
        exact absurd H (by simp)
       rw [if_neg c13] at H
       have c13b0 : (((rd_T35 l0 x11_1).f0) == 2) = false := beq_eq_false_iff_ne.mpr c13
       have c13b1 : (((rd_T35 l0 x11_1).f0) != 2) = true := bne_iff_ne.mpr c13
       by_cases c18 : ((rd_T35 l0 x11_1).f0) = 3
       ·
        rw [if_pos c18] at H
        have c18b0 : (((rd_T35 l0 x11_1).f0) == 3) = true := beq_iff_eq.mpr c18
        have c18b1 : (((rd_T35 l0 x11_1).f0) != 3) = false := bne_eq_false_iff_eq.mpr c18
        clear c18
        by_cases c19 : x3_1.length < 5864062014805
        ·
         rw [if_pos c19] at H
         have LMc19 := m_ c19
         clear c19
         obtain ⟨y243, hy243⟩ : ∃ y_ : List (S47), y_ = (x3_1 ++ [(⟨(⟨#[42]⟩ : ByteArray), 0⟩ : S47)]) := ⟨_, rfl⟩
         replace H : (pattern_Runs.l0 k1 y243 l0 (l0.length : Int) (wrap64 (x11_1 + 1))) = some r := by subst hy243; exact H
         have Ny243 := m_ hy243
         clear hy243
         have H' := m_ H
         clear H
         have p235 : 0 ≤ (x11_1 : Int) := o1_ (by with_reducible assumption)
         have q235 : x11_1 < (l0.length : Int) := o1_ (by with_reducible assumption)
         obtain ⟨ad235, A235_3, c235_3, e235, hx235_0, hx235_1, hx235_2, hx235_3, hl235_3, hi235_3⟩ := at_T35 HR0.out x11_1 p235 q235
         cases e235
         replace hx235_0 := (HB.out.cell (c1_ w _ hx235_0)).trans hx235_0
         replace hx235_1 := (HB.out.cell (c1_ w _ hx235_1)).trans hx235_1
         replace hx235_2 := (HB.out.cell (c1_ w _ hx235_2)).trans hx235_2
         replace hx235_3 := (HB.out.cell (c1_ w _ hx235_3)).trans hx235_3
         have HR235_3 := m_ hi235_3
         have HC235_3 := m_ hl235_3
         clear hi235_3 hl235_3
         replace p235 := eq_true p235
         replace q235 := eq_true q235
         go_wp2_with (first | ((with_reducible refine gate_dst (N := 5) rfl ?_); refine box_event ?hg (N := 5) ?hd (cs := #[.int .i64 0, .string (⟨#[]⟩ : ByteArray), .bool false, .slice none 0 0]) (t := 35) ?hr ?_; (case hd => rfl); (case hg => rfl); (case hr => first | (go_simp; done) | (go_simp; rfl)); intro gb236 hg w20 hbox hb; replace HO_3 := m_ (Kd.R_below (by (with_reducible repeat (first | apply r1_ | apply r2_ | apply r3_)); exact HO_3.out) hb); have BK236 := m_ (hbox); have GW236 := m_ ((by rw [hg]; exact (l6_ (by repeat (with_reducible first | exact HB.out | apply l1_ | apply l2_ | apply l3_))) : w.heap.size ≤ gb236)); have GE236 := m_ ((by rw [hg]; exact (l6_ (by repeat (with_reducible first | exact HB.out | apply l1_ | apply l2_ | apply l3_))) : w.heap.size ≤ gb236)); replace HB := m_ (l5_ (by repeat (with_reducible first | exact HB.out | apply l1_ | apply l2_ | apply l3_)) hb); clear hb hbox hg; have hcz21_0 : w20.cell? ⟨gb236, 0, none⟩ = some (.int .i64 0) := (b5_ BK236.out 0).trans rfl; have hcz21_1 : w20.cell? ⟨gb236, 1, none⟩ = some (.string (⟨#[]⟩ : ByteArray)) := (b5_ BK236.out 1).trans rfl; have hcz21_2 : w20.cell? ⟨gb236, 2, none⟩ = some (.bool false) := (b5_ BK236.out 2).trans rfl; have hcz21_3 : w20.cell? ⟨gb236, 3, none⟩ = some (.slice none 0 0) := (b5_ BK236.out 3).trans rfl; have hfz21_0 := f1_ BK236.out 0; have hfz21_1 := f1_ BK236.out 1; have hfz21_2 := f1_ BK236.out 2; have hfz21_3 := f1_ BK236.out 3) | ((with_reducible refine gate_builtin (b := .append) (xs := #[.tmp 37, .tmp 39]) rfl ?_); at_builtin; refine Kd.R_append k47 (w0 := w) w.heap.size rfl (.tmp 37) (.tmp 39) 22 47 (.agg #[(.string ⟨#[]⟩), (.int .i64 0)]) 24 rfl Try.underlying22 info47 rfl (by decide) (by omega) u3 x3_1 (⟨(⟨#[42]⟩ : ByteArray), 0⟩ : S47) [.string (⟨#[42]⟩ : ByteArray), .int .i64 0] (fun _ => True) (fun _ => False) rfl (by first | (go_simp; done) | (go_simp; rfl)) ?aP (fun _ hk => hk.elim) ?aF ?aO ?aB ?aS ?aL ?_; (case aP => exact k47_mkM _ _ _ (⟨(⟨#[42]⟩ : ByteArray), 0⟩ : S47)); (case aB => exact (by repeat (with_reducible first | exact HB.out | apply l1_ | apply l2_ | apply l3_ | refine l4_ ?_ GE236.out))); (case aF => exact (fun _ _ => trivial)); (case aO => exact (by (with_reducible repeat (first | apply r1_ | apply r2_ | apply r3_)); exact Kd.R_mono (Kd.R_far (p := ⟨gb236, 3, none⟩) (Kd.R_far (p := ⟨gb236, 2, none⟩) (Kd.R_far (p := ⟨gb236, 1, none⟩) (Kd.R_far (p := ⟨gb236, 0, none⟩) (Kd.R_types HO_3.out BK236.out (by decide)) (fun _ hk => hk.2) (.int .i64 ((rd_T35 l0 x11_1).f0))) (fun _ hk => hk.2) (.string ((rd_T35 l0 x11_1).f1))) (fun _ hk => hk.2) (.bool ((rd_T35 l0 x11_1).f2))) (fun _ hk => hk.2) (.slice A235_3 ((rd_T35 l0 x11_1).f3).length c235_3)) (fun _ hk => trivial))); (case aS => exact (l6_ (by repeat (with_reducible first | exact HB.out | apply l1_ | apply l2_ | apply l3_ | refine l4_ ?_ GE236.out)))); (case aL => have := LMc19.out; omega); intro v244 w22 ho hb hg hat; rw [← Ny243.out] at ho; replace BK236 := m_ (blk_grown (g := gb236) (o := .cells #[.int .i64 ((rd_T35 l0 x11_1).f0), .string ((rd_T35 l0 x11_1).f1), .bool ((rd_T35 l0 x11_1).f2), .slice A235_3 ((rd_T35 l0 x11_1).f3).length c235_3] 35 (0, 0)) (by (with_reducible repeat (first | refine b1_ ?_ _ | refine b2_ ?_ | refine b3_ ?_ _)); refine blk_put (cs := #[.int .i64 ((rd_T35 l0 x11_1).f0), .string ((rd_T35 l0 x11_1).f1), .bool ((rd_T35 l0 x11_1).f2), .slice none 0 0]) ?_ 3 _ rfl; (with_reducible repeat (first | refine b1_ ?_ _ | refine b2_ ?_ | refine b3_ ?_ _)); refine blk_put (cs := #[.int .i64 ((rd_T35 l0 x11_1).f0), .string ((rd_T35 l0 x11_1).f1), .bool false, .slice none 0 0]) ?_ 2 _ rfl; (with_reducible repeat (first | refine b1_ ?_ _ | refine b2_ ?_ | refine b3_ ?_ _)); refine blk_put (cs := #[.int .i64 ((rd_T35 l0 x11_1).f0), .string (⟨#[]⟩ : ByteArray), .bool false, .slice none 0 0]) ?_ 1 _ rfl; (with_reducible repeat (first | refine b1_ ?_ _ | refine b2_ ?_ | refine b3_ ?_ _)); refine blk_put (cs := #[.int .i64 0, .string (⟨#[]⟩ : ByteArray), .bool false, .slice none 0 0]) ?_ 0 _ rfl; (with_reducible repeat (first | refine b1_ ?_ _ | refine b2_ ?_ | refine b3_ ?_ _)); exact BK236.out) hg (Kd.R_ne HO_3.out BK236.out (by decide))); replace HB := m_ (hb); have HO245 := m_ (ho); clear HO_3; clear ho hb hg hat))
         go_roundg k1
         case measure => have := HK1.out; omega
         case rel => exact ⟨(y243), (wrap64 (x11_1 + 1)), (by first | rfl | (simp; done) | (simp [*]; done)), H', ⟨by have := HK1.out; omega⟩, ⟨by (with_reducible repeat (first | apply r1_ | apply r2_ | apply r3_)); exact HO245.out⟩, ⟨by repeat (with_reducible first | exact HB.out | apply l1_ | apply l2_ | apply l3_ | refine l4_ ?_ GE236.out)⟩⟩
        rw [if_neg c19] at H
        exact absurd H (by simp)
       rw [if_neg c18] at H
       have c18b0 : (((rd_T35 l0 x11_1).f0) == 3) = false := beq_eq_false_iff_ne.mpr c18
       have c18b1 : (((rd_T35 l0 x11_1).f0) != 3) = true := bne_iff_ne.mpr c18
       replace H := Option.bind_eq_some_iff.mp H
       obtain ⟨t246, A230, H⟩ := H
       try dsimp -simprocs only at H
       have A23 := m_ A230
       clear A230
       by_cases c24 : x3_1.length + t246.length < 5864062014805
       ·
        rw [if_pos c24] at H
        have LMc24 := m_ c24
        clear c24
        obtain ⟨y249, hy249⟩ : ∃ y_ : List (S47), y_ = (x3_1 ++ t246) := ⟨_, rfl⟩
        replace H : (pattern_Runs.l0 k1 y249 l0 (l0.length : Int) (wrap64 (x11_1 + 1))) = some r := by subst hy249; exact H
        have Ny249 := m_ hy249
        clear hy249
        have H' := m_ H
        clear H
        have p235 : 0 ≤ (x11_1 : Int) := o1_ (by with_reducible assumption)
        have q235 : x11_1 < (l0.length : Int) := o1_ (by with_reducible assumption)
        obtain ⟨ad235, A235_3, c235_3, e235, hx235_0, hx235_1, hx235_2, hx235_3, hl235_3, hi235_3⟩ := at_T35 HR0.out x11_1 p235 q235
        cases e235
        replace hx235_0 := (HB.out.cell (c1_ w _ hx235_0)).trans hx235_0
        replace hx235_1 := (HB.out.cell (c1_ w _ hx235_1)).trans hx235_1
        replace hx235_2 := (HB.out.cell (c1_ w _ hx235_2)).trans hx235_2
        replace hx235_3 := (HB.out.cell (c1_ w _ hx235_3)).trans hx235_3
        have HR235_3 := m_ hi235_3
        have HC235_3 := m_ hl235_3
        clear hi235_3 hl235_3
        replace p235 := eq_true p235
        replace q235 := eq_true q235
        go_wp2_with (first | ((with_reducible refine gate_dst (N := 5) rfl ?_); refine box_event ?hg (N := 5) ?hd (cs := #[.int .i64 0, .string (⟨#[]⟩ : ByteArray), .bool false, .slice none 0 0]) (t := 35) ?hr ?_; (case hd => rfl); (case hg => rfl); (case hr => first | (go_simp; done) | (go_simp; rfl)); intro gb236 hg w25 hbox hb; replace HO_3 := m_ (Kd.R_below (by (with_reducible repeat (first | apply r1_ | apply r2_ | apply r3_)); exact HO_3.out) hb); have BK236 := m_ (hbox); have GW236 := m_ ((by rw [hg]; exact (l6_ (by repeat (with_reducible first | exact HB.out | apply l1_ | apply l2_ | apply l3_))) : w.heap.size ≤ gb236)); have GE236 := m_ ((by rw [hg]; exact (l6_ (by repeat (with_reducible first | exact HB.out | apply l1_ | apply l2_ | apply l3_))) : w.heap.size ≤ gb236)); replace HB := m_ (l5_ (by repeat (with_reducible first | exact HB.out | apply l1_ | apply l2_ | apply l3_)) hb); clear hb hbox hg; have hcz26_0 : w25.cell? ⟨gb236, 0, none⟩ = some (.int .i64 0) := (b5_ BK236.out 0).trans rfl; have hcz26_1 : w25.cell? ⟨gb236, 1, none⟩ = some (.string (⟨#[]⟩ : ByteArray)) := (b5_ BK236.out 1).trans rfl; have hcz26_2 : w25.cell? ⟨gb236, 2, none⟩ = some (.bool false) := (b5_ BK236.out 2).trans rfl; have hcz26_3 : w25.cell? ⟨gb236, 3, none⟩ = some (.slice none 0 0) := (b5_ BK236.out 3).trans rfl; have hfz26_0 := f1_ BK236.out 0; have hfz26_1 := f1_ BK236.out 1; have hfz26_2 := f1_ BK236.out 2; have hfz26_3 := f1_ BK236.out 3) | ((with_reducible refine gate_callee (f := 41) rfl ?_); refine goesL_ (some 19) rfl rfl Try.func41 (by kernel_rfl) rfl #[.agg #[.int .i64 ((rd_T35 l0 x11_1).f0), .string ((rd_T35 l0 x11_1).f1), .bool ((rd_T35 l0 x11_1).f2), .slice A235_3 ((rd_T35 l0 x11_1).f3).length c235_3]] rfl (by (try simp only [List.map_toArray, List.map_cons, List.map_nil]); first | done | rfl | (simp only [List.length_drop, List.length_take]; rfl)) ?_; (with_reducible refine (pattern_setRuns.calls k1 ((rd_T35 l0 x11_1).f0) ((rd_T35 l0 x11_1).f1) ((rd_T35 l0 x11_1).f2) _ _ ((rd_T35 l0 x11_1).f3) t246 _ ?side1 ?side2 A23.out).mono ?_); (case side1 => exact Kd.C_below HR235_3.out (by repeat (with_reducible first | exact HB.out | apply l1_ | apply l2_ | apply l3_ | refine l4_ ?_ GE236.out))); (case side2 => exact HC235_3.out); rintro e w27 ⟨v247, rfl, ho0, hb⟩; refine ⟨_, rfl, ?_⟩; have HO248 := m_ (Kd.R_lower (Kd.R_new' ho0 (Kd.R_lt (by (with_reducible repeat (first | apply r1_ | apply r2_ | apply r3_)); exact (Kd.R_mono (Kd.R_far (p := ⟨gb236, 3, none⟩) (Kd.R_far (p := ⟨gb236, 2, none⟩) (Kd.R_far (p := ⟨gb236, 1, none⟩) (Kd.R_far (p := ⟨gb236, 0, none⟩) (Kd.R_types HO_3.out BK236.out (by decide)) (fun _ hk => hk.2) (.int .i64 ((rd_T35 l0 x11_1).f0))) (fun _ hk => hk.2) (.string ((rd_T35 l0 x11_1).f1))) (fun _ hk => hk.2) (.bool ((rd_T35 l0 x11_1).f2))) (fun _ hk => hk.2) (.slice A235_3 ((rd_T35 l0 x11_1).f3).length c235_3)) (fun _ h_ => h_.1))))) (l6_ (by repeat (with_reducible first | exact HB.out | apply l1_ | apply l2_ | apply l3_ | refine l4_ ?_ GE236.out)))); replace HO_3 := m_ (Kd.R_elder' (by (with_reducible repeat (first | apply r1_ | apply r2_ | apply r3_)); exact (Kd.R_mono (Kd.R_far (p := ⟨gb236, 3, none⟩) (Kd.R_far (p := ⟨gb236, 2, none⟩) (Kd.R_far (p := ⟨gb236, 1, none⟩) (Kd.R_far (p := ⟨gb236, 0, none⟩) (Kd.R_types HO_3.out BK236.out (by decide)) (fun _ hk => hk.2) (.int .i64 ((rd_T35 l0 x11_1).f0))) (fun _ hk => hk.2) (.string ((rd_T35 l0 x11_1).f1))) (fun _ hk => hk.2) (.bool ((rd_T35 l0 x11_1).f2))) (fun _ hk => hk.2) (.slice A235_3 ((rd_T35 l0 x11_1).f3).length c235_3)) (fun _ h_ => h_.1))) (Kd.R_base ho0) hb); replace BK236 := m_ (b4_ (g := gb236) (o := .cells #[.int .i64 ((rd_T35 l0 x11_1).f0), .string ((rd_T35 l0 x11_1).f1), .bool ((rd_T35 l0 x11_1).f2), .slice A235_3 ((rd_T35 l0 x11_1).f3).length c235_3] 35 (0, 0)) (by (with_reducible repeat (first | refine b1_ ?_ _ | refine b2_ ?_ | refine b3_ ?_ _)); refine blk_put (cs := #[.int .i64 ((rd_T35 l0 x11_1).f0), .string ((rd_T35 l0 x11_1).f1), .bool ((rd_T35 l0 x11_1).f2), .slice none 0 0]) ?_ 3 _ rfl; (with_reducible repeat (first | refine b1_ ?_ _ | refine b2_ ?_ | refine b3_ ?_ _)); refine blk_put (cs := #[.int .i64 ((rd_T35 l0 x11_1).f0), .string ((rd_T35 l0 x11_1).f1), .bool false, .slice none 0 0]) ?_ 2 _ rfl; (with_reducible repeat (first | refine b1_ ?_ _ | refine b2_ ?_ | refine b3_ ?_ _)); refine blk_put (cs := #[.int .i64 ((rd_T35 l0 x11_1).f0), .string (⟨#[]⟩ : ByteArray), .bool false, .slice none 0 0]) ?_ 1 _ rfl; (with_reducible repeat (first | refine b1_ ?_ _ | refine b2_ ?_ | refine b3_ ?_ _)); refine blk_put (cs := #[.int .i64 0, .string (⟨#[]⟩ : ByteArray), .bool false, .slice none 0 0]) ?_ 0 _ rfl; (with_reducible repeat (first | refine b1_ ?_ _ | refine b2_ ?_ | refine b3_ ?_ _)); exact BK236.out) hb); replace HB := m_ (l5_ (by repeat (with_reducible first | exact HB.out | apply l1_ | apply l2_ | apply l3_ | refine l4_ ?_ GE236.out)) hb); (try clear hb); (try clear hk); (try clear ho0); obtain ⟨Ao29, co29, eo29⟩ := Kd.R_slice HO248.out; subst eo29) | ((with_reducible refine gate_builtin (b := .append) (xs := #[.tmp 17, .tmp 19]) rfl ?_); at_builtin; refine Kd.R_append_rows k47 (w0 := w) w.heap.size rfl (.tmp 17) (.tmp 19) 22 47 (.agg #[(.string ⟨#[]⟩), (.int .i64 0)]) 24 rfl Try.underlying22 info47 rfl (by decide) (by omega) u3 x3_1 t246 _ _ _ (fun k_ => some k_ ≠ (.slice Ao29 t246.length co29 : Value).ownBlock) (fun _ => False) rfl rfl ?aO ?aR (fun _ _ h => h) (fun _ h => h.elim) ?aF ?aB ?aS ?aL ?_; (case aR => repeat (first | exact (Kd.R_reads' HO248.out).2.2 | (with_reducible refine Kd.C_alloc ?_ _) | (with_reducible refine Kd.C_drewN ?_ _) | (with_reducible refine Kd.C_drew ?_))); (case aB => exact (by repeat (with_reducible first | exact HB.out | apply l1_ | apply l2_ | apply l3_ | refine l4_ ?_ GE236.out))); (case aF => exact (fun k_ hk => Kd.fresh' (Kd.R_lt (by (with_reducible repeat (first | apply r1_ | apply r2_ | apply r3_)); exact HO248.out)) k_ hk)); (case aO => exact (by (with_reducible repeat (first | apply r1_ | apply r2_ | apply r3_)); exact Kd.R_mono HO_3.out (fun _ hk => hk.2))); (case aS => exact (l6_ (by repeat (with_reducible first | exact HB.out | apply l1_ | apply l2_ | apply l3_ | refine l4_ ?_ GE236.out)))); (case aL => have := LMc24.out; omega); intro v250 w28 ho hb hg hat; rw [← Ny249.out] at ho; replace BK236 := m_ (blk_grown (g := gb236) (o := .cells #[.int .i64 ((rd_T35 l0 x11_1).f0), .string ((rd_T35 l0 x11_1).f1), .bool ((rd_T35 l0 x11_1).f2), .slice A235_3 ((rd_T35 l0 x11_1).f3).length c235_3] 35 (0, 0)) (by (with_reducible repeat (first | refine b1_ ?_ _ | refine b2_ ?_ | refine b3_ ?_ _)); exact BK236.out) hg (Kd.R_ne HO_3.out BK236.out (by decide))); replace HO248 := m_ (Kd.R_after (ok := (fun _ => True)) (by (with_reducible repeat (first | apply r1_ | apply r2_ | apply r3_)); exact HO248.out) hg hat); replace HB := m_ (hb); have HO251 := m_ (ho); clear HO_3; clear ho hb hg hat))
        go_roundg k1
        case measure => have := HK1.out; omega
        case rel => exact ⟨(y249), (wrap64 (x11_1 + 1)), (by first | rfl | (simp; done) | (simp [*]; done)), H', ⟨by have := HK1.out; omega⟩, ⟨by (with_reducible repeat (first | apply r1_ | apply r2_ | apply r3_)); exact Kd.R_mono HO251.out (fun _ hk => trivial)⟩, ⟨by repeat (with_reducible first | exact HB.out | apply l1_ | apply l2_ | apply l3_ | refine l4_ ?_ GE236.out)⟩⟩
       rw [if_neg c24] at H
       exact absurd H (by simp)
      rw [if_neg c7] at H
      exact absurd H (by simp)
     rw [if_neg c6] at H
     exact absurd H (by simp)
    rw [if_neg c5] at H
    have c5b0 : decide (x11_1 < (l0.length : Int)) = false := decide_eq_false c5
    clear c5
    obtain rfl := Option.some.inj H
    go_wp2
    go_ret
    exact ⟨_, by first | rfl | (simp [errW_none, errW_some] <;> rfl) | (simp [*, errW_none, errW_some] <;> rfl), by (with_reducible repeat (first | apply r1_ | apply r2_ | apply r3_)); exact HO_3.out, by repeat (with_reducible first | exact HB.out | apply l1_ | apply l2_ | apply l3_)⟩
 ·
  replace c3 := Bool.eq_false_iff.mpr c3
  subst c3
  rw [if_neg (show ¬ (false = true) by decide)] at H
  obtain rfl := Option.some.inj H
  go_enter Try.func21, Try.ntmps21
  go_wp2_with (first | ((with_reducible refine gate_callee (f := 35) rfl ?_); refine goesL_ (some 7) rfl rfl Try.func35 (by kernel_rfl) rfl #[.slice A0 l0.length c0] rfl (by (try simp only [List.map_toArray, List.map_cons, List.map_nil]); first | done | rfl | (simp only [List.length_drop, List.length_take]; rfl)) ?_; (with_reducible refine (pattern_allValid.calls k _ _ l0 false _ ?side1 ?side2 A2.out).mono ?_); (case side1 => repeat (first | exact HR0.out | (with_reducible refine Kd.C_alloc ?_ _) | (with_reducible refine Kd.C_drewN ?_ _) | (with_reducible refine Kd.C_drew ?_))); (case side2 => exact HC0.out); rintro e w30 ⟨rfl, hb⟩; refine ⟨_, rfl, ?_⟩; replace HB := m_ (l5_ (by repeat (with_reducible first | exact HB.out | apply l1_ | apply l2_ | apply l3_)) hb); (try clear hb)))
  go_ret
  exact ⟨_, by first | rfl | (simp [errW_none, errW_some] <;> rfl) | (simp [*, errW_none, errW_some] <;> rfl), by first | exact Kd.R_nil _ _ _ _ _ | exact Kd.N_nil _ _ _ _ _ | exact Kd.V_nil _ _ _ _ _ | exact Kd.Q_nil _ _ _ _ _ | exact Kd.S_nil _ _ _ _ _, by repeat (with_reducible first | exact HB.out | apply l1_ | apply l2_ | apply l3_)⟩
end Go.Proofs.Ytbekhjcnmifnnaa.Q
