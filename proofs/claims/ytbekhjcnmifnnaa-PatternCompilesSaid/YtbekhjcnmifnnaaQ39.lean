-- Written by a program of this session's (wip/fork/fprint.py over the kit's print.py). Not trusted: Lean checks it.
import Derived.Test.YtbekhjcnmifnnaaQ0
import Derived.Test.YtbekhjcnmifnnaaQ2
import Derived.Test.YtbekhjcnmifnnaaQ9
import Derived.Test.YtbekhjcnmifnnaaQ24
import Derived.Test.YtbekhjcnmifnnaaQ29
import Derived.Test.YtbekhjcnmifnnaaQ38
namespace Go.Proofs.Ytbekhjcnmifnnaa.Q
open Go.RowKit Go.Proofs.YtbekhjcnmifnnaaW.PrintWords Go.Proofs.YtbekhjcnmifnnaaW.PrintLast Go.Proofs.YtbekhjcnmifnnaaW.PrintMore
attribute [local go_sem] max2_int min2_int max_two min_two max_three min_three max_four min_four   -- for this text's walks alone
set_option linter.unusedVariables false
set_option linter.unusedSimpArgs false

/-! ### jobshelllaw04_PatternCompiles: function 5 -/
def jobshelllaw04_PatternCompiles.f (k : Nat) (l0 : List (S47)) : Option (Bool) := (jobshellref04_Small.f k l0 8 60).bind fun t497 => (if t497 = true then ((pattern_Compile.f k l0).bind fun t499 => ((jobshellref04_Compile.f k l0).bind fun t502 => ((jobshellref04_Same.f k t499 t502).bind fun t505 => (if t505 = true then ((jobshelllaw04_awake.f k).bind fun t506 => (some t506)) else (none))))) else ((jobshelllaw04_awake.f k).bind fun t498 => (some t498)))
theorem jobshelllaw04_PatternCompiles.mono : ∀ a0 k, LeO (jobshelllaw04_PatternCompiles.f k a0) (jobshelllaw04_PatternCompiles.f (k + 1) a0) := by
 intro a0 k
 unfold jobshelllaw04_PatternCompiles.f
 repeat' first
  | (with_reducible exact jobshelllaw04_awake.mono _)
  | (with_reducible exact jobshellref04_Compile.mono _ _)
  | (with_reducible exact jobshellref04_Same.mono _ _ _)
  | (with_reducible exact jobshellref04_Small.mono _ _ _ _)
  | (with_reducible exact pattern_Compile.mono _ _)
  | (with_reducible exact LeO.refl _)
  | (with_reducible exact LeO.none _)
  | (with_reducible refine LeO.ite ?_ ?_)
  | (with_reducible refine LeO.bind ?_ (fun _ => ?_))
  | exact LeO.none _
  | refine LeO.ite ?_ ?_
  | refine LeO.bind ?_ (fun _ => ?_)
set_option maxHeartbeats 8000000 in
set_option maxRecDepth 100000 in
theorem jobshelllaw04_PatternCompiles.calls (k : Nat) (A0 : Option Addr) (c0 : Nat) (l0 : List (S47)) (r : Bool) (w : World) (hr0 : Kd.C k47 w A0 l0.length l0) (hc0 : l0.length ≤ c0) (h : jobshelllaw04_PatternCompiles.f k l0 = some r) :
 Calls Try.prog 5 #[.slice A0 l0.length c0] w fun e w' => e = .returned (.bool r) ∧ Below w.heap.size w w' := by
 have HR0 := m_ hr0
 have HC0 := m_ hc0
 clear hr0 hc0
 have HB := m_ (Below.refl w.heap.size w)
 have H : ((jobshellref04_Small.f k l0 8 60).bind fun t497 => (if t497 = true then ((pattern_Compile.f k l0).bind fun t499 => ((jobshellref04_Compile.f k l0).bind fun t502 => ((jobshellref04_Same.f k t499 t502).bind fun t505 => (if t505 = true then ((jobshelllaw04_awake.f k).bind fun t506 => (some t506)) else (none))))) else ((jobshelllaw04_awake.f k).bind fun t498 => (some t498)))) = some r := h
 clear h
 replace H := Option.bind_eq_some_iff.mp H
 obtain ⟨t497, A20, H⟩ := H
 try dsimp -simprocs only at H
 have A2 := m_ A20
 clear A20
 by_cases c3 : t497 = true
 ·
  subst c3
  rw [if_pos rfl] at H
  replace H := Option.bind_eq_some_iff.mp H
  obtain ⟨t499, A40, H⟩ := H
  try dsimp -simprocs only at H
  have A4 := m_ A40
  clear A40
  replace H := Option.bind_eq_some_iff.mp H
  obtain ⟨t502, A50, H⟩ := H
  try dsimp -simprocs only at H
  have A5 := m_ A50
  clear A50
  replace H := Option.bind_eq_some_iff.mp H
  obtain ⟨t505, A60, H⟩ := H
  try dsimp -simprocs only at H
  have A6 := m_ A60
  clear A60
  by_cases c7 : t505 = true
  ·
   subst c7
   rw [if_pos rfl] at H
   replace H := Option.bind_eq_some_iff.mp H
   obtain ⟨t506, A80, H⟩ := H
   replace H : (some t506) = some r := H
   have A8 := m_ A80
   clear A80
   obtain rfl := Option.some.inj H
   go_enter Try.func5, Try.ntmps5
   go_wp2_with (first | ((with_reducible refine gate_callee (f := 11) rfl ?_); refine goesL_ (some 4) rfl rfl Try.func11 (by kernel_rfl) rfl #[.slice A0 l0.length c0, .int .i64 8, .int .i64 60] rfl (by (try simp only [List.map_toArray, List.map_cons, List.map_nil]); first | done | rfl | (simp only [List.length_drop, List.length_take]; rfl)) ?_; (with_reducible refine (jobshellref04_Small.calls k _ _ l0 8 60 true _ ?side1 ?side2 A2.out).mono ?_); (case side1 => repeat (first | exact HR0.out | (with_reducible refine Kd.C_alloc ?_ _) | (with_reducible refine Kd.C_drewN ?_ _) | (with_reducible refine Kd.C_drew ?_))); (case side2 => exact HC0.out); rintro e w' ⟨rfl, ⟨nd, rfl⟩⟩; refine ⟨_, rfl, ?_⟩) | ((with_reducible refine gate_callee (f := 13) rfl ?_); refine goesL_ (some 8) rfl rfl Try.func13 (by kernel_rfl) rfl #[.slice A0 l0.length c0] rfl (by (try simp only [List.map_toArray, List.map_cons, List.map_nil]); first | done | rfl | (simp only [List.length_drop, List.length_take]; rfl)) ?_; (with_reducible refine (pattern_Compile.calls k _ _ l0 t499 _ ?side1 ?side2 A4.out).mono ?_); (case side1 => repeat (first | exact HR0.out | (with_reducible refine Kd.C_alloc ?_ _) | (with_reducible refine Kd.C_drewN ?_ _) | (with_reducible refine Kd.C_drew ?_))); (case side2 => exact HC0.out); rintro e w9 ⟨v500, rfl, ho0, hb⟩; refine ⟨_, rfl, ?_⟩; have n0_ := m_ (Kd.S_lower ho0 (l6_ (by repeat (first | (with_reducible first | exact HB.out | apply l1_ | apply l2_ | apply l3_) | exact HB.out)))); have n1_ := m_ (l5_ (by repeat (first | (with_reducible first | exact HB.out | apply l1_ | apply l2_ | apply l3_) | exact HB.out)) hb); clear HB; have HO501 := n0_; have HB := n1_; clear n0_ n1_; (try clear hb); (try clear hb2); (try clear hk); (try clear hi); (try clear ho0)) | ((with_reducible refine gate_callee (f := 20) rfl ?_); refine goesL_ (some 10) rfl rfl Try.func20 (by kernel_rfl) rfl #[.slice A0 l0.length c0] rfl (by (try simp only [List.map_toArray, List.map_cons, List.map_nil]); first | done | rfl | (simp only [List.length_drop, List.length_take]; rfl)) ?_; (with_reducible refine (jobshellref04_Compile.calls k _ _ l0 t502 _ ?side1 ?side2 A5.out).mono ?_); (case side1 => repeat (first | exact (Kd.C_below HR0.out HB.out) | (with_reducible refine Kd.C_alloc ?_ _) | (with_reducible refine Kd.C_drewN ?_ _) | (with_reducible refine Kd.C_drew ?_))); (case side2 => exact HC0.out); rintro e w10 ⟨v503, rfl, ho0, hb⟩; refine ⟨_, rfl, ?_⟩; have n0_ := m_ (Kd.S_elder' (by (with_reducible repeat (first | apply s1_ | apply s2_ | apply s3_)); exact HO501.out) (Kd.S_base ho0) hb); have n1_ := m_ (Kd.S_lower (Kd.S_new' ho0 (Kd.S_lt (by (with_reducible repeat (first | apply s1_ | apply s2_ | apply s3_)); exact HO501.out))) (l6_ (by repeat (first | (with_reducible first | exact HB.out | apply l1_ | apply l2_ | apply l3_) | exact HB.out)))); have n2_ := m_ (l5_ (by repeat (first | (with_reducible first | exact HB.out | apply l1_ | apply l2_ | apply l3_) | exact HB.out)) hb); clear HO501; clear HB; have HO501 := n0_; have HO504 := n1_; have HB := n2_; clear n0_ n1_ n2_; (try clear hb); (try clear hb2); (try clear hk); (try clear hi); (try clear ho0); obtain ⟨Ao11, co11, eo11⟩ := Kd.S_slice HO501.out; subst eo11; obtain ⟨Ao12, co12, eo12⟩ := Kd.S_slice HO504.out; subst eo12) | ((with_reducible refine gate_callee (f := 19) rfl ?_); refine goesL_ (some 11) rfl rfl Try.func19 (by kernel_rfl) rfl #[.slice Ao11 t499.length co11, .slice Ao12 t502.length co12] rfl (by (try simp only [List.map_toArray, List.map_cons, List.map_nil]); first | done | rfl | (simp only [List.length_drop, List.length_take]; rfl)) ?_; (with_reducible refine (jobshellref04_Same.calls k _ _ t499 _ _ t502 true _ ?side1 ?side2 ?side3 ?side4 A6.out).mono ?_); (case side1 => repeat (first | exact (Kd.S_reads' HO501.out).2.2 | (with_reducible refine Kd.C_alloc ?_ _) | (with_reducible refine Kd.C_drewN ?_ _) | (with_reducible refine Kd.C_drew ?_))); (case side2 => exact (Kd.S_reads' HO501.out).2.1); (case side3 => repeat (first | exact (Kd.S_reads' HO504.out).2.2 | (with_reducible refine Kd.C_alloc ?_ _) | (with_reducible refine Kd.C_drewN ?_ _) | (with_reducible refine Kd.C_drew ?_))); (case side4 => exact (Kd.S_reads' HO504.out).2.1); rintro e w' ⟨rfl, ⟨nd, rfl⟩⟩; refine ⟨_, rfl, ?_⟩) | (go_at_call 12; (with_reducible refine (jobshelllaw04_awake.calls k  t506 _ A8.out).mono ?_); rintro e w13 ⟨rfl, hb⟩; have n0_ := m_ (Kd.S_below (by (with_reducible repeat (first | apply s1_ | apply s2_ | apply s3_)); exact HO501.out) hb); have n1_ := m_ (Kd.S_below (by (with_reducible repeat (first | apply s1_ | apply s2_ | apply s3_)); exact HO504.out) hb); have n2_ := m_ (l5_ (by repeat (first | (with_reducible first | exact HB.out | apply l1_ | apply l2_ | apply l3_) | exact HB.out)) hb); clear HO501; clear HO504; clear HB; have HO501 := n0_; have HO504 := n1_; have HB := n2_; clear n0_ n1_ n2_; (try clear hb); (try clear hb2); (try clear hk); (try clear hi)))
   go_ret
   exact ⟨by first | rfl | (simp [errW_none, errW_some] <;> rfl) | (simp [*, errW_none, errW_some] <;> rfl), by repeat (first | (with_reducible first | exact HB.out | apply l1_ | apply l2_ | apply l3_) | exact HB.out)⟩
  ·
   replace c7 := Bool.eq_false_iff.mpr c7
   subst c7
   rw [if_neg (show ¬ (false = true) by decide)] at H
   exact absurd H (by simp)
 ·
  replace c3 := Bool.eq_false_iff.mpr c3
  subst c3
  rw [if_neg (show ¬ (false = true) by decide)] at H
  replace H := Option.bind_eq_some_iff.mp H
  obtain ⟨t498, A140, H⟩ := H
  replace H : (some t498) = some r := H
  have A14 := m_ A140
  clear A140
  obtain rfl := Option.some.inj H
  go_enter Try.func5, Try.ntmps5
  go_wp2_with (first | ((with_reducible refine gate_callee (f := 11) rfl ?_); refine goesL_ (some 4) rfl rfl Try.func11 (by kernel_rfl) rfl #[.slice A0 l0.length c0, .int .i64 8, .int .i64 60] rfl (by (try simp only [List.map_toArray, List.map_cons, List.map_nil]); first | done | rfl | (simp only [List.length_drop, List.length_take]; rfl)) ?_; (with_reducible refine (jobshellref04_Small.calls k _ _ l0 8 60 false _ ?side1 ?side2 A2.out).mono ?_); (case side1 => repeat (first | exact HR0.out | (with_reducible refine Kd.C_alloc ?_ _) | (with_reducible refine Kd.C_drewN ?_ _) | (with_reducible refine Kd.C_drew ?_))); (case side2 => exact HC0.out); rintro e w' ⟨rfl, ⟨nd, rfl⟩⟩; refine ⟨_, rfl, ?_⟩) | ((with_reducible refine gate_callee (f := 12) rfl ?_); refine goesL_ (some 6) rfl rfl Try.func12 (by kernel_rfl) rfl #[] rfl (by (try simp only [List.map_toArray, List.map_cons, List.map_nil]); first | done | rfl | (simp only [List.length_drop, List.length_take]; rfl)) ?_; (with_reducible refine (jobshelllaw04_awake.calls k  t498 _ A14.out).mono ?_); rintro e w15 ⟨rfl, hb⟩; refine ⟨_, rfl, ?_⟩; have n0_ := m_ (l5_ (by repeat (first | (with_reducible first | exact HB.out | apply l1_ | apply l2_ | apply l3_) | exact HB.out)) hb); clear HB; have HB := n0_; clear n0_; (try clear hb); (try clear hb2); (try clear hk); (try clear hi)))
  go_ret
  exact ⟨by first | rfl | (simp [errW_none, errW_some] <;> rfl) | (simp [*, errW_none, errW_some] <;> rfl), by repeat (first | (with_reducible first | exact HB.out | apply l1_ | apply l2_ | apply l3_) | exact HB.out)⟩

end Go.Proofs.Ytbekhjcnmifnnaa.Q
