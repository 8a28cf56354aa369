import Derived.Test.YtbekhjcnmifnnaaQ0
import Derived.Test.YtbekhjcnmifnnaaQ9
import Derived.Test.YtbekhjcnmifnnaaQ10
import Derived.Test.YtbekhjcnmifnnaaQ15
import Derived.Test.YtbekhjcnmifnnaaQ17
import Derived.Test.YtbekhjcnmifnnaaQ19
import Derived.Test.YtbekhjcnmifnnaaQ20
import Derived.Test.YtbekhjcnmifnnaaQ21
import Derived.Test.YtbekhjcnmifnnaaQ22
import Derived.Test.YtbekhjcnmifnnaaQ23
set_option linter.unusedVariables false
set_option linter.unusedSimpArgs false
namespace Go.Proofs.Ytbekhjcnmifnnaa.Q
open Go.RowKit Go.Proofs.YtbekhjcnmifnnaaW.PrintWords Go.Proofs.YtbekhjcnmifnnaaW.PrintLast Go.Proofs.YtbekhjcnmifnnaaW.PrintMore
def jobshelllaw04_awake.j0 : Nat → List (S35) → Bool → Option (Bool)
 | 0, _, _ => none
 | k + 1, x1, x76 => if x76 = true then (none) else ((pattern_Match.f k x1 (⟨#[97, 49, 98]⟩ : ByteArray)).bind fun t298 => (if t298 = true then ((pattern_Match.f k x1 (⟨#[97, 49]⟩ : ByteArray)).bind fun t299 => (if t299 = true then (none) else ((jobshelllaw04_lit.f (⟨#[91, 97, 93]⟩ : ByteArray)).bind fun t300 => ((pattern_Special.f k t300).bind fun t303 => (if t303 = true then ((jobshelllaw04_lit.f (⟨#[91, 97]⟩ : ByteArray)).bind fun t304 => ((pattern_Special.f k t304).bind fun t307 => (if t307 = true then (none) else ((pattern_Runs.f k x1).bind fun t308 => (some (decide ((t308.length : Int) > 0))))))) else (none)))))) else (none)))
def jobshelllaw04_awake.f (k : Nat)  : Option (Bool) := (jobshelllaw04_lit.f (⟨#[97, 42, 91, 33, 48, 45, 57, 93]⟩ : ByteArray)).bind fun t265 => ((pattern_Compile.f k t265).bind fun t268 => ((jobshelllaw04_lit.f (⟨#[97, 42]⟩ : ByteArray)).bind fun t271 => ((pattern_Compile.f k t271).bind fun t274 => ((pattern_Prefix.f k t274 (⟨#[97, 98, 99]⟩ : ByteArray) true).bind fun bt277 => ((jobshelllaw04_lit.f (⟨#[42, 99]⟩ : ByteArray)).bind fun t279 => ((pattern_Compile.f k t279).bind fun t282 => ((pattern_Suffix.f k t282 (⟨#[97, 98, 99]⟩ : ByteArray) false).bind fun bt285 => ((jobshelllaw04_quoted.f (⟨#[97, 42]⟩ : ByteArray)).bind fun t287 => ((pattern_Compile.f k t287).bind fun t290 => ((pattern_Literal.f k t290).bind fun bt293 => (if (t268.length : Int) = 3 then (if 2 < (t268.length : Int) then (if ((rd_T35 t268 2).f0) = 4 then (if ((rd_T35 t268 2).f2 = true) then (if (((rd_T35 t268 2).f3).length : Int) = 1 then (if bt277.1 = 3 then (if bt277.2 = true then (if bt285.1 = 1 then (if bt285.2 = true then (if bt293.1.toList = ([97, 42] : List UInt8) then (jobshelllaw04_awake.j0 k t268 (!bt293.2)) else (none)) else (none)) else (none)) else (none)) else (none)) else (none)) else (none)) else (none)) else (none)) else (none))))))))))))
theorem jobshelllaw04_awake.mono_l : ∀ k, (∀ y0 y1, LeO (jobshelllaw04_awake.j0 k y0 y1) (jobshelllaw04_awake.j0 (k + 1) y0 y1))
 | 0 => fun _ _ r h => by simp [jobshelllaw04_awake.j0] at h
 | k + 1 => by
  have ih0 := jobshelllaw04_awake.mono_l k
  ·
   intro y0 y1
   unfold jobshelllaw04_awake.j0
   repeat' first
   | (with_reducible exact ih0 _ _)
   | (with_reducible exact pattern_Compile.mono _ _)
   | (with_reducible exact pattern_Literal.mono _ _)
   | (with_reducible exact pattern_Match.mono _ _ _)
   | (with_reducible exact pattern_Prefix.mono _ _ _ _)
   | (with_reducible exact pattern_Runs.mono _ _)
   | (with_reducible exact pattern_Special.mono _ _)
   | (with_reducible exact pattern_Suffix.mono _ _ _ _)
   | (with_reducible exact LeO.refl _)
   | (with_reducible exact LeO.none _)
   | (with_reducible refine LeO.ite ?_ ?_)
   | (with_reducible refine LeO.bind ?_ (fun _ => ?_))
theorem jobshelllaw04_awake.mono : ∀ k, LeO (jobshelllaw04_awake.f k ) (jobshelllaw04_awake.f (k + 1) ) := by
 intro  k
 have ih0 := jobshelllaw04_awake.mono_l k
 unfold jobshelllaw04_awake.f
 repeat' first
  | (with_reducible exact ih0 _ _)
  | (with_reducible exact pattern_Compile.mono _ _)
  | (with_reducible exact pattern_Literal.mono _ _)
  | (with_reducible exact pattern_Match.mono _ _ _)
  | (with_reducible exact pattern_Prefix.mono _ _ _ _)
  | (with_reducible exact pattern_Runs.mono _ _)
  | (with_reducible exact pattern_Special.mono _ _)
  | (with_reducible exact pattern_Suffix.mono _ _ _ _)
  | (with_reducible exact LeO.refl _)
  | (with_reducible exact LeO.none _)
  | (with_reducible refine LeO.ite ?_ ?_)
  | (with_reducible refine LeO.bind ?_ (fun _ => ?_))
set_option maxHeartbeats 8000000 in
set_option maxRecDepth 100000 in
theorem jobshelllaw04_awake.calls (k : Nat)  (r : Bool) (w : World) (h : jobshelllaw04_awake.f k  = some r) :
 Calls Try.prog 12 #[] w fun e w' => e = .returned (.bool r) ∧ Below w.heap.size w w' := by
 have HB := m_ (Below.refl w.heap.size w)
 have H : ((jobshelllaw04_lit.f (⟨#[97, 42, 91, 33, 48, 45, 57, 93]⟩ : ByteArray)).bind fun t265 => ((pattern_Compile.f k t265).bind fun t268 => ((jobshelllaw04_lit.f (⟨#[97, 42]⟩ : ByteArray)).bind fun t271 => ((pattern_Compile.f k t271).bind fun t274 => ((pattern_Prefix.f k t274 (⟨#[97, 98, 99]⟩ : ByteArray) true).bind fun bt277 => ((jobshelllaw04_lit.f (⟨#[42, 99]⟩ : ByteArray)).bind fun t279 => ((pattern_Compile.f k t279).bind fun t282 => ((pattern_Suffix.f k t282 (⟨#[97, 98, 99]⟩ : ByteArray) false).bind fun bt285 => ((jobshelllaw04_quoted.f (⟨#[97, 42]⟩ : ByteArray)).bind fun t287 => ((pattern_Compile.f k t287).bind fun t290 => ((pattern_Literal.f k t290).bind fun bt293 => (if (t268.length : Int) = 3 then (if 2 < (t268.length : Int) then (if ((rd_T35 t268 2).f0) = 4 then (if ((rd_T35 t268 2).f2 = true) then (if (((rd_T35 t268 2).f3).length : Int) = 1 then (if bt277.1 = 3 then (if bt277.2 = true then (if bt285.1 = 1 then (if bt285.2 = true then (if bt293.1.toList = ([97, 42] : List UInt8) then (jobshelllaw04_awake.j0 k t268 (!bt293.2)) else (none)) else (none)) else (none)) else (none)) else (none)) else (none)) else (none)) else (none)) else (none)) else (none))))))))))))) = some r := h
 clear h
 replace H := Option.bind_eq_some_iff.mp H
 obtain ⟨t265, A10, H⟩ := H
 try dsimp -simprocs only at H
 have A1 := m_ A10
 clear A10
 replace H := Option.bind_eq_some_iff.mp H
 obtain ⟨t268, A20, H⟩ := H
 try dsimp -simprocs only at H
 have A2 := m_ A20
 clear A20
 replace H := Option.bind_eq_some_iff.mp H
 obtain ⟨t271, A30, H⟩ := H
 try dsimp -simprocs only at H
 have A3 := m_ A30
 clear A30
 replace H := Option.bind_eq_some_iff.mp H
 obtain ⟨t274, A40, H⟩ := H
 try dsimp -simprocs only at H
 have A4 := m_ A40
 clear A40
 replace H := Option.bind_eq_some_iff.mp H
 obtain ⟨⟨t277, t278⟩, A50, H⟩ := H
 try dsimp -simprocs only at H
 have A5 := m_ A50
 clear A50
 replace H := Option.bind_eq_some_iff.mp H
 obtain ⟨t279, A60, H⟩ := H
 try dsimp -simprocs only at H
 have A6 := m_ A60
 clear A60
 replace H := Option.bind_eq_some_iff.mp H
 obtain ⟨t282, A70, H⟩ := H
 try dsimp -simprocs only at H
 have A7 := m_ A70
 clear A70
 replace H := Option.bind_eq_some_iff.mp H
 obtain ⟨⟨t285, t286⟩, A80, H⟩ := H
 try dsimp -simprocs only at H
 have A8 := m_ A80
 clear A80
 replace H := Option.bind_eq_some_iff.mp H
 obtain ⟨t287, A90, H⟩ := H
 try dsimp -simprocs only at H
 have A9 := m_ A90
 clear A90
 replace H := Option.bind_eq_some_iff.mp H
 obtain ⟨t290, A100, H⟩ := H
 try dsimp -simprocs only at H
 have A10 := m_ A100
 clear A100
 replace H := Option.bind_eq_some_iff.mp H
 obtain ⟨⟨t293, t294⟩, A110, H⟩ := H
 try dsimp -simprocs only at H
 have A11 := m_ A110
 clear A110
 have HC12 := m_ H
 clear H
 go_enter Try.func12, Try.ntmps12
 go_upto_region 5 with (first | ((with_reducible refine gate_callee (f := 31) rfl ?_); refine goesL_ (some 8) rfl rfl Try.func31 (by kernel_rfl) rfl #[.string (⟨#[97, 42, 91, 33, 48, 45, 57, 93]⟩ : ByteArray)] rfl (by (try simp only [List.map_toArray, List.map_cons, List.map_nil]); first | done | rfl | (simp only [List.length_drop, List.length_take]; rfl)) ?_; (with_reducible refine (jobshelllaw04_lit.calls (⟨#[97, 42, 91, 33, 48, 45, 57, 93]⟩ : ByteArray) t265 _ A1.out).mono ?_); rintro e w13 ⟨v266, rfl, ho0, hb⟩; refine ⟨_, rfl, ?_⟩; have HO267 := m_ (Kd.R_lower ho0 (l6_ (by repeat (with_reducible first | exact HB.out | apply l1_ | apply l2_ | apply l3_)))); replace HB := m_ (l5_ (by repeat (with_reducible first | exact HB.out | apply l1_ | apply l2_ | apply l3_)) hb); (try clear hb); (try clear ho0); obtain ⟨Ao14, co14, eo14⟩ := Kd.R_slice HO267.out; subst eo14) | ((with_reducible refine gate_callee (f := 13) rfl ?_); refine goesL_ (some 9) rfl rfl Try.func13 (by kernel_rfl) rfl #[.slice Ao14 t265.length co14] rfl (by (try simp only [List.map_toArray, List.map_cons, List.map_nil]); first | done | rfl | (simp only [List.length_drop, List.length_take]; rfl)) ?_; (with_reducible refine (pattern_Compile.calls k _ _ t265 t268 _ ?side1 ?side2 A2.out).mono ?_); (case side1 => repeat (first | exact (Kd.R_reads' HO267.out).2.2 | (with_reducible refine Kd.C_alloc ?_ _) | (with_reducible refine Kd.C_drewN ?_ _) | (with_reducible refine Kd.C_drew ?_))); (case side2 => exact (Kd.R_reads' HO267.out).2.1); rintro e w15 ⟨v269, rfl, ho0, hb⟩; refine ⟨_, rfl, ?_⟩; replace HO267 := m_ (Kd.R_below (by (with_reducible repeat (first | apply r1_ | apply r2_ | apply r3_)); exact HO267.out) hb); have HO270 := m_ (Kd.S_lower ho0 (l6_ (by repeat (with_reducible first | exact HB.out | apply l1_ | apply l2_ | apply l3_)))); replace HB := m_ (l5_ (by repeat (with_reducible first | exact HB.out | apply l1_ | apply l2_ | apply l3_)) hb); (try clear hb); (try clear ho0)) | ((with_reducible refine gate_callee (f := 31) rfl ?_); refine goesL_ (some 11) rfl rfl Try.func31 (by kernel_rfl) rfl #[.string (⟨#[97, 42]⟩ : ByteArray)] rfl (by (try simp only [List.map_toArray, List.map_cons, List.map_nil]); first | done | rfl | (simp only [List.length_drop, List.length_take]; rfl)) ?_; (with_reducible refine (jobshelllaw04_lit.calls (⟨#[97, 42]⟩ : ByteArray) t271 _ A3.out).mono ?_); rintro e w16 ⟨v272, rfl, ho0, hb⟩; refine ⟨_, rfl, ?_⟩; replace HO270 := m_ (Kd.S_below (by (with_reducible repeat (first | apply s1_ | apply s2_ | apply s3_)); exact HO270.out) hb); have HO273 := m_ (Kd.R_lower (Kd.R_new' ho0 (Kd.R_lt (by (with_reducible repeat (first | apply r1_ | apply r2_ | apply r3_)); exact HO267.out))) (l6_ (by repeat (with_reducible first | exact HB.out | apply l1_ | apply l2_ | apply l3_)))); replace HO267 := m_ (Kd.R_elder' (by (with_reducible repeat (first | apply r1_ | apply r2_ | apply r3_)); exact HO267.out) (Kd.R_base ho0) hb); replace HB := m_ (l5_ (by repeat (with_reducible first | exact HB.out | apply l1_ | apply l2_ | apply l3_)) hb); (try clear hb); (try clear ho0); obtain ⟨Ao17, co17, eo17⟩ := Kd.R_slice HO273.out; subst eo17) | ((with_reducible refine gate_callee (f := 13) rfl ?_); refine goesL_ (some 12) rfl rfl Try.func13 (by kernel_rfl) rfl #[.slice Ao17 t271.length co17] rfl (by (try simp only [List.map_toArray, List.map_cons, List.map_nil]); first | done | rfl | (simp only [List.length_drop, List.length_take]; rfl)) ?_; (with_reducible refine (pattern_Compile.calls k _ _ t271 t274 _ ?side1 ?side2 A4.out).mono ?_); (case side1 => repeat (first | exact (Kd.R_reads' HO273.out).2.2 | (with_reducible refine Kd.C_alloc ?_ _) | (with_reducible refine Kd.C_drewN ?_ _) | (with_reducible refine Kd.C_drew ?_))); (case side2 => exact (Kd.R_reads' HO273.out).2.1); rintro e w18 ⟨v275, rfl, ho0, hb⟩; refine ⟨_, rfl, ?_⟩; replace HO267 := m_ (Kd.R_below (by (with_reducible repeat (first | apply r1_ | apply r2_ | apply r3_)); exact HO267.out) hb); replace HO273 := m_ (Kd.R_below (by (with_reducible repeat (first | apply r1_ | apply r2_ | apply r3_)); exact HO273.out) hb); have HO276 := m_ (Kd.S_lower (Kd.S_new' ho0 (Kd.S_lt (by (with_reducible repeat (first | apply s1_ | apply s2_ | apply s3_)); exact HO270.out))) (l6_ (by repeat (with_reducible first | exact HB.out | apply l1_ | apply l2_ | apply l3_)))); replace HO270 := m_ (Kd.S_elder' (by (with_reducible repeat (first | apply s1_ | apply s2_ | apply s3_)); exact HO270.out) (Kd.S_base ho0) hb); replace HB := m_ (l5_ (by repeat (with_reducible first | exact HB.out | apply l1_ | apply l2_ | apply l3_)) hb); (try clear hb); (try clear ho0); obtain ⟨Ao19, co19, eo19⟩ := Kd.S_slice HO276.out; subst eo19) | ((with_reducible refine gate_callee (f := 17) rfl ?_); refine goesL_ (some 13) rfl rfl Try.func17 (by kernel_rfl) rfl #[.slice Ao19 t274.length co19, .string (⟨#[97, 98, 99]⟩ : ByteArray), .bool true] rfl (by (try simp only [List.map_toArray, List.map_cons, List.map_nil]); first | done | rfl | (simp only [List.length_drop, List.length_take]; rfl)) ?_; (with_reducible refine (pattern_Prefix.calls k _ _ t274 (⟨#[97, 98, 99]⟩ : ByteArray) true t277 t278 _ ?side1 ?side2 A5.out).mono ?_); (case side1 => repeat (first | exact (Kd.S_reads' HO276.out).2.2 | (with_reducible refine Kd.C_alloc ?_ _) | (with_reducible refine Kd.C_drewN ?_ _) | (with_reducible refine Kd.C_drew ?_))); (case side2 => exact (Kd.S_reads' HO276.out).2.1); rintro e w20 ⟨rfl, hb⟩; refine ⟨_, rfl, ?_⟩; replace HO267 := m_ (Kd.R_below (by (with_reducible repeat (first | apply r1_ | apply r2_ | apply r3_)); exact HO267.out) hb); replace HO270 := m_ (Kd.S_below (by (with_reducible repeat (first | apply s1_ | apply s2_ | apply s3_)); exact HO270.out) hb); replace HO273 := m_ (Kd.R_below (by (with_reducible repeat (first | apply r1_ | apply r2_ | apply r3_)); exact HO273.out) hb); replace HO276 := m_ (Kd.S_below (by (with_reducible repeat (first | apply s1_ | apply s2_ | apply s3_)); exact HO276.out) hb); replace HB := m_ (l5_ (by repeat (with_reducible first | exact HB.out | apply l1_ | apply l2_ | apply l3_)) hb); (try clear hb)) | ((with_reducible refine gate_callee (f := 31) rfl ?_); refine goesL_ (some 17) rfl rfl Try.func31 (by kernel_rfl) rfl #[.string (⟨#[42, 99]⟩ : ByteArray)] rfl (by (try simp only [List.map_toArray, List.map_cons, List.map_nil]); first | done | rfl | (simp only [List.length_drop, List.length_take]; rfl)) ?_; (with_reducible refine (jobshelllaw04_lit.calls (⟨#[42, 99]⟩ : ByteArray) t279 _ A6.out).mono ?_); rintro e w21 ⟨v280, rfl, ho0, hb⟩; refine ⟨_, rfl, ?_⟩; replace HO270 := m_ (Kd.S_below (by (with_reducible repeat (first | apply s1_ | apply s2_ | apply s3_)); exact HO270.out) hb); replace HO276 := m_ (Kd.S_below (by (with_reducible repeat (first | apply s1_ | apply s2_ | apply s3_)); exact HO276.out) hb); have HO281 := m_ (Kd.R_lower (Kd.R_new' (Kd.R_new' ho0 (Kd.R_lt (by (with_reducible repeat (first | apply r1_ | apply r2_ | apply r3_)); exact HO267.out))) (Kd.R_lt (by (with_reducible repeat (first | apply r1_ | apply r2_ | apply r3_)); exact HO273.out))) (l6_ (by repeat (with_reducible first | exact HB.out | apply l1_ | apply l2_ | apply l3_)))); replace HO267 := m_ (Kd.R_elder' (by (with_reducible repeat (first | apply r1_ | apply r2_ | apply r3_)); exact HO267.out) (Kd.R_base ho0) hb); replace HO273 := m_ (Kd.R_elder' (by (with_reducible repeat (first | apply r1_ | apply r2_ | apply r3_)); exact HO273.out) (Kd.R_base ho0) hb); replace HB := m_ (l5_ (by repeat (with_reducible first | exact HB.out | apply l1_ | apply l2_ | apply l3_)) hb); (try clear hb); (try clear ho0); obtain ⟨Ao22, co22, eo22⟩ := Kd.R_slice HO281.out; subst eo22) | ((with_reducible refine gate_callee (f := 13) rfl ?_); refine goesL_ (some 18) rfl rfl Try.func13 (by kernel_rfl) rfl #[.slice Ao22 t279.length co22] rfl (by (try simp only [List.map_toArray, List.map_cons, List.map_nil]); first | done | rfl | (simp only [List.length_drop, List.length_take]; rfl)) ?_; (with_reducible refine (pattern_Compile.calls k _ _ t279 t282 _ ?side1 ?side2 A7.out).mono ?_); (case side1 => repeat (first | exact (Kd.R_reads' HO281.out).2.2 | (with_reducible refine Kd.C_alloc ?_ _) | (with_reducible refine Kd.C_drewN ?_ _) | (with_reducible refine Kd.C_drew ?_))); (case side2 => exact (Kd.R_reads' HO281.out).2.1); rintro e w23 ⟨v283, rfl, ho0, hb⟩; refine ⟨_, rfl, ?_⟩; replace HO267 := m_ (Kd.R_below (by (with_reducible repeat (first | apply r1_ | apply r2_ | apply r3_)); exact HO267.out) hb); replace HO273 := m_ (Kd.R_below (by (with_reducible repeat (first | apply r1_ | apply r2_ | apply r3_)); exact HO273.out) hb); replace HO281 := m_ (Kd.R_below (by (with_reducible repeat (first | apply r1_ | apply r2_ | apply r3_)); exact HO281.out) hb); have HO284 := m_ (Kd.S_lower (Kd.S_new' (Kd.S_new' ho0 (Kd.S_lt (by (with_reducible repeat (first | apply s1_ | apply s2_ | apply s3_)); exact HO270.out))) (Kd.S_lt (by (with_reducible repeat (first | apply s1_ | apply s2_ | apply s3_)); exact HO276.out))) (l6_ (by repeat (with_reducible first | exact HB.out | apply l1_ | apply l2_ | apply l3_)))); replace HO270 := m_ (Kd.S_elder' (by (with_reducible repeat (first | apply s1_ | apply s2_ | apply s3_)); exact HO270.out) (Kd.S_base ho0) hb); replace HO276 := m_ (Kd.S_elder' (by (with_reducible repeat (first | apply s1_ | apply s2_ | apply s3_)); exact HO276.out) (Kd.S_base ho0) hb); replace HB := m_ (l5_ (by repeat (with_reducible first | exact HB.out | apply l1_ | apply l2_ | apply l3_)) hb); (try clear hb); (try clear ho0); obtain ⟨Ao24, co24, eo24⟩ := Kd.S_slice HO284.out; subst eo24) | ((with_reducible refine gate_callee (f := 25) rfl ?_); refine goesL_ (some 19) rfl rfl Try.func25 (by kernel_rfl) rfl #[.slice Ao24 t282.length co24, .string (⟨#[97, 98, 99]⟩ : ByteArray), .bool false] rfl (by (try simp only [List.map_toArray, List.map_cons, List.map_nil]); first | done | rfl | (simp only [List.length_drop, List.length_take]; rfl)) ?_; (with_reducible refine (pattern_Suffix.calls k _ _ t282 (⟨#[97, 98, 99]⟩ : ByteArray) false t285 t286 _ ?side1 ?side2 A8.out).mono ?_); (case side1 => repeat (first | exact (Kd.S_reads' HO284.out).2.2 | (with_reducible refine Kd.C_alloc ?_ _) | (with_reducible refine Kd.C_drewN ?_ _) | (with_reducible refine Kd.C_drew ?_))); (case side2 => exact (Kd.S_reads' HO284.out).2.1); rintro e w25 ⟨rfl, hb⟩; refine ⟨_, rfl, ?_⟩; replace HO267 := m_ (Kd.R_below (by (with_reducible repeat (first | apply r1_ | apply r2_ | apply r3_)); exact HO267.out) hb); replace HO270 := m_ (Kd.S_below (by (with_reducible repeat (first | apply s1_ | apply s2_ | apply s3_)); exact HO270.out) hb); replace HO273 := m_ (Kd.R_below (by (with_reducible repeat (first | apply r1_ | apply r2_ | apply r3_)); exact HO273.out) hb); replace HO276 := m_ (Kd.S_below (by (with_reducible repeat (first | apply s1_ | apply s2_ | apply s3_)); exact HO276.out) hb); replace HO281 := m_ (Kd.R_below (by (with_reducible repeat (first | apply r1_ | apply r2_ | apply r3_)); exact HO281.out) hb); replace HO284 := m_ (Kd.S_below (by (with_reducible repeat (first | apply s1_ | apply s2_ | apply s3_)); exact HO284.out) hb); replace HB := m_ (l5_ (by repeat (with_reducible first | exact HB.out | apply l1_ | apply l2_ | apply l3_)) hb); (try clear hb)) | ((with_reducible refine gate_callee (f := 14) rfl ?_); refine goesL_ (some 23) rfl rfl Try.func14 (by kernel_rfl) rfl #[.string (⟨#[97, 42]⟩ : ByteArray)] rfl (by (try simp only [List.map_toArray, List.map_cons, List.map_nil]); first | done | rfl | (simp only [List.length_drop, List.length_take]; rfl)) ?_; (with_reducible refine (jobshelllaw04_quoted.calls (⟨#[97, 42]⟩ : ByteArray) t287 _ A9.out).mono ?_); rintro e w26 ⟨v288, rfl, ho0, hb⟩; refine ⟨_, rfl, ?_⟩; replace HO270 := m_ (Kd.S_below (by (with_reducible repeat (first | apply s1_ | apply s2_ | apply s3_)); exact HO270.out) hb); replace HO276 := m_ (Kd.S_below (by (with_reducible repeat (first | apply s1_ | apply s2_ | apply s3_)); exact HO276.out) hb); replace HO284 := m_ (Kd.S_below (by (with_reducible repeat (first | apply s1_ | apply s2_ | apply s3_)); exact HO284.out) hb); have HO289 := m_ (Kd.R_lower (Kd.R_new' (Kd.R_new' (Kd.R_new' ho0 (Kd.R_lt (by (with_reducible repeat (first | apply r1_ | apply r2_ | apply r3_)); exact HO267.out))) (Kd.R_lt (by (with_reducible repeat (first | apply r1_ | apply r2_ | apply r3_)); exact HO273.out))) (Kd.R_lt (by (with_reducible repeat (first | apply r1_ | apply r2_ | apply r3_)); exact HO281.out))) (l6_ (by repeat (with_reducible first | exact HB.out | apply l1_ | apply l2_ | apply l3_)))); replace HO267 := m_ (Kd.R_elder' (by (with_reducible repeat (first | apply r1_ | apply r2_ | apply r3_)); exact HO267.out) (Kd.R_base ho0) hb); replace HO273 := m_ (Kd.R_elder' (by (with_reducible repeat (first | apply r1_ | apply r2_ | apply r3_)); exact HO273.out) (Kd.R_base ho0) hb); replace HO281 := m_ (Kd.R_elder' (by (with_reducible repeat (first | apply r1_ | apply r2_ | apply r3_)); exact HO281.out) (Kd.R_base ho0) hb); replace HB := m_ (l5_ (by repeat (with_reducible first | exact HB.out | apply l1_ | apply l2_ | apply l3_)) hb); (try clear hb); (try clear ho0); obtain ⟨Ao27, co27, eo27⟩ := Kd.R_slice HO289.out; subst eo27) | ((with_reducible refine gate_callee (f := 13) rfl ?_); refine goesL_ (some 24) rfl rfl Try.func13 (by kernel_rfl) rfl #[.slice Ao27 t287.length co27] rfl (by (try simp only [List.map_toArray, List.map_cons, List.map_nil]); first | done | rfl | (simp only [List.length_drop, List.length_take]; rfl)) ?_; (with_reducible refine (pattern_Compile.calls k _ _ t287 t290 _ ?side1 ?side2 A10.out).mono ?_); (case side1 => repeat (first | exact (Kd.R_reads' HO289.out).2.2 | (with_reducible refine Kd.C_alloc ?_ _) | (with_reducible refine Kd.C_drewN ?_ _) | (with_reducible refine Kd.C_drew ?_))); (case side2 => exact (Kd.R_reads' HO289.out).2.1); rintro e w28 ⟨v291, rfl, ho0, hb⟩; refine ⟨_, rfl, ?_⟩; replace HO267 := m_ (Kd.R_below (by (with_reducible repeat (first | apply r1_ | apply r2_ | apply r3_)); exact HO267.out) hb); replace HO273 := m_ (Kd.R_below (by (with_reducible repeat (first | apply r1_ | apply r2_ | apply r3_)); exact HO273.out) hb); replace HO281 := m_ (Kd.R_below (by (with_reducible repeat (first | apply r1_ | apply r2_ | apply r3_)); exact HO281.out) hb); replace HO289 := m_ (Kd.R_below (by (with_reducible repeat (first | apply r1_ | apply r2_ | apply r3_)); exact HO289.out) hb); have HO292 := m_ (Kd.S_lower (Kd.S_new' (Kd.S_new' (Kd.S_new' ho0 (Kd.S_lt (by (with_reducible repeat (first | apply s1_ | apply s2_ | apply s3_)); exact HO270.out))) (Kd.S_lt (by (with_reducible repeat (first | apply s1_ | apply s2_ | apply s3_)); exact HO276.out))) (Kd.S_lt (by (with_reducible repeat (first | apply s1_ | apply s2_ | apply s3_)); exact HO284.out))) (l6_ (by repeat (with_reducible first | exact HB.out | apply l1_ | apply l2_ | apply l3_)))); replace HO270 := m_ (Kd.S_elder' (by (with_reducible repeat (first | apply s1_ | apply s2_ | apply s3_)); exact HO270.out) (Kd.S_base ho0) hb); replace HO276 := m_ (Kd.S_elder' (by (with_reducible repeat (first | apply s1_ | apply s2_ | apply s3_)); exact HO276.out) (Kd.S_base ho0) hb); replace HO284 := m_ (Kd.S_elder' (by (with_reducible repeat (first | apply s1_ | apply s2_ | apply s3_)); exact HO284.out) (Kd.S_base ho0) hb); replace HB := m_ (l5_ (by repeat (with_reducible first | exact HB.out | apply l1_ | apply l2_ | apply l3_)) hb); (try clear hb); (try clear ho0); obtain ⟨Ao29, co29, eo29⟩ := Kd.S_slice HO292.out; subst eo29) | ((with_reducible refine gate_callee (f := 27) rfl ?_); refine goesL_ (some 25) rfl rfl Try.func27 (by kernel_rfl) rfl #[.slice Ao29 t290.length co29] rfl (by (try simp only [List.map_toArray, List.map_cons, List.map_nil]); first | done | rfl | (simp only [List.length_drop, List.length_take]; rfl)) ?_; (with_reducible refine (pattern_Literal.calls k _ _ t290 t293 t294 _ ?side1 ?side2 A11.out).mono ?_); (case side1 => repeat (first | exact (Kd.S_reads' HO292.out).2.2 | (with_reducible refine Kd.C_alloc ?_ _) | (with_reducible refine Kd.C_drewN ?_ _) | (with_reducible refine Kd.C_drew ?_))); (case side2 => exact (Kd.S_reads' HO292.out).2.1); rintro e w30 ⟨rfl, hb⟩; refine ⟨_, rfl, ?_⟩; replace HO267 := m_ (Kd.R_below (by (with_reducible repeat (first | apply r1_ | apply r2_ | apply r3_)); exact HO267.out) hb); replace HO270 := m_ (Kd.S_below (by (with_reducible repeat (first | apply s1_ | apply s2_ | apply s3_)); exact HO270.out) hb); replace HO273 := m_ (Kd.R_below (by (with_reducible repeat (first | apply r1_ | apply r2_ | apply r3_)); exact HO273.out) hb); replace HO276 := m_ (Kd.S_below (by (with_reducible repeat (first | apply s1_ | apply s2_ | apply s3_)); exact HO276.out) hb); replace HO281 := m_ (Kd.R_below (by (with_reducible repeat (first | apply r1_ | apply r2_ | apply r3_)); exact HO281.out) hb); replace HO284 := m_ (Kd.S_below (by (with_reducible repeat (first | apply s1_ | apply s2_ | apply s3_)); exact HO284.out) hb); replace HO289 := m_ (Kd.R_below (by (with_reducible repeat (first | apply r1_ | apply r2_ | apply r3_)); exact HO289.out) hb); replace HO292 := m_ (Kd.S_below (by (with_reducible repeat (first | apply s1_ | apply s2_ | apply s3_)); exact HO292.out) hb); replace HB := m_ (l5_ (by repeat (with_reducible first | exact HB.out | apply l1_ | apply l2_ | apply l3_)) hb); (try clear hb)))
 (try simp only [Act.put, List.setIfInBounds_toArray, List.set_cons_zero, List.set_cons_succ])
 go_cut [76] (fun v76 wc => ∃ (kq : Nat) (x76_11 : Bool), v76 = .bool x76_11 ∧ Aside0 (jobshelllaw04_awake.j0 kq t268 x76_11 = some r) ∧ Aside0 (kq ≤ k) ∧ Aside0 (Kd.S k35 35 wc w.heap.size (fun _ => True) v269 t268) ∧ Aside0 (Below w.heap.size w wc))
 case first =>
  have H := HC12.out
  clear HC12
  by_cases c31 : (t268.length : Int) = 3
  ·
   rw [if_pos c31] at H
   have c31b0 : ((t268.length : Int) == 3) = true := beq_iff_eq.mpr c31
   have c31b1 : ((t268.length : Int) != 3) = false := bne_eq_false_iff_eq.mpr c31
   clear c31
   (first | rw [c31b0] | (simp only [i64_w, i32_w]; rw [c31b0]) | skip)
   by_cases c32 : 2 < (t268.length : Int)
   ·
    rw [if_pos c32] at H
    have c32b0 : decide (2 < (t268.length : Int)) = true := decide_eq_true c32
    have c32b1 : decide (2 < t268.length) = true := decide_eq_true (by omega)
    clear c32
    by_cases c33 : ((rd_T35 t268 2).f0) = 4
    ·
     rw [if_pos c33] at H
     have c33b0 : (((rd_T35 t268 2).f0) == 4) = true := beq_iff_eq.mpr c33
     have c33b1 : (((rd_T35 t268 2).f0) != 4) = false := bne_eq_false_iff_eq.mpr c33
     clear c33
     obtain ⟨bq34, hbq34⟩ : ∃ b_ : Bool, b_ = ((rd_T35 t268 2).f2) := ⟨_, rfl⟩
     replace H : (if (bq34 = true) then (if (((rd_T35 t268 2).f3).length : Int) = 1 then (if t277 = 3 then (if t278 = true then (if t285 = 1 then (if t286 = true then (if t293.toList = ([97, 42] : List UInt8) then (jobshelllaw04_awake.j0 k t268 (!t294)) else (none)) else (none)) else (none)) else (none)) else (none)) else (none)) else (none)) = some r := by rw [← hbq34] at H; exact H
     have Nbq34 := m_ hbq34
     clear hbq34
     by_cases c35 : (bq34 = true)
     ·
      subst c35
      rw [if_pos rfl] at H
      by_cases c36 : (((rd_T35 t268 2).f3).length : Int) = 1
      ·
       rw [if_pos c36] at H
       have c36b0 : ((((rd_T35 t268 2).f3).length : Int) == 1) = true := beq_iff_eq.mpr c36
       have c36b1 : ((((rd_T35 t268 2).f3).length : Int) != 1) = false := bne_eq_false_iff_eq.mpr c36
       clear c36
       by_cases c37 : t277 = 3
       ·
        rw [if_pos c37] at H
        have c37b0 : (t277 == 3) = true := beq_iff_eq.mpr c37
        have c37b1 : (t277 != 3) = false := bne_eq_false_iff_eq.mpr c37
        clear c37
        by_cases c38 : t278 = true
        ·
         subst c38
         rw [if_pos rfl] at H
         by_cases c39 : t285 = 1
         ·
          rw [if_pos c39] at H
          have c39b0 : (t285 == 1) = true := beq_iff_eq.mpr c39
          have c39b1 : (t285 != 1) = false := bne_eq_false_iff_eq.mpr c39
          clear c39
          by_cases c40 : t286 = true
          ·
           subst c40
           rw [if_pos rfl] at H
           by_cases c41 : t293.toList = ([97, 42] : List UInt8)
           ·
            rw [if_pos c41] at H
            have c41b0 : (t293.toList == ([97, 42] : List UInt8)) = true := beq_iff_eq.mpr c41
            have c41b1 : (t293.toList != ([97, 42] : List UInt8)) = false := bne_eq_false_iff_eq.mpr c41
            clear c41
            have H' := m_ H
            clear H
            obtain ⟨Ao42, co42, eo42⟩ := Kd.S_slice HO270.out
            subst eo42
            have p295 : 0 ≤ (2 : Int) := (by omega)
            have q295 : 2 < (t268.length : Int) := o1_ (by with_reducible assumption)
            obtain ⟨ad295, A295_3, c295_3, e295, hx295_0, hx295_1, hx295_2, hx295_3, hl295_3, hi295_3⟩ := at_T35 (Kd.S_reads' HO270.out).2.2 2 p295 q295
            (try rw [← Nbq34.out] at hx295_2)
            cases e295
            obtain ⟨ce295, hce295, hMe295, hcc295⟩ := Kd.S_get HO270.out z35 2 p295 (by first | exact q295 | exact o1_ (by with_reducible assumption) | (have e_ := (Kd.S_reads' HO270.out).1; omega))
            obtain ⟨ve295_3, rfl, ge295_3⟩ := k35_openM hMe295
            have hv295_3 := hcc295 3 _ rfl
            rw [add_field _ _ 3 (by omega)] at hv295_3
            replace hv295_3 := Option.some.inj (hv295_3.symm.trans hx295_3)
            rw [hv295_3] at ge295_3
            have HL295_3 := m_ (show Kd.R k58 58 _ _ _ _ ((rd_T35 t268 2).f3) from ge295_3)
            clear hv295_3 ge295_3
            clear hcc295 hce295
            (try simp only [show (2 : Int).toNat = 2 from rfl, Nat.reduceMul, Nat.reduceEqDiff, Go.Addr.add, ↓reduceIte] at hx295_0)
            (try simp only [show (2 : Int).toNat = 2 from rfl, Nat.reduceMul, Nat.reduceEqDiff, Go.Addr.add, ↓reduceIte] at hx295_1)
            (try simp only [show (2 : Int).toNat = 2 from rfl, Nat.reduceMul, Nat.reduceEqDiff, Go.Addr.add, ↓reduceIte] at hx295_2)
            (try simp only [show (2 : Int).toNat = 2 from rfl, Nat.reduceMul, Nat.reduceEqDiff, Go.Addr.add, ↓reduceIte] at hx295_3)
            have qi295 : (2 < t268.length) = True := eq_true (by omega)
            (try rw [show ((2 : Int)).toNat = 2 from rfl] at hx295_0)
            (try rw [show 2 * 4 = 8 from rfl] at hx295_0)
            (try rw [show ((2 : Int)).toNat = 2 from rfl] at hx295_1)
            (try rw [show 2 * 4 = 8 from rfl] at hx295_1)
            (try rw [show ((2 : Int)).toNat = 2 from rfl] at hx295_2)
            (try rw [show 2 * 4 = 8 from rfl] at hx295_2)
            (try rw [show ((2 : Int)).toNat = 2 from rfl] at hx295_3)
            (try rw [show 2 * 4 = 8 from rfl] at hx295_3)
            have HR295_3 := m_ hi295_3
            have HC295_3 := m_ hl295_3
            clear hi295_3 hl295_3
            replace p295 := eq_true p295
            replace q295 := eq_true q295
            have p296 : 0 ≤ (2 : Int) := (by omega)
            have q296 : 2 < (t268.length : Int) := o1_ (by with_reducible assumption)
            obtain ⟨ad296, A296_3, c296_3, e296, hx296_0, hx296_1, hx296_2, hx296_3, hl296_3, hi296_3⟩ := at_T35 (Kd.S_reads' HO270.out).2.2 2 p296 q296
            (try rw [← Nbq34.out] at hx296_2)
            obtain rfl : ad295 = ad296 := (by injection e296)
            obtain ⟨ce296, hce296, hMe296, hcc296⟩ := Kd.S_get HO270.out z35 2 p296 (by first | exact q296 | exact o1_ (by with_reducible assumption) | (have e_ := (Kd.S_reads' HO270.out).1; omega))
            obtain ⟨ve296_3, rfl, ge296_3⟩ := k35_openM hMe296
            have hv296_3 := hcc296 3 _ rfl
            rw [add_field _ _ 3 (by omega)] at hv296_3
            replace hv296_3 := Option.some.inj (hv296_3.symm.trans hx296_3)
            rw [hv296_3] at ge296_3
            have HL296_3 := m_ (show Kd.R k58 58 _ _ _ _ ((rd_T35 t268 2).f3) from ge296_3)
            clear hv296_3 ge296_3
            clear hcc296 hce296
            (try simp only [show (2 : Int).toNat = 2 from rfl, Nat.reduceMul, Nat.reduceEqDiff, Go.Addr.add, ↓reduceIte] at hx296_0)
            (try simp only [show (2 : Int).toNat = 2 from rfl, Nat.reduceMul, Nat.reduceEqDiff, Go.Addr.add, ↓reduceIte] at hx296_1)
            (try simp only [show (2 : Int).toNat = 2 from rfl, Nat.reduceMul, Nat.reduceEqDiff, Go.Addr.add, ↓reduceIte] at hx296_2)
            (try simp only [show (2 : Int).toNat = 2 from rfl, Nat.reduceMul, Nat.reduceEqDiff, Go.Addr.add, ↓reduceIte] at hx296_3)
            have qi296 : (2 < t268.length) = True := eq_true (by omega)
            (try rw [show ((2 : Int)).toNat = 2 from rfl] at hx296_0)
            (try rw [show 2 * 4 = 8 from rfl] at hx296_0)
            (try rw [show ((2 : Int)).toNat = 2 from rfl] at hx296_1)
            (try rw [show 2 * 4 = 8 from rfl] at hx296_1)
            (try rw [show ((2 : Int)).toNat = 2 from rfl] at hx296_2)
            (try rw [show 2 * 4 = 8 from rfl] at hx296_2)
            (try rw [show ((2 : Int)).toNat = 2 from rfl] at hx296_3)
            (try rw [show 2 * 4 = 8 from rfl] at hx296_3)
            have HR296_3 := m_ hi296_3
            have HC296_3 := m_ hl296_3
            clear hi296_3 hl296_3
            replace p296 := eq_true p296
            replace q296 := eq_true q296
            have ea_ := Option.some.inj (hx295_3.symm.trans hx296_3)
            injection ea_ with ea_ en_ ec_
            subst ea_
            subst ec_
            clear en_
            have p297 : 0 ≤ (2 : Int) := (by omega)
            have q297 : 2 < (t268.length : Int) := o1_ (by with_reducible assumption)
            obtain ⟨ad297, A297_3, c297_3, e297, hx297_0, hx297_1, hx297_2, hx297_3, hl297_3, hi297_3⟩ := at_T35 (Kd.S_reads' HO270.out).2.2 2 p297 q297
            (try rw [← Nbq34.out] at hx297_2)
            obtain rfl : ad295 = ad297 := (by injection e297)
            obtain ⟨ce297, hce297, hMe297, hcc297⟩ := Kd.S_get HO270.out z35 2 p297 (by first | exact q297 | exact o1_ (by with_reducible assumption) | (have e_ := (Kd.S_reads' HO270.out).1; omega))
            obtain ⟨ve297_3, rfl, ge297_3⟩ := k35_openM hMe297
            have hv297_3 := hcc297 3 _ rfl
            rw [add_field _ _ 3 (by omega)] at hv297_3
            replace hv297_3 := Option.some.inj (hv297_3.symm.trans hx297_3)
            rw [hv297_3] at ge297_3
            have HL297_3 := m_ (show Kd.R k58 58 _ _ _ _ ((rd_T35 t268 2).f3) from ge297_3)
            clear hv297_3 ge297_3
            clear hcc297 hce297
            (try simp only [show (2 : Int).toNat = 2 from rfl, Nat.reduceMul, Nat.reduceEqDiff, Go.Addr.add, ↓reduceIte] at hx297_0)
            (try simp only [show (2 : Int).toNat = 2 from rfl, Nat.reduceMul, Nat.reduceEqDiff, Go.Addr.add, ↓reduceIte] at hx297_1)
            (try simp only [show (2 : Int).toNat = 2 from rfl, Nat.reduceMul, Nat.reduceEqDiff, Go.Addr.add, ↓reduceIte] at hx297_2)
            (try simp only [show (2 : Int).toNat = 2 from rfl, Nat.reduceMul, Nat.reduceEqDiff, Go.Addr.add, ↓reduceIte] at hx297_3)
            have qi297 : (2 < t268.length) = True := eq_true (by omega)
            (try rw [show ((2 : Int)).toNat = 2 from rfl] at hx297_0)
            (try rw [show 2 * 4 = 8 from rfl] at hx297_0)
            (try rw [show ((2 : Int)).toNat = 2 from rfl] at hx297_1)
            (try rw [show 2 * 4 = 8 from rfl] at hx297_1)
            (try rw [show ((2 : Int)).toNat = 2 from rfl] at hx297_2)
            (try rw [show 2 * 4 = 8 from rfl] at hx297_2)
            (try rw [show ((2 : Int)).toNat = 2 from rfl] at hx297_3)
            (try rw [show 2 * 4 = 8 from rfl] at hx297_3)
            have HR297_3 := m_ hi297_3
            have HC297_3 := m_ hl297_3
            clear hi297_3 hl297_3
            replace p297 := eq_true p297
            replace q297 := eq_true q297
            have ea_ := Option.some.inj (hx295_3.symm.trans hx297_3)
            injection ea_ with ea_ en_ ec_
            subst ea_
            subst ec_
            clear en_
            go_wp2
            go_meet
            case rel => exact ⟨_, (!t294), (by first | rfl | (simp; done) | (simp [*]; done)), H', ⟨by first | omega | exact Nat.le_refl _⟩, ⟨by (with_reducible repeat (first | apply s1_ | apply s2_ | apply s3_)); exact Kd.S_mono HO270.out (fun _ hk => trivial)⟩, ⟨by repeat (with_reducible first | exact HB.out | apply l1_ | apply l2_ | apply l3_)⟩⟩
           rw [if_neg c41] at H
           exact absurd H (by simp)
          ·
           replace c40 := Bool.eq_false_iff.mpr c40
           subst c40
           rw [if_neg (show ¬ (false = true) by decide)] at H
           exact absurd H (by simp)
         rw [if_neg c39] at H
         exact absurd H (by simp)
        ·
         replace c38 := Bool.eq_false_iff.mpr c38
         subst c38
         rw [if_neg (show ¬ (false = true) by decide)] at H
         exact absurd H (by simp)
       rw [if_neg c37] at H
       exact absurd H (by simp)
      rw [if_neg c36] at H
      exact absurd H (by simp)
     ·
      replace c35 := Bool.eq_false_iff.mpr c35
      subst c35
      rw [if_neg (show ¬ (false = true) by decide)] at H
      exact absurd H (by simp)
    rw [if_neg c33] at H
    exact absurd H (by simp)
   rw [if_neg c32] at H
   exact absurd H (by simp)
  rw [if_neg c31] at H
  exact absurd H (by simp)
 case rest =>
  clear HC12
  (try clear c1); (try clear c2); (try clear p2); (try clear q2); (try clear hx2); (try clear qi2); (try clear c3); (try clear q3); (try clear c4); (try clear c12); (try clear c13); (try clear c14); (try clear c17); (try clear c25); (try clear c27); (try clear c29); (try clear p29); (try clear q29); (try clear hx29); (try clear qi29); (try clear c31); (try clear c31b0); (try clear c31b1); (try clear c32); (try clear c32b0); (try clear c32b1); (try clear c33); (try clear c33b0); (try clear c33b1); (try clear q34); (try clear c35); (try clear c36); (try clear c36b0); (try clear c36b1); (try clear c37); (try clear c37b0); (try clear c37b1); (try clear c38); (try clear c39); (try clear c39b0); (try clear c39b1); (try clear c40); (try clear c41); (try clear c41b0); (try clear c41b1); (try clear hx295_0); (try clear hx295_1); (try clear hx295_2); (try clear hx295_3); (try clear hx296_0); (try clear hx296_1); (try clear hx296_2); (try clear hx296_3); (try clear hx297_0); (try clear hx297_1); (try clear hx297_2); (try clear hx297_3); (try clear p295); (try clear p296); (try clear p297); (try clear q295); (try clear q296); (try clear q297)
  obtain ⟨kq, x76_11, rfl, HA, HJ11, HO_1, HB⟩ := hcut
  cases kq with
  | zero => exact absurd HA.out (by simp [jobshelllaw04_awake.j0])
  | succ kj11 =>
   have H := HA.out
   clear HA
   simp only [jobshelllaw04_awake.j0] at H
   by_cases c43 : x76_11 = true
   ·
    subst c43
    rw [if_pos rfl] at H
    exact absurd H (by simp)
   ·
    replace c43 := Bool.eq_false_iff.mpr c43
    subst c43
    rw [if_neg (show ¬ (false = true) by decide)] at H
    replace H := Option.bind_eq_some_iff.mp H
    obtain ⟨t298, A440, H⟩ := H
    try dsimp -simprocs only at H
    have A44 := m_ A440
    clear A440
    by_cases c45 : t298 = true
    ·
     subst c45
     rw [if_pos rfl] at H
     replace H := Option.bind_eq_some_iff.mp H
     obtain ⟨t299, A460, H⟩ := H
     try dsimp -simprocs only at H
     have A46 := m_ A460
     clear A460
     by_cases c47 : t299 = true
     ·
      subst c47
      rw [if_pos rfl] at H
      exact absurd H (by simp)
     ·
      replace c47 := Bool.eq_false_iff.mpr c47
      subst c47
      rw [if_neg (show ¬ (false = true) by decide)] at H
      replace H := Option.bind_eq_some_iff.mp H
      obtain ⟨t300, A480, H⟩ := H
      try dsimp -simprocs only at H
      have A48 := m_ A480
      clear A480
      replace H := Option.bind_eq_some_iff.mp H
      obtain ⟨t303, A490, H⟩ := H
      try dsimp -simprocs only at H
      have A49 := m_ A490
      clear A490
      by_cases c50 : t303 = true
      ·
       subst c50
       rw [if_pos rfl] at H
       replace H := Option.bind_eq_some_iff.mp H
       obtain ⟨t304, A510, H⟩ := H
       try dsimp -simprocs only at H
       have A51 := m_ A510
       clear A510
       replace H := Option.bind_eq_some_iff.mp H
       obtain ⟨t307, A520, H⟩ := H
       try dsimp -simprocs only at H
       have A52 := m_ A520
       clear A520
       by_cases c53 : t307 = true
       ·
        subst c53
        rw [if_pos rfl] at H
        exact absurd H (by simp)
       ·
        replace c53 := Bool.eq_false_iff.mpr c53
        subst c53
        rw [if_neg (show ¬ (false = true) by decide)] at H
        replace H := Option.bind_eq_some_iff.mp H
        obtain ⟨t308, A540, H⟩ := H
        try dsimp -simprocs only at H
        have A54 := m_ A540
        clear A540
        obtain rfl := Option.some.inj H
        obtain ⟨Ao55, co55, eo55⟩ := Kd.S_slice HO_1.out
        subst eo55
        go_wp2_with (first | ((with_reducible refine gate_callee (f := 15) rfl ?_); refine goesL_ (some 78) rfl rfl Try.func15 (by kernel_rfl) rfl #[.slice Ao55 t268.length co55, .string (⟨#[97, 49, 98]⟩ : ByteArray)] rfl (by (try simp only [List.map_toArray, List.map_cons, List.map_nil]); first | done | rfl | (simp only [List.length_drop, List.length_take]; rfl)) ?_; (with_reducible refine (pattern_Match.calls kj11 _ _ t268 (⟨#[97, 49, 98]⟩ : ByteArray) true _ ?side1 ?side2 A44.out).mono ?_); (case side1 => repeat (first | exact (Kd.S_reads' HO_1.out).2.2 | (with_reducible refine Kd.C_alloc ?_ _) | (with_reducible refine Kd.C_drewN ?_ _) | (with_reducible refine Kd.C_drew ?_))); (case side2 => exact (Kd.S_reads' HO_1.out).2.1); rintro e w56 ⟨rfl, hb⟩; refine ⟨_, rfl, ?_⟩; replace HO_1 := m_ (Kd.S_below (by (with_reducible repeat (first | apply s1_ | apply s2_ | apply s3_)); exact HO_1.out) hb); replace HB := m_ (l5_ (by repeat (with_reducible first | exact HB.out | apply l1_ | apply l2_ | apply l3_)) hb); (try clear hb)) | (go_at_call 15; (with_reducible refine (pattern_Match.calls kj11 _ _ t268 (⟨#[97, 49]⟩ : ByteArray) false _ ?side1 ?side2 A46.out).mono ?_); (case side1 => repeat (first | exact (Kd.S_reads' HO_1.out).2.2 | (with_reducible refine Kd.C_alloc ?_ _) | (with_reducible refine Kd.C_drewN ?_ _) | (with_reducible refine Kd.C_drew ?_))); (case side2 => exact (Kd.S_reads' HO_1.out).2.1); rintro e w57 ⟨rfl, hb⟩; replace HO_1 := m_ (Kd.S_below (by (with_reducible repeat (first | apply s1_ | apply s2_ | apply s3_)); exact HO_1.out) hb); replace HB := m_ (l5_ (by repeat (with_reducible first | exact HB.out | apply l1_ | apply l2_ | apply l3_)) hb); (try clear hb)) | (go_at_call 31; (with_reducible refine (jobshelllaw04_lit.calls (⟨#[91, 97, 93]⟩ : ByteArray) t300 _ A48.out).mono ?_); rintro e w58 ⟨v301, rfl, ho0, hb⟩; replace HO_1 := m_ (Kd.S_below (by (with_reducible repeat (first | apply s1_ | apply s2_ | apply s3_)); exact HO_1.out) hb); have HO302 := m_ (Kd.R_lower ho0 (l6_ (by repeat (with_reducible first | exact HB.out | apply l1_ | apply l2_ | apply l3_)))); replace HB := m_ (l5_ (by repeat (with_reducible first | exact HB.out | apply l1_ | apply l2_ | apply l3_)) hb); (try clear hb); (try clear ho0); obtain ⟨Ao59, co59, eo59⟩ := Kd.R_slice HO302.out; subst eo59) | (go_at_call 29; (with_reducible refine (pattern_Special.calls kj11 _ _ t300 true _ ?side1 ?side2 A49.out).mono ?_); (case side1 => repeat (first | exact (Kd.R_reads' HO302.out).2.2 | (with_reducible refine Kd.C_alloc ?_ _) | (with_reducible refine Kd.C_drewN ?_ _) | (with_reducible refine Kd.C_drew ?_))); (case side2 => exact (Kd.R_reads' HO302.out).2.1); rintro e w60 ⟨rfl, hb⟩; replace HO_1 := m_ (Kd.S_below (by (with_reducible repeat (first | apply s1_ | apply s2_ | apply s3_)); exact HO_1.out) hb); replace HO302 := m_ (Kd.R_below (by (with_reducible repeat (first | apply r1_ | apply r2_ | apply r3_)); exact HO302.out) hb); replace HB := m_ (l5_ (by repeat (with_reducible first | exact HB.out | apply l1_ | apply l2_ | apply l3_)) hb); (try clear hb)) | (go_at_call 31; (with_reducible refine (jobshelllaw04_lit.calls (⟨#[91, 97]⟩ : ByteArray) t304 _ A51.out).mono ?_); rintro e w61 ⟨v305, rfl, ho0, hb⟩; replace HO_1 := m_ (Kd.S_below (by (with_reducible repeat (first | apply s1_ | apply s2_ | apply s3_)); exact HO_1.out) hb); have HO306 := m_ (Kd.R_lower (Kd.R_new' ho0 (Kd.R_lt (by (with_reducible repeat (first | apply r1_ | apply r2_ | apply r3_)); exact HO302.out))) (l6_ (by repeat (with_reducible first | exact HB.out | apply l1_ | apply l2_ | apply l3_)))); replace HO302 := m_ (Kd.R_elder' (by (with_reducible repeat (first | apply r1_ | apply r2_ | apply r3_)); exact HO302.out) (Kd.R_base ho0) hb); replace HB := m_ (l5_ (by repeat (with_reducible first | exact HB.out | apply l1_ | apply l2_ | apply l3_)) hb); (try clear hb); (try clear ho0); obtain ⟨Ao62, co62, eo62⟩ := Kd.R_slice HO306.out; subst eo62) | (go_at_call 29; (with_reducible refine (pattern_Special.calls kj11 _ _ t304 false _ ?side1 ?side2 A52.out).mono ?_); (case side1 => repeat (first | exact (Kd.R_reads' HO306.out).2.2 | (with_reducible refine Kd.C_alloc ?_ _) | (with_reducible refine Kd.C_drewN ?_ _) | (with_reducible refine Kd.C_drew ?_))); (case side2 => exact (Kd.R_reads' HO306.out).2.1); rintro e w63 ⟨rfl, hb⟩; replace HO_1 := m_ (Kd.S_below (by (with_reducible repeat (first | apply s1_ | apply s2_ | apply s3_)); exact HO_1.out) hb); replace HO302 := m_ (Kd.R_below (by (with_reducible repeat (first | apply r1_ | apply r2_ | apply r3_)); exact HO302.out) hb); replace HO306 := m_ (Kd.R_below (by (with_reducible repeat (first | apply r1_ | apply r2_ | apply r3_)); exact HO306.out) hb); replace HB := m_ (l5_ (by repeat (with_reducible first | exact HB.out | apply l1_ | apply l2_ | apply l3_)) hb); (try clear hb)) | (go_at_call 21; (with_reducible refine (pattern_Runs.calls kj11 _ _ t268 t308 _ ?side1 ?side2 A54.out).mono ?_); (case side1 => repeat (first | exact (Kd.S_reads' HO_1.out).2.2 | (with_reducible refine Kd.C_alloc ?_ _) | (with_reducible refine Kd.C_drewN ?_ _) | (with_reducible refine Kd.C_drew ?_))); (case side2 => exact (Kd.S_reads' HO_1.out).2.1); rintro e w64 ⟨v309, rfl, ho0, hb⟩; replace HO_1 := m_ (Kd.S_below (by (with_reducible repeat (first | apply s1_ | apply s2_ | apply s3_)); exact HO_1.out) hb); have HO310 := m_ (Kd.R_lower (Kd.R_new' (Kd.R_new' ho0 (Kd.R_lt (by (with_reducible repeat (first | apply r1_ | apply r2_ | apply r3_)); exact HO302.out))) (Kd.R_lt (by (with_reducible repeat (first | apply r1_ | apply r2_ | apply r3_)); exact HO306.out))) (l6_ (by repeat (with_reducible first | exact HB.out | apply l1_ | apply l2_ | apply l3_)))); replace HO302 := m_ (Kd.R_elder' (by (with_reducible repeat (first | apply r1_ | apply r2_ | apply r3_)); exact HO302.out) (Kd.R_base ho0) hb); replace HO306 := m_ (Kd.R_elder' (by (with_reducible repeat (first | apply r1_ | apply r2_ | apply r3_)); exact HO306.out) (Kd.R_base ho0) hb); replace HB := m_ (l5_ (by repeat (with_reducible first | exact HB.out | apply l1_ | apply l2_ | apply l3_)) hb); (try clear hb); (try clear ho0); obtain ⟨Ao65, co65, eo65⟩ := Kd.R_slice HO310.out; subst eo65))
        go_ret
        exact ⟨by first | rfl | (simp [errW_none, errW_some] <;> rfl) | (simp [*, errW_none, errW_some] <;> rfl), by repeat (with_reducible first | exact HB.out | apply l1_ | apply l2_ | apply l3_)⟩
      ·
       replace c50 := Bool.eq_false_iff.mpr c50
       subst c50
       rw [if_neg (show ¬ (false = true) by decide)] at H
       exact absurd H (by simp)
    ·
     replace c45 := Bool.eq_false_iff.mpr c45
     subst c45
     rw [if_neg (show ¬ (false = true) by decide)] at H
     exact absurd H (by simp)
end Go.Proofs.Ytbekhjcnmifnnaa.Q
