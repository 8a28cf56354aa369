import Derived.Test.YtbekhjcnmifnnaaQ0
import Derived.Test.YtbekhjcnmifnnaaQ2
import Derived.Test.YtbekhjcnmifnnaaQ21
import Derived.Test.YtbekhjcnmifnnaaQ22
import Derived.Test.YtbekhjcnmifnnaaQ24
import Derived.Test.YtbekhjcnmifnnaaQ26
import Derived.Test.YtbekhjcnmifnnaaQ50
import Derived.Test.YtbekhjcnmifnnaaQ51
set_option linter.unusedVariables false
set_option linter.unusedSimpArgs false
namespace Go.Proofs.Ytbekhjcnmifnnaa.Q
open Go.RowKit Go.Proofs.YtbekhjcnmifnnaaW.PrintWords Go.Proofs.YtbekhjcnmifnnaaW.PrintLast Go.Proofs.YtbekhjcnmifnnaaW.PrintMore
attribute [local go_sem] max2_int min2_int max_two min_two max_three min_three max_four min_four
def jobshelllaw04_PatternLiterals.j0 : Nat → List (S35) → List (S47) → Bool → Option (Bool)
 | 0, _, _, _ => none
 | k + 1, x0, x1, x16 => if x16 = true then ((jobshelllaw04_awake.f k).bind fun t592 => (some t592)) else ((pattern_Literal.f k x0).bind fun bt593 => ((jobshellref04_Literal.f k x0).bind fun bt595 => (if bt593.1.toList = bt595.1.toList then (if (bt593.2 == bt595.2) = true then ((pattern_Special.f k x1).bind fun t597 => ((jobshellref04_Special.f k x1).bind fun t598 => (if (t597 == t598) = true then ((jobshelllaw04_awake.f k).bind fun t599 => (some t599)) else (none)))) else (none)) else (none))))
def jobshelllaw04_PatternLiterals.f (k : Nat) (l0 : List (S35)) (l1 : List (S47)) : Option (Bool) := (jobshellref04_Few.f k l0 12).bind fun t590 => (if t590 = true then ((jobshellref04_Small.f k l1 8 60).bind fun t591 => (jobshelllaw04_PatternLiterals.j0 k l0 l1 (!t591))) else (jobshelllaw04_PatternLiterals.j0 k l0 l1 true))
theorem jobshelllaw04_PatternLiterals.mono_l : ∀ k, (∀ y0 y1 y2, LeO (jobshelllaw04_PatternLiterals.j0 k y0 y1 y2) (jobshelllaw04_PatternLiterals.j0 (k + 1) y0 y1 y2))
 | 0 => fun _ _ _ r h => by simp [jobshelllaw04_PatternLiterals.j0] at h
 | k + 1 => by
  have ih0 := jobshelllaw04_PatternLiterals.mono_l k
  ·
   intro y0 y1 y2
   unfold jobshelllaw04_PatternLiterals.j0
   repeat' first
   | (with_reducible exact ih0 _ _ _)
   | (with_reducible exact jobshelllaw04_awake.mono _)
   | (with_reducible exact jobshellref04_Few.mono _ _ _)
   | (with_reducible exact jobshellref04_Literal.mono _ _)
   | (with_reducible exact jobshellref04_Small.mono _ _ _ _)
   | (with_reducible exact jobshellref04_Special.mono _ _)
   | (with_reducible exact pattern_Literal.mono _ _)
   | (with_reducible exact pattern_Special.mono _ _)
   | (with_reducible exact LeO.refl _)
   | (with_reducible exact LeO.none _)
   | (with_reducible refine LeO.ite ?_ ?_)
   | (with_reducible refine LeO.bind ?_ (fun _ => ?_))
theorem jobshelllaw04_PatternLiterals.mono : ∀ a0 a1 k, LeO (jobshelllaw04_PatternLiterals.f k a0 a1) (jobshelllaw04_PatternLiterals.f (k + 1) a0 a1) := by
 intro a0 a1 k
 have ih0 := jobshelllaw04_PatternLiterals.mono_l k
 unfold jobshelllaw04_PatternLiterals.f
 repeat' first
  | (with_reducible exact ih0 _ _ _)
  | (with_reducible exact jobshelllaw04_awake.mono _)
  | (with_reducible exact jobshellref04_Few.mono _ _ _)
  | (with_reducible exact jobshellref04_Literal.mono _ _)
  | (with_reducible exact jobshellref04_Small.mono _ _ _ _)
  | (with_reducible exact jobshellref04_Special.mono _ _)
  | (with_reducible exact pattern_Literal.mono _ _)
  | (with_reducible exact pattern_Special.mono _ _)
  | (with_reducible exact LeO.refl _)
  | (with_reducible exact LeO.none _)
  | (with_reducible refine LeO.ite ?_ ?_)
  | (with_reducible refine LeO.bind ?_ (fun _ => ?_))
set_option maxHeartbeats 8000000 in
set_option maxRecDepth 100000 in
theorem jobshelllaw04_PatternLiterals.calls (k : Nat) (A0 : Option Addr) (c0 : Nat) (l0 : List (S35)) (A1 : Option Addr) (c1 : Nat) (l1 : List (S47)) (r : Bool) (w : World) (hr0 : Kd.C k35 w A0 l0.length l0) (hc0 : l0.length ≤ c0) (hr1 : Kd.C k47 w A1 l1.length l1) (hc1 : l1.length ≤ c1) (h : jobshelllaw04_PatternLiterals.f k l0 l1 = some r) :
 Calls Try.prog 9 #[.slice A0 l0.length c0, .slice A1 l1.length c1] w fun e w' => e = .returned (.bool r) ∧ Below w.heap.size w w' := by
 have HR0 := m_ hr0
 have HC0 := m_ hc0
 clear hr0 hc0
 have HR1 := m_ hr1
 have HC1 := m_ hc1
 clear hr1 hc1
 have HB := m_ (Below.refl w.heap.size w)
 have H : ((jobshellref04_Few.f k l0 12).bind fun t590 => (if t590 = true then ((jobshellref04_Small.f k l1 8 60).bind fun t591 => (jobshelllaw04_PatternLiterals.j0 k l0 l1 (!t591))) else (jobshelllaw04_PatternLiterals.j0 k l0 l1 true))) = some r := h
 clear h
 have HC3 := m_ H
 clear H
 go_enter Try.func9, Try.ntmps9
 go_upto_region 1 with (fail)
 go_cut [16] (fun v16 wc => ∃ (kq : Nat) (x16_2 : Bool), v16 = .bool x16_2 ∧ Aside0 (jobshelllaw04_PatternLiterals.j0 kq l0 l1 x16_2 = some r) ∧ Aside0 (kq ≤ k) ∧ Aside0 (Below w.heap.size w wc))
 case first =>
  have H := HC3.out
  clear HC3
  replace H := Option.bind_eq_some_iff.mp H
  obtain ⟨t590, A40, H⟩ := H
  try dsimp -simprocs only at H
  have A4 := m_ A40
  clear A40
  by_cases c5 : t590 = true
  ·
   subst c5
   rw [if_pos rfl] at H
   replace H := Option.bind_eq_some_iff.mp H
   obtain ⟨t591, A60, H⟩ := H
   try dsimp -simprocs only at H
   have A6 := m_ A60
   clear A60
   have H' := m_ H
   clear H
   go_wp2_with (first | ((with_reducible refine gate_callee (f := 16) rfl ?_); refine goesL_ (some 10) rfl rfl Try.func16 (by kernel_rfl) rfl #[.slice A0 l0.length c0, .int .i64 12] rfl (by (try simp only [List.map_toArray, List.map_cons, List.map_nil]); first | done | rfl | (simp only [List.length_drop, List.length_take]; rfl)) ?_; (with_reducible refine (jobshellref04_Few.calls k _ _ l0 12 true _ ?side1 ?side2 A4.out).mono ?_); (case side1 => repeat (first | exact (Kd.C_below HR0.out HB.out) | (with_reducible refine Kd.C_alloc ?_ _) | (with_reducible refine Kd.C_drewN ?_ _) | (with_reducible refine Kd.C_drew ?_))); (case side2 => exact HC0.out); rintro e w' ⟨rfl, ⟨nd, rfl⟩⟩; refine ⟨_, rfl, ?_⟩) | (go_at_call 11; (with_reducible refine (jobshellref04_Small.calls k _ _ l1 8 60 t591 _ ?side1 ?side2 A6.out).mono ?_); (case side1 => repeat (first | exact (Kd.C_below HR1.out (by repeat (with_reducible first | exact HB.out | apply l1_ | apply l2_ | apply l3_))) | (with_reducible refine Kd.C_alloc ?_ _) | (with_reducible refine Kd.C_drewN ?_ _) | (with_reducible refine Kd.C_drew ?_))); (case side2 => exact HC1.out); rintro e w' ⟨rfl, ⟨nd, rfl⟩⟩))
   go_meet
   case rel => exact ⟨_, (!t591), (by first | rfl | (simp; done) | (simp [*]; done)), H', ⟨by first | omega | exact Nat.le_refl _⟩, ⟨by repeat (with_reducible first | exact HB.out | apply l1_ | apply l2_ | apply l3_)⟩⟩
  ·
   replace c5 := Bool.eq_false_iff.mpr c5
   subst c5
   rw [if_neg (show ¬ (false = true) by decide)] at H
   have H' := m_ H
   clear H
   go_wp2_with (first | ((with_reducible refine gate_callee (f := 16) rfl ?_); refine goesL_ (some 10) rfl rfl Try.func16 (by kernel_rfl) rfl #[.slice A0 l0.length c0, .int .i64 12] rfl (by (try simp only [List.map_toArray, List.map_cons, List.map_nil]); first | done | rfl | (simp only [List.length_drop, List.length_take]; rfl)) ?_; (with_reducible refine (jobshellref04_Few.calls k _ _ l0 12 false _ ?side1 ?side2 A4.out).mono ?_); (case side1 => repeat (first | exact (Kd.C_below HR0.out HB.out) | (with_reducible refine Kd.C_alloc ?_ _) | (with_reducible refine Kd.C_drewN ?_ _) | (with_reducible refine Kd.C_drew ?_))); (case side2 => exact HC0.out); rintro e w' ⟨rfl, ⟨nd, rfl⟩⟩; refine ⟨_, rfl, ?_⟩))
   go_meet
   case rel => exact ⟨_, (true), (by first | rfl | (simp; done) | (simp [*]; done)), H', ⟨by first | omega | exact Nat.le_refl _⟩, ⟨by repeat (with_reducible first | exact HB.out | apply l1_ | apply l2_ | apply l3_)⟩⟩
 case rest =>
  clear HC3
  (try clear c1); (try clear p2); (try clear c5)
  obtain ⟨kq, x16_2, rfl, HA, HJ2, HB⟩ := hcut
  cases kq with
  | zero => exact absurd HA.out (by simp [jobshelllaw04_PatternLiterals.j0])
  | succ kj2 =>
   have H := HA.out
   clear HA
   simp only [jobshelllaw04_PatternLiterals.j0] at H
   by_cases c7 : x16_2 = true
   ·
    subst c7
    rw [if_pos rfl] at H
    replace H := Option.bind_eq_some_iff.mp H
    obtain ⟨t592, A80, H⟩ := H
    replace H : (some t592) = some r := H
    have A8 := m_ A80
    clear A80
    obtain rfl := Option.some.inj H
    go_wp2_with (first | ((with_reducible refine gate_callee (f := 12) rfl ?_); refine goesL_ (some 17) rfl rfl Try.func12 (by kernel_rfl) rfl #[] rfl (by (try simp only [List.map_toArray, List.map_cons, List.map_nil]); first | done | rfl | (simp only [List.length_drop, List.length_take]; rfl)) ?_; (with_reducible refine (jobshelllaw04_awake.calls kj2  t592 _ A8.out).mono ?_); rintro e w9 ⟨rfl, hb⟩; refine ⟨_, rfl, ?_⟩; replace HB := m_ (l5_ (by repeat (with_reducible first | exact HB.out | apply l1_ | apply l2_ | apply l3_)) hb); (try clear hb)))
    go_ret
    exact ⟨by first | rfl | (simp [errW_none, errW_some] <;> rfl) | (simp [*, errW_none, errW_some] <;> rfl), by repeat (with_reducible first | exact HB.out | apply l1_ | apply l2_ | apply l3_)⟩
   ·
    replace c7 := Bool.eq_false_iff.mpr c7
    subst c7
    rw [if_neg (show ¬ (false = true) by decide)] at H
    replace H := Option.bind_eq_some_iff.mp H
    obtain ⟨⟨t593, t594⟩, A100, H⟩ := H
    try dsimp -simprocs only at H
    have A10 := m_ A100
    clear A100
    replace H := Option.bind_eq_some_iff.mp H
    obtain ⟨⟨t595, t596⟩, A110, H⟩ := H
    try dsimp -simprocs only at H
    have A11 := m_ A110
    clear A110
    by_cases c12 : t593.toList = t595.toList
    ·
     rw [if_pos c12] at H
     have c12b0 : (t593.toList == t595.toList) = true := beq_iff_eq.mpr c12
     have c12b1 : (t593.toList != t595.toList) = false := bne_eq_false_iff_eq.mpr c12
     clear c12
     by_cases c13 : (t594 == t596) = true
     ·
      rw [if_pos c13] at H
      have c13b0 : (t594 == t596) = true := c13
      (try (have c13b1 : decide (t594 = t596) = true := by simpa using c13))
      (try (have c13b2 : (t594 == t596) = true := by simpa using c13))
      clear c13
      replace H := Option.bind_eq_some_iff.mp H
      obtain ⟨t597, A140, H⟩ := H
      try dsimp -simprocs only at H
      have A14 := m_ A140
      clear A140
      replace H := Option.bind_eq_some_iff.mp H
      obtain ⟨t598, A150, H⟩ := H
      try dsimp -simprocs only at H
      have A15 := m_ A150
      clear A150
      by_cases c16 : (t597 == t598) = true
      ·
       rw [if_pos c16] at H
       have c16b0 : (t597 == t598) = true := c16
       (try (have c16b1 : decide (t597 = t598) = true := by simpa using c16))
       (try (have c16b2 : (t597 == t598) = true := by simpa using c16))
       clear c16
       replace H := Option.bind_eq_some_iff.mp H
       obtain ⟨t599, A170, H⟩ := H
       replace H : (some t599) = some r := H
       have A17 := m_ A170
       clear A170
       obtain rfl := Option.some.inj H
       go_wp2_with (first | ((with_reducible refine gate_callee (f := 27) rfl ?_); refine goesL_ (some 20) rfl rfl Try.func27 (by kernel_rfl) rfl #[.slice A0 l0.length c0] rfl (by (try simp only [List.map_toArray, List.map_cons, List.map_nil]); first | done | rfl | (simp only [List.length_drop, List.length_take]; rfl)) ?_; (with_reducible refine (pattern_Literal.calls kj2 _ _ l0 t593 t594 _ ?side1 ?side2 A10.out).mono ?_); (case side1 => repeat (first | exact (Kd.C_below HR0.out HB.out) | (with_reducible refine Kd.C_alloc ?_ _) | (with_reducible refine Kd.C_drewN ?_ _) | (with_reducible refine Kd.C_drew ?_))); (case side2 => exact HC0.out); rintro e w18 ⟨rfl, hb⟩; refine ⟨_, rfl, ?_⟩; replace HB := m_ (l5_ (by repeat (with_reducible first | exact HB.out | apply l1_ | apply l2_ | apply l3_)) hb); (try clear hb)) | ((with_reducible refine gate_callee (f := 28) rfl ?_); refine goesL_ (some 25) rfl rfl Try.func28 (by kernel_rfl) rfl #[.slice A0 l0.length c0] rfl (by (try simp only [List.map_toArray, List.map_cons, List.map_nil]); first | done | rfl | (simp only [List.length_drop, List.length_take]; rfl)) ?_; (with_reducible refine (jobshellref04_Literal.calls kj2 _ _ l0 t595 t596 _ ?side1 ?side2 A11.out).mono ?_); (case side1 => repeat (first | exact (Kd.C_below HR0.out HB.out) | (with_reducible refine Kd.C_alloc ?_ _) | (with_reducible refine Kd.C_drewN ?_ _) | (with_reducible refine Kd.C_drew ?_))); (case side2 => exact HC0.out); rintro e w19 ⟨rfl, hb⟩; refine ⟨_, rfl, ?_⟩; replace HB := m_ (l5_ (by repeat (with_reducible first | exact HB.out | apply l1_ | apply l2_ | apply l3_)) hb); (try clear hb)) | (go_at_call 29; (with_reducible refine (pattern_Special.calls kj2 _ _ l1 t597 _ ?side1 ?side2 A14.out).mono ?_); (case side1 => repeat (first | exact (Kd.C_below HR1.out HB.out) | (with_reducible refine Kd.C_alloc ?_ _) | (with_reducible refine Kd.C_drewN ?_ _) | (with_reducible refine Kd.C_drew ?_))); (case side2 => exact HC1.out); rintro e w20 ⟨rfl, hb⟩; replace HB := m_ (l5_ (by repeat (with_reducible first | exact HB.out | apply l1_ | apply l2_ | apply l3_)) hb); (try clear hb)) | (go_at_call 30; (with_reducible refine (jobshellref04_Special.calls kj2 _ _ l1 t598 _ ?side1 ?side2 A15.out).mono ?_); (case side1 => repeat (first | exact (Kd.C_below HR1.out HB.out) | (with_reducible refine Kd.C_alloc ?_ _) | (with_reducible refine Kd.C_drewN ?_ _) | (with_reducible refine Kd.C_drew ?_))); (case side2 => exact HC1.out); rintro e w21 ⟨rfl, hb⟩; replace HB := m_ (l5_ (by repeat (with_reducible first | exact HB.out | apply l1_ | apply l2_ | apply l3_)) hb); (try clear hb)) | (go_at_call 12; (with_reducible refine (jobshelllaw04_awake.calls kj2  t599 _ A17.out).mono ?_); rintro e w22 ⟨rfl, hb⟩; replace HB := m_ (l5_ (by repeat (with_reducible first | exact HB.out | apply l1_ | apply l2_ | apply l3_)) hb); (try clear hb)))
       go_ret
       exact ⟨by first | rfl | (simp [errW_none, errW_some] <;> rfl) | (simp [*, errW_none, errW_some] <;> rfl), by repeat (with_reducible first | exact HB.out | apply l1_ | apply l2_ | apply l3_)⟩
      rw [if_neg c16] at H
      exact absurd H (by simp)
     rw [if_neg c13] at H
     exact absurd H (by simp)
    rw [if_neg c12] at H
    exact absurd H (by simp)
end Go.Proofs.Ytbekhjcnmifnnaa.Q
