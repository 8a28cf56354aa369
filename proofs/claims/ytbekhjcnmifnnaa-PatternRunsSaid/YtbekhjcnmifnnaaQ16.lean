import Derived.Test.YtbekhjcnmifnnaaQ0
import Derived.Test.YtbekhjcnmifnnaaQ12
import Derived.Test.YtbekhjcnmifnnaaQ14
set_option linter.unusedVariables false
set_option linter.unusedSimpArgs false
namespace Go.Proofs.Ytbekhjcnmifnnaa.Q
open Go.RowKit Go.Proofs.YtbekhjcnmifnnaaW.PrintWords Go.Proofs.YtbekhjcnmifnnaaW.PrintLast Go.Proofs.YtbekhjcnmifnnaaW.PrintMore
mutual
def pattern_part.l0 : Nat → List (S35) → ByteArray → Bool → Bool → Int → Option (Int × Bool)
 | 0, _, _, _, _, _ => none
 | k + 1, x0, x1, x2, x3, x10 => if x10 ≤ (x1.size : Int) then (if x2 = true then (pattern_part.j1 k x0 x1 x2 x3 x10 (wrap64 ((x1.size : Int) - x10))) else (pattern_part.j1 k x0 x1 x2 x3 x10 x10)) else (some (0, false))
def pattern_part.j1 : Nat → List (S35) → ByteArray → Bool → Bool → Int → Int → Option (Int × Bool)
 | 0, _, _, _, _, _, _ => none
 | k + 1, x0, x1, x2, x3, x10, x11 => if 0 ≤ x11 then (if x11 ≤ (x1.size : Int) then (if x3 = true then (if 0 ≤ (wrap64 ((x1.size : Int) - x11)) then (if (wrap64 ((x1.size : Int) - x11)) ≤ (x1.size : Int) then ((pattern_matches.f k x0 (x1.extract ((wrap64 ((x1.size : Int) - x11)) : Int).toNat x1.size)).bind fun t200 => (if t200 = true then (some (x11, true)) else (pattern_part.l0 k x0 x1 x2 x3 (wrap64 (x10 + 1))))) else (none)) else (none)) else ((pattern_matches.f k x0 (x1.extract 0 (x11 : Int).toNat)).bind fun t201 => (if t201 = true then (some (x11, true)) else (pattern_part.l0 k x0 x1 x2 x3 (wrap64 (x10 + 1)))))) else (none)) else (none)
end
def pattern_part.f (k : Nat) (l0 : List (S35)) (a1 : ByteArray) (a2 : Bool) (a3 : Bool) : Option (Int × Bool) := (pattern_allValid.f k l0).bind fun t199 => (if t199 = true then (pattern_part.l0 k l0 a1 a2 a3 0) else (some (0, false)))
theorem pattern_part.mono_l : ∀ k, (∀ y0 y1 y2 y3 y4, LeO (pattern_part.l0 k y0 y1 y2 y3 y4) (pattern_part.l0 (k + 1) y0 y1 y2 y3 y4)) ∧ (∀ y0 y1 y2 y3 y4 y5, LeO (pattern_part.j1 k y0 y1 y2 y3 y4 y5) (pattern_part.j1 (k + 1) y0 y1 y2 y3 y4 y5))
 | 0 => ⟨fun _ _ _ _ _ r h => by simp [pattern_part.l0] at h, fun _ _ _ _ _ _ r h => by simp [pattern_part.j1] at h⟩
 | k + 1 => by
  obtain ⟨ih0, ih1⟩ := pattern_part.mono_l k
  refine ⟨?_, ?_⟩
  all_goals (intros; first | unfold pattern_part.l0 | unfold pattern_part.j1)
  all_goals repeat' first
   | (with_reducible exact ih0 _ _ _ _ _)
   | (with_reducible exact ih1 _ _ _ _ _ _)
   | (with_reducible exact pattern_allValid.mono _ _)
   | (with_reducible exact pattern_matches.mono _ _ _)
   | (with_reducible exact LeO.refl _)
   | (with_reducible exact LeO.none _)
   | (with_reducible refine LeO.ite ?_ ?_)
   | (with_reducible refine LeO.bind ?_ (fun _ => ?_))
theorem pattern_part.mono : ∀ a0 a1 a2 a3 k, LeO (pattern_part.f k a0 a1 a2 a3) (pattern_part.f (k + 1) a0 a1 a2 a3) := by
 intro a0 a1 a2 a3 k
 obtain ⟨ih0, ih1⟩ := pattern_part.mono_l k
 unfold pattern_part.f
 repeat' first
  | (with_reducible exact ih0 _ _ _ _ _)
  | (with_reducible exact ih1 _ _ _ _ _ _)
  | (with_reducible exact pattern_allValid.mono _ _)
  | (with_reducible exact pattern_matches.mono _ _ _)
  | (with_reducible exact LeO.refl _)
  | (with_reducible exact LeO.none _)
  | (with_reducible refine LeO.ite ?_ ?_)
  | (with_reducible refine LeO.bind ?_ (fun _ => ?_))
set_option maxHeartbeats 8000000 in
set_option maxRecDepth 100000 in
theorem pattern_part.calls (k : Nat) (A0 : Option Addr) (c0 : Nat) (l0 : List (S35)) (a1 : ByteArray) (a2 : Bool) (a3 : Bool) (r1 : Int) (r2 : Bool) (w : World) (hr0 : Kd.C k35 w A0 l0.length l0) (hc0 : l0.length ≤ c0) (h : pattern_part.f k l0 a1 a2 a3 = some (r1, r2)) :
 Calls Try.prog 37 #[.slice A0 l0.length c0, .string a1, .bool a2, .bool a3] w fun e w' => e = .returned (.tuple #[.int .i64 r1, .bool r2]) ∧ Below w.heap.size w w' := by
 have HR0 := m_ hr0
 have HC0 := m_ hc0
 clear hr0 hc0
 have HB := m_ (Below.refl w.heap.size w)
 have H : ((pattern_allValid.f k l0).bind fun t199 => (if t199 = true then (pattern_part.l0 k l0 a1 a2 a3 0) else (some (0, false)))) = some (r1, r2) := h
 clear h
 replace H := Option.bind_eq_some_iff.mp H
 obtain ⟨t199, A50, H⟩ := H
 try dsimp -simprocs only at H
 have A5 := m_ A50
 clear A50
 by_cases c6 : t199 = true
 ·
  subst c6
  rw [if_pos rfl] at H
  have H' := m_ H
  clear H
  go_enter Try.func37, Try.ntmps37
  go_wp2_with (first | ((with_reducible refine gate_callee (f := 35) rfl ?_); refine goesL_ (some 14) rfl rfl Try.func35 (by kernel_rfl) rfl #[.slice A0 l0.length c0] rfl (by (try simp only [List.map_toArray, List.map_cons, List.map_nil]); first | done | rfl | (simp only [List.length_drop, List.length_take]; rfl)) ?_; (with_reducible refine (pattern_allValid.calls k _ _ l0 true _ ?side1 ?side2 A5.out).mono ?_); (case side1 => repeat (first | exact HR0.out | (with_reducible refine Kd.C_alloc ?_ _) | (with_reducible refine Kd.C_drewN ?_ _) | (with_reducible refine Kd.C_drew ?_))); (case side2 => exact HC0.out); rintro e w7 ⟨rfl, hb⟩; refine ⟨_, rfl, ?_⟩; replace HB := m_ (l5_ (by repeat (with_reducible first | exact HB.out | apply l1_ | apply l2_ | apply l3_)) hb); (try clear hb)))
  go_loopg [10] k (fun kq v10 w' => ∃ (x10_1 : Int), v10 = .int .i64 x10_1 ∧ Aside0 (pattern_part.l0 kq l0 a1 a2 a3 x10_1 = some (r1, r2)) ∧ Aside0 (kq ≤ k) ∧ Aside0 (Below w.heap.size w w'))
  case atStart => exact ⟨(0), (by first | rfl | (simp; done) | (simp [*]; done)), H', ⟨Nat.le_refl _⟩, ⟨by repeat (with_reducible first | exact HB.out | apply l1_ | apply l2_ | apply l3_)⟩⟩
  case round =>
   clear H'
   (try clear p2); (try clear c3); (try clear c6)
   obtain ⟨x10_1, rfl, HA, HK1, HB⟩ := hrel
   cases gk with
   | zero => exact absurd HA.out (by simp [pattern_part.l0])
   | succ k1 =>
    have H := HA.out
    clear HA
    simp only [pattern_part.l0] at H
    by_cases c8 : x10_1 ≤ (a1.size : Int)
    ·
     rw [if_pos c8] at H
     have c8b0 : decide (x10_1 ≤ (a1.size : Int)) = true := decide_eq_true c8
     clear c8
     have HC9 := m_ H
     clear H
     go_upto_if 23 with (fail)
     go_cut [11] (fun v11 wc => ∃ (kq : Nat) (x11_8 : Int), v11 = .int .i64 x11_8 ∧ Aside0 (pattern_part.j1 kq l0 a1 a2 a3 x10_1 x11_8 = some (r1, r2)) ∧ Aside0 (kq ≤ k1) ∧ Aside0 (Below w.heap.size w wc))
     case first =>
      have H := HC9.out
      clear HC9
      by_cases c10 : a2 = true
      ·
       subst c10
       rw [if_pos rfl] at H
       have H' := m_ H
       clear H
       go_wp2
       go_meet
       case rel => exact ⟨_, (wrap64 ((a1.size : Int) - x10_1)), (by first | rfl | (simp; done) | (simp [*]; done)), H', ⟨by have := HK1.out; first | omega | exact Nat.le_refl _⟩, ⟨by repeat (with_reducible first | exact HB.out | apply l1_ | apply l2_ | apply l3_)⟩⟩
      ·
       replace c10 := Bool.eq_false_iff.mpr c10
       subst c10
       rw [if_neg (show ¬ (false = true) by decide)] at H
       have H' := m_ H
       clear H
       go_wp2
       go_meet
       case rel => exact ⟨_, (x10_1), (by first | rfl | (simp; done) | (simp [*]; done)), H', ⟨by have := HK1.out; first | omega | exact Nat.le_refl _⟩, ⟨by repeat (with_reducible first | exact HB.out | apply l1_ | apply l2_ | apply l3_)⟩⟩
     case rest =>
      clear HC9
      (try clear c1); (try clear p2); (try clear c3); (try clear c6); (try clear p6); (try clear c8); (try clear c8b0); (try clear c10); (try clear p2)
      obtain ⟨kq, x11_8, rfl, HA, HJ8, HB⟩ := hcut
      cases kq with
      | zero => exact absurd HA.out (by simp [pattern_part.j1])
      | succ kj8 =>
       have H := HA.out
       clear HA
       simp only [pattern_part.j1] at H
       by_cases c11 : 0 ≤ x11_8
       ·
        rw [if_pos c11] at H
        have c11b0 := eq_true c11
        have c11b1 : decide (0 ≤ x11_8) = true := decide_eq_true c11
        clear c11
        by_cases c12 : x11_8 ≤ (a1.size : Int)
        ·
         rw [if_pos c12] at H
         have c12b0 := eq_true c12
         have c12b1 : decide (x11_8 ≤ (a1.size : Int)) = true := decide_eq_true c12
         clear c12
         by_cases c13 : a3 = true
         ·
          subst c13
          rw [if_pos rfl] at H
          obtain ⟨ji14, hji14⟩ : ∃ j_ : Int, (wrap64 ((a1.size : Int) - x11_8)) = j_ := ⟨_, rfl⟩
          first | rw [hji14] at H | simp only [hji14] at H
          have hji14w : (IntKind.i64.wrap ((a1.size : Int) - x11_8)) = ji14 := (i64_w _).trans hji14
          by_cases c15 : 0 ≤ (ji14)
          ·
           rw [if_pos c15] at H
           have c15b0 := eq_true c15
           have c15b1 : decide (0 ≤ (ji14)) = true := decide_eq_true c15
           clear c15
           by_cases c16 : (ji14) ≤ (a1.size : Int)
           ·
            rw [if_pos c16] at H
            have c16b0 := eq_true c16
            have c16b1 : decide ((ji14) ≤ (a1.size : Int)) = true := decide_eq_true c16
            clear c16
            replace H := Option.bind_eq_some_iff.mp H
            obtain ⟨t200, A170, H⟩ := H
            try dsimp -simprocs only at H
            have A17 := m_ A170
            clear A170
            by_cases c18 : t200 = true
            ·
             subst c18
             rw [if_pos rfl] at H
             simp only [Option.some.injEq, Prod.mk.injEq] at H
             obtain ⟨rfl, rfl⟩ := H
             go_wp2_with (first | ((with_reducible refine gate_callee (f := 36) rfl ?_); refine goesL_ (some 40) rfl rfl Try.func36 (by kernel_rfl) rfl #[.slice A0 l0.length c0, .string (a1.extract ((ji14) : Int).toNat a1.size)] rfl (by (try simp only [List.map_toArray, List.map_cons, List.map_nil]); first | done | (simp only [hji14]; rfl) | rfl | (simp only [List.length_drop, List.length_take]; rfl)) ?_; (with_reducible refine (pattern_matches.calls kj8 _ _ l0 (a1.extract ((ji14) : Int).toNat a1.size) true _ ?side1 ?side2 A17.out).mono ?_); (case side1 => repeat (first | exact (Kd.C_below HR0.out HB.out) | (with_reducible refine Kd.C_alloc ?_ _) | (with_reducible refine Kd.C_drewN ?_ _) | (with_reducible refine Kd.C_drew ?_))); (case side2 => exact HC0.out); rintro e w19 ⟨rfl, hb⟩; refine ⟨_, rfl, ?_⟩; replace HB := m_ (l5_ (by repeat (with_reducible first | exact HB.out | apply l1_ | apply l2_ | apply l3_)) hb); (try clear hb)))
             go_ret2
             exact ⟨by first | rfl | (simp [errW_none, errW_some] <;> rfl) | (simp only [← hji14]; first | rfl | (simp [errW_none, errW_some] <;> rfl)) | (simp [*, errW_none, errW_some] <;> rfl), by repeat (with_reducible first | exact HB.out | apply l1_ | apply l2_ | apply l3_)⟩
            ·
             replace c18 := Bool.eq_false_iff.mpr c18
             subst c18
             rw [if_neg (show ¬ (false = true) by decide)] at H
             have H' := m_ H
             clear H
             go_wp2_with (first | ((with_reducible refine gate_callee (f := 36) rfl ?_); refine goesL_ (some 40) rfl rfl Try.func36 (by kernel_rfl) rfl #[.slice A0 l0.length c0, .string (a1.extract ((ji14) : Int).toNat a1.size)] rfl (by (try simp only [List.map_toArray, List.map_cons, List.map_nil]); first | done | (simp only [hji14]; rfl) | rfl | (simp only [List.length_drop, List.length_take]; rfl)) ?_; (with_reducible refine (pattern_matches.calls kj8 _ _ l0 (a1.extract ((ji14) : Int).toNat a1.size) false _ ?side1 ?side2 A17.out).mono ?_); (case side1 => repeat (first | exact (Kd.C_below HR0.out HB.out) | (with_reducible refine Kd.C_alloc ?_ _) | (with_reducible refine Kd.C_drewN ?_ _) | (with_reducible refine Kd.C_drew ?_))); (case side2 => exact HC0.out); rintro e w20 ⟨rfl, hb⟩; refine ⟨_, rfl, ?_⟩; replace HB := m_ (l5_ (by repeat (with_reducible first | exact HB.out | apply l1_ | apply l2_ | apply l3_)) hb); (try clear hb)))
             go_roundg kj8
             case measure => have := HK1.out; have := HJ8.out; omega
             case rel => exact ⟨(wrap64 (x10_1 + 1)), (by first | rfl | (simp; done) | (simp [*]; done)), H', ⟨by have := HK1.out; have := HJ8.out; omega⟩, ⟨by repeat (with_reducible first | exact HB.out | apply l1_ | apply l2_ | apply l3_)⟩⟩
           rw [if_neg c16] at H
           exact absurd H (by simp)
          rw [if_neg c15] at H
          exact absurd H (by simp)
         ·
          replace c13 := Bool.eq_false_iff.mpr c13
          subst c13
          rw [if_neg (show ¬ (false = true) by decide)] at H
          replace H := Option.bind_eq_some_iff.mp H
          obtain ⟨t201, A210, H⟩ := H
          try dsimp -simprocs only at H
          have A21 := m_ A210
          clear A210
          by_cases c22 : t201 = true
          ·
           subst c22
           rw [if_pos rfl] at H
           simp only [Option.some.injEq, Prod.mk.injEq] at H
           obtain ⟨rfl, rfl⟩ := H
           go_wp2_with (first | ((with_reducible refine gate_callee (f := 36) rfl ?_); refine goesL_ (some 40) rfl rfl Try.func36 (by kernel_rfl) rfl #[.slice A0 l0.length c0, .string (a1.extract 0 (x11_8 : Int).toNat)] rfl (by (try simp only [List.map_toArray, List.map_cons, List.map_nil]); first | done | rfl | (simp only [List.length_drop, List.length_take]; rfl)) ?_; (with_reducible refine (pattern_matches.calls kj8 _ _ l0 (a1.extract 0 (x11_8 : Int).toNat) true _ ?side1 ?side2 A21.out).mono ?_); (case side1 => repeat (first | exact (Kd.C_below HR0.out HB.out) | (with_reducible refine Kd.C_alloc ?_ _) | (with_reducible refine Kd.C_drewN ?_ _) | (with_reducible refine Kd.C_drew ?_))); (case side2 => exact HC0.out); rintro e w23 ⟨rfl, hb⟩; refine ⟨_, rfl, ?_⟩; replace HB := m_ (l5_ (by repeat (with_reducible first | exact HB.out | apply l1_ | apply l2_ | apply l3_)) hb); (try clear hb)))
           go_ret2
           exact ⟨by first | rfl | (simp [errW_none, errW_some] <;> rfl) | (simp [*, errW_none, errW_some] <;> rfl), by repeat (with_reducible first | exact HB.out | apply l1_ | apply l2_ | apply l3_)⟩
          ·
           replace c22 := Bool.eq_false_iff.mpr c22
           subst c22
           rw [if_neg (show ¬ (false = true) by decide)] at H
           have H' := m_ H
           clear H
           go_wp2_with (first | ((with_reducible refine gate_callee (f := 36) rfl ?_); refine goesL_ (some 40) rfl rfl Try.func36 (by kernel_rfl) rfl #[.slice A0 l0.length c0, .string (a1.extract 0 (x11_8 : Int).toNat)] rfl (by (try simp only [List.map_toArray, List.map_cons, List.map_nil]); first | done | rfl | (simp only [List.length_drop, List.length_take]; rfl)) ?_; (with_reducible refine (pattern_matches.calls kj8 _ _ l0 (a1.extract 0 (x11_8 : Int).toNat) false _ ?side1 ?side2 A21.out).mono ?_); (case side1 => repeat (first | exact (Kd.C_below HR0.out HB.out) | (with_reducible refine Kd.C_alloc ?_ _) | (with_reducible refine Kd.C_drewN ?_ _) | (with_reducible refine Kd.C_drew ?_))); (case side2 => exact HC0.out); rintro e w24 ⟨rfl, hb⟩; refine ⟨_, rfl, ?_⟩; replace HB := m_ (l5_ (by repeat (with_reducible first | exact HB.out | apply l1_ | apply l2_ | apply l3_)) hb); (try clear hb)))
           go_roundg kj8
           case measure => have := HK1.out; have := HJ8.out; omega
           case rel => exact ⟨(wrap64 (x10_1 + 1)), (by first | rfl | (simp; done) | (simp [*]; done)), H', ⟨by have := HK1.out; have := HJ8.out; omega⟩, ⟨by repeat (with_reducible first | exact HB.out | apply l1_ | apply l2_ | apply l3_)⟩⟩
        rw [if_neg c12] at H
        exact absurd H (by simp)
       rw [if_neg c11] at H
       exact absurd H (by simp)
    rw [if_neg c8] at H
    have c8b0 : decide (x10_1 ≤ (a1.size : Int)) = false := decide_eq_false c8
    clear c8
    simp only [Option.some.injEq, Prod.mk.injEq] at H
    obtain ⟨rfl, rfl⟩ := H
    go_wp2
    go_ret2
    exact ⟨by first | rfl | (simp [errW_none, errW_some] <;> rfl) | (simp [*, errW_none, errW_some] <;> rfl), by repeat (with_reducible first | exact HB.out | apply l1_ | apply l2_ | apply l3_)⟩
 ·
  replace c6 := Bool.eq_false_iff.mpr c6
  subst c6
  rw [if_neg (show ¬ (false = true) by decide)] at H
  simp only [Option.some.injEq, Prod.mk.injEq] at H
  obtain ⟨rfl, rfl⟩ := H
  go_enter Try.func37, Try.ntmps37
  go_wp2_with (first | ((with_reducible refine gate_callee (f := 35) rfl ?_); refine goesL_ (some 14) rfl rfl Try.func35 (by kernel_rfl) rfl #[.slice A0 l0.length c0] rfl (by (try simp only [List.map_toArray, List.map_cons, List.map_nil]); first | done | rfl | (simp only [List.length_drop, List.length_take]; rfl)) ?_; (with_reducible refine (pattern_allValid.calls k _ _ l0 false _ ?side1 ?side2 A5.out).mono ?_); (case side1 => repeat (first | exact HR0.out | (with_reducible refine Kd.C_alloc ?_ _) | (with_reducible refine Kd.C_drewN ?_ _) | (with_reducible refine Kd.C_drew ?_))); (case side2 => exact HC0.out); rintro e w25 ⟨rfl, hb⟩; refine ⟨_, rfl, ?_⟩; replace HB := m_ (l5_ (by repeat (with_reducible first | exact HB.out | apply l1_ | apply l2_ | apply l3_)) hb); (try clear hb)))
  go_ret2
  exact ⟨by first | rfl | (simp [errW_none, errW_some] <;> rfl) | (simp [*, errW_none, errW_some] <;> rfl), by repeat (with_reducible first | exact HB.out | apply l1_ | apply l2_ | apply l3_)⟩
end Go.Proofs.Ytbekhjcnmifnnaa.Q
