-- Written by a program of this session's (wip/fork/fprint.py over the kit's print.py). Not trusted: Lean checks it.
import Derived.Test.YtbekhjcnmifnnaaQ0
import Derived.Test.YtbekhjcnmifnnaaQ15
import Derived.Test.YtbekhjcnmifnnaaQ17
import Derived.Test.YtbekhjcnmifnnaaQ24
import Derived.Test.YtbekhjcnmifnnaaQ26
import Derived.Test.YtbekhjcnmifnnaaQ27
namespace Go.Proofs.Ytbekhjcnmifnnaa.Q
open Go.RowKit Go.Proofs.YtbekhjcnmifnnaaW.PrintWords Go.Proofs.YtbekhjcnmifnnaaW.PrintLast Go.Proofs.YtbekhjcnmifnnaaW.PrintMore
attribute [local go_sem] max2_int min2_int max_two min_two max_three min_three max_four min_four   -- for this text's walks alone
set_option linter.unusedVariables false
set_option linter.unusedSimpArgs false

/-! ### jobshelllaw04_PatternStars: function 4 -/
mutual
def jobshelllaw04_PatternStars.j0 : Nat → List (S35) → ByteArray → ByteArray → Bool → Option (Bool)
  | 0, _, _, _, _ => none
  | k + 1, x0, x1, x2, x24 => if x24 = true then ((jobshelllaw04_awake.f k).bind fun t333 => (some t333)) else ((pattern_Prefix.f k x0 x1 false).bind fun bt334 => ((pattern_Prefix.f k x0 x1 true).bind fun bt336 => (if (bt334.2 != bt336.2) = true then (none) else (if bt334.1 > bt336.1 then (none) else (if bt334.1 < 0 then (none) else (if bt336.1 > (x1.size : Int) then (none) else (if bt334.2 = true then (if 0 ≤ bt334.1 then (if bt334.1 ≤ (x1.size : Int) then ((pattern_Match.f k x0 (x1.extract 0 (bt334.1 : Int).toNat)).bind fun t338 => (if t338 = true then (if 0 ≤ bt336.1 then (if bt336.1 ≤ (x1.size : Int) then ((pattern_Match.f k x0 (x1.extract 0 (bt336.1 : Int).toNat)).bind fun t339 => (jobshelllaw04_PatternStars.j1 k x0 x1 x2 (!t339))) else (none)) else (none)) else (none))) else (none)) else (none)) else (jobshelllaw04_PatternStars.j1 k x0 x1 x2 false))))))))
def jobshelllaw04_PatternStars.j1 : Nat → List (S35) → ByteArray → ByteArray → Bool → Option (Bool)
  | 0, _, _, _, _ => none
  | k + 1, x0, x1, x2, x74 => if x74 = true then (none) else ((some (([] : List (S35)) : List (S35))).bind fun y340 => (if y340.length + x0.length < 2513169434916 then ((some (y340 ++ x0 : List (S35))).bind fun y343 => (if y343.length < 2513169434916 then (if x1.size + x2.size ≤ 9223372036854775807 then ((pattern_Match.f k (y343 ++ [(⟨3, (⟨#[]⟩ : ByteArray), false, ([] : List (S58))⟩ : S35)]) (x1 ++ x2)).bind fun t349 => ((jobshelllaw04_prefixes.f k x0 (x1 ++ x2)).bind fun t350 => (if (t349 == t350) = true then ((jobshelllaw04_awake.f k).bind fun t351 => (some t351)) else (none)))) else (none)) else (none))) else (none)))
end
def jobshelllaw04_PatternStars.f (k : Nat) (l0 : List (S35)) (a1 : ByteArray) (a2 : ByteArray) : Option (Bool) := (jobshellref04_Few.f k l0 10).bind fun t332 => (if t332 = true then (if (a1.size : Int) > 30 then (jobshelllaw04_PatternStars.j0 k l0 a1 a2 true) else (jobshelllaw04_PatternStars.j0 k l0 a1 a2 (decide ((a2.size : Int) > 30)))) else (jobshelllaw04_PatternStars.j0 k l0 a1 a2 true))
theorem jobshelllaw04_PatternStars.mono_l : ∀ k, (∀ y0 y1 y2 y3, LeO (jobshelllaw04_PatternStars.j0 k y0 y1 y2 y3) (jobshelllaw04_PatternStars.j0 (k + 1) y0 y1 y2 y3)) ∧ (∀ y0 y1 y2 y3, LeO (jobshelllaw04_PatternStars.j1 k y0 y1 y2 y3) (jobshelllaw04_PatternStars.j1 (k + 1) y0 y1 y2 y3))
  | 0 => ⟨fun _ _ _ _ r h => by simp [jobshelllaw04_PatternStars.j0] at h, fun _ _ _ _ r h => by simp [jobshelllaw04_PatternStars.j1] at h⟩
  | k + 1 => by
    obtain ⟨ih0, ih1⟩ := jobshelllaw04_PatternStars.mono_l k
    refine ⟨?_, ?_⟩
    · intro y0 y1 y2 y3
      unfold jobshelllaw04_PatternStars.j0
      repeat' first
      | (with_reducible exact ih0 _ _ _ _)
      | (with_reducible exact ih1 _ _ _ _)
      | (with_reducible exact jobshelllaw04_awake.mono _)
      | (with_reducible exact jobshelllaw04_prefixes.mono _ _ _)
      | (with_reducible exact jobshellref04_Few.mono _ _ _)
      | (with_reducible exact pattern_Match.mono _ _ _)
      | (with_reducible exact pattern_Prefix.mono _ _ _ _)
      | (with_reducible exact LeO.refl _)
      | (with_reducible exact LeO.none _)
      | (with_reducible refine LeO.ite ?_ ?_)
      | (with_reducible refine LeO.bind ?_ (fun _ => ?_))
      | exact ih0 _ _ _ _
      | exact ih1 _ _ _ _
      | exact jobshelllaw04_awake.mono _
      | exact jobshelllaw04_prefixes.mono _ _ _
      | exact jobshellref04_Few.mono _ _ _
      | exact pattern_Match.mono _ _ _
      | exact pattern_Prefix.mono _ _ _ _
      | exact LeO.none _
      | refine LeO.ite ?_ ?_
      | refine LeO.bind ?_ (fun _ => ?_)
    · intro y0 y1 y2 y3
      unfold jobshelllaw04_PatternStars.j1
      repeat' first
      | (with_reducible exact ih0 _ _ _ _)
      | (with_reducible exact ih1 _ _ _ _)
      | (with_reducible exact jobshelllaw04_awake.mono _)
      | (with_reducible exact jobshelllaw04_prefixes.mono _ _ _)
      | (with_reducible exact jobshellref04_Few.mono _ _ _)
      | (with_reducible exact pattern_Match.mono _ _ _)
      | (with_reducible exact pattern_Prefix.mono _ _ _ _)
      | (with_reducible exact LeO.refl _)
      | (with_reducible exact LeO.none _)
      | (with_reducible refine LeO.ite ?_ ?_)
      | (with_reducible refine LeO.bind ?_ (fun _ => ?_))
      | exact ih0 _ _ _ _
      | exact ih1 _ _ _ _
      | exact jobshelllaw04_awake.mono _
      | exact jobshelllaw04_prefixes.mono _ _ _
      | exact jobshellref04_Few.mono _ _ _
      | exact pattern_Match.mono _ _ _
      | exact pattern_Prefix.mono _ _ _ _
      | exact LeO.none _
      | refine LeO.ite ?_ ?_
      | refine LeO.bind ?_ (fun _ => ?_)
theorem jobshelllaw04_PatternStars.mono : ∀ a0 a1 a2 k, LeO (jobshelllaw04_PatternStars.f k a0 a1 a2) (jobshelllaw04_PatternStars.f (k + 1) a0 a1 a2) := by
  intro a0 a1 a2 k
  obtain ⟨ih0, ih1⟩ := jobshelllaw04_PatternStars.mono_l k
  unfold jobshelllaw04_PatternStars.f
  repeat' first
      | (with_reducible exact ih0 _ _ _ _)
      | (with_reducible exact ih1 _ _ _ _)
      | (with_reducible exact jobshelllaw04_awake.mono _)
      | (with_reducible exact jobshelllaw04_prefixes.mono _ _ _)
      | (with_reducible exact jobshellref04_Few.mono _ _ _)
      | (with_reducible exact pattern_Match.mono _ _ _)
      | (with_reducible exact pattern_Prefix.mono _ _ _ _)
      | (with_reducible exact LeO.refl _)
      | (with_reducible exact LeO.none _)
      | (with_reducible refine LeO.ite ?_ ?_)
      | (with_reducible refine LeO.bind ?_ (fun _ => ?_))
      | exact ih0 _ _ _ _
      | exact ih1 _ _ _ _
      | exact jobshelllaw04_awake.mono _
      | exact jobshelllaw04_prefixes.mono _ _ _
      | exact jobshellref04_Few.mono _ _ _
      | exact pattern_Match.mono _ _ _
      | exact pattern_Prefix.mono _ _ _ _
      | exact LeO.none _
      | refine LeO.ite ?_ ?_
      | refine LeO.bind ?_ (fun _ => ?_)
set_option maxHeartbeats 8000000 in
set_option maxRecDepth 100000 in
theorem jobshelllaw04_PatternStars.calls (k : Nat) (P0_ : Nat → Prop) (A0 : Option Addr) (c0 : Nat) (l0 : List (S35)) (a1 : ByteArray) (a2 : ByteArray) (r : Bool) (w : World) (hs0 : Kd.V k35 35 w w.heap.size (fun k_ => P0_ k_) (.slice A0 l0.length c0) l0) (h : jobshelllaw04_PatternStars.f k l0 a1 a2 = some r) :
    Calls Try.prog 4 #[.slice A0 l0.length c0, .string a1, .string a2] w fun e w' => e = .returned (.bool r) ∧ Below w.heap.size w w' := by
  have hu35 := Try.underlying35
  have HO0 := Aside0.mk (show Kd.V k35 35 w w.heap.size (fun k_ => (P0_ k_ ∨ w.heap.size ≤ k_)) (.slice A0 l0.length c0) l0 from Kd.V_mono hs0 (fun k_ hk => .inl hk))
  have HB := Aside0.mk (Below.refl w.heap.size w)
  have H : ((jobshellref04_Few.f k l0 10).bind fun t332 => (if t332 = true then (if (a1.size : Int) > 30 then (jobshelllaw04_PatternStars.j0 k l0 a1 a2 true) else (jobshelllaw04_PatternStars.j0 k l0 a1 a2 (decide ((a2.size : Int) > 30)))) else (jobshelllaw04_PatternStars.j0 k l0 a1 a2 true))) = some r := h
  clear h
  have HC4 := Aside0.mk H
  clear H
  go_enter Try.func4, Try.ntmps4
  go_upto_region 1 with (fail)
  go_cut [24] (fun v24 wc => ∃ (kq : Nat) (x24_3 : Bool), v24 = .bool x24_3 ∧ Aside0 (jobshelllaw04_PatternStars.j0 kq l0 a1 a2 x24_3 = some r) ∧ Aside0 (kq ≤ k) ∧ Aside0 (Kd.V k35 35 wc w.heap.size (fun k_ => (P0_ k_ ∨ w.heap.size ≤ k_)) (.slice A0 l0.length c0) l0) ∧ Aside0 (Below w.heap.size w wc))
  case first =>
    have H := HC4.out
    clear HC4
    replace H := Option.bind_eq_some_iff.mp H
    obtain ⟨t332, A50, H⟩ := H
    replace H : (if t332 = true then (if (a1.size : Int) > 30 then (jobshelllaw04_PatternStars.j0 k l0 a1 a2 true) else (jobshelllaw04_PatternStars.j0 k l0 a1 a2 (decide ((a2.size : Int) > 30)))) else (jobshelllaw04_PatternStars.j0 k l0 a1 a2 true)) = some r := H
    have A5 := Aside0.mk A50
    clear A50
    by_cases c6 : t332 = true
    · subst c6
      have H1 : (if (a1.size : Int) > 30 then (jobshelllaw04_PatternStars.j0 k l0 a1 a2 true) else (jobshelllaw04_PatternStars.j0 k l0 a1 a2 (decide ((a2.size : Int) > 30)))) = some r := by rw [if_pos rfl] at H; exact H
      clear H
      have H := H1
      clear H1
      by_cases c7 : (a1.size : Int) > 30
      · rw [if_pos c7] at H
        have c7b0 : decide (30 < (a1.size : Int)) = true := decide_eq_true c7
        have c7b1 : decide (30 < a1.size) = true := decide_eq_true (by omega)
        clear c7
        (first | rw [c7b0] | (simp only [i64_w, i32_w]; rw [c7b0]) | skip)
        have H' := Aside0.mk H
        clear H
        go_wp2_with (first | ((with_reducible refine gate_callee (f := 16) rfl ?_); refine goesL_ (some 13) rfl rfl Try.func16 (by kernel_rfl) rfl #[.slice A0 l0.length c0, .int .i64 10] rfl (by (try simp only [List.map_toArray, List.map_cons, List.map_nil]); first | done | rfl | (simp only [List.length_drop, List.length_take]; rfl)) ?_; (with_reducible refine (jobshellref04_Few.calls k _ _ l0 10 true _ ?side1 ?side2 A5.out).mono ?_); (case side1 => repeat (first | exact (Kd.V_reads' HO0.out).2.2 | (with_reducible refine Kd.C_alloc ?_ _) | (with_reducible refine Kd.C_drewN ?_ _) | (with_reducible refine Kd.C_drew ?_))); (case side2 => exact (Kd.V_reads' HO0.out).2.1); rintro e w' ⟨rfl, ⟨nd, rfl⟩⟩; refine ⟨_, rfl, ?_⟩))
        go_meet
        case rel => exact ⟨_, (true), (by first | rfl | (simp; done) | (simp [*]; done)), H', ⟨by first | omega | exact Nat.le_refl _⟩, ⟨by (with_reducible repeat (first | apply Kd.V_alloc | apply Kd.V_drewN | apply Kd.V_drew)); exact HO0.out⟩, ⟨by repeat (first | (with_reducible first | exact HB.out | apply below_alloc | apply pw_below_drewN | apply below_drew1) | exact HB.out)⟩⟩
      rw [if_neg c7] at H
      have c7b0 : decide (30 < (a1.size : Int)) = false := decide_eq_false c7
      have c7b1 : decide (30 < a1.size) = false := decide_eq_false (by omega)
      clear c7
      (first | rw [c7b0] | (simp only [i64_w, i32_w]; rw [c7b0]) | skip)
      have H' := Aside0.mk H
      clear H
      go_wp2_with (first | ((with_reducible refine gate_callee (f := 16) rfl ?_); refine goesL_ (some 13) rfl rfl Try.func16 (by kernel_rfl) rfl #[.slice A0 l0.length c0, .int .i64 10] rfl (by (try simp only [List.map_toArray, List.map_cons, List.map_nil]); first | done | rfl | (simp only [List.length_drop, List.length_take]; rfl)) ?_; (with_reducible refine (jobshellref04_Few.calls k _ _ l0 10 true _ ?side1 ?side2 A5.out).mono ?_); (case side1 => repeat (first | exact (Kd.V_reads' HO0.out).2.2 | (with_reducible refine Kd.C_alloc ?_ _) | (with_reducible refine Kd.C_drewN ?_ _) | (with_reducible refine Kd.C_drew ?_))); (case side2 => exact (Kd.V_reads' HO0.out).2.1); rintro e w' ⟨rfl, ⟨nd, rfl⟩⟩; refine ⟨_, rfl, ?_⟩))
      go_meet
      case rel => exact ⟨_, (decide ((a2.size : Int) > 30)), (by first | rfl | (simp; done) | (simp [*]; done)), H', ⟨by first | omega | exact Nat.le_refl _⟩, ⟨by (with_reducible repeat (first | apply Kd.V_alloc | apply Kd.V_drewN | apply Kd.V_drew)); exact HO0.out⟩, ⟨by repeat (first | (with_reducible first | exact HB.out | apply below_alloc | apply pw_below_drewN | apply below_drew1) | exact HB.out)⟩⟩
    · replace c6 := Bool.eq_false_iff.mpr c6
      subst c6
      have H1 : (jobshelllaw04_PatternStars.j0 k l0 a1 a2 true) = some r := by rw [if_neg (show ¬ (false = true) by decide)] at H; exact H
      clear H
      have H := H1
      clear H1
      have H' := Aside0.mk H
      clear H
      go_wp2_with (first | ((with_reducible refine gate_callee (f := 16) rfl ?_); refine goesL_ (some 13) rfl rfl Try.func16 (by kernel_rfl) rfl #[.slice A0 l0.length c0, .int .i64 10] rfl (by (try simp only [List.map_toArray, List.map_cons, List.map_nil]); first | done | rfl | (simp only [List.length_drop, List.length_take]; rfl)) ?_; (with_reducible refine (jobshellref04_Few.calls k _ _ l0 10 false _ ?side1 ?side2 A5.out).mono ?_); (case side1 => repeat (first | exact (Kd.V_reads' HO0.out).2.2 | (with_reducible refine Kd.C_alloc ?_ _) | (with_reducible refine Kd.C_drewN ?_ _) | (with_reducible refine Kd.C_drew ?_))); (case side2 => exact (Kd.V_reads' HO0.out).2.1); rintro e w' ⟨rfl, ⟨nd, rfl⟩⟩; refine ⟨_, rfl, ?_⟩))
      go_meet
      case rel => exact ⟨_, (true), (by first | rfl | (simp; done) | (simp [*]; done)), H', ⟨by first | omega | exact Nat.le_refl _⟩, ⟨by (with_reducible repeat (first | apply Kd.V_alloc | apply Kd.V_drewN | apply Kd.V_drew)); exact HO0.out⟩, ⟨by repeat (first | (with_reducible first | exact HB.out | apply below_alloc | apply pw_below_drewN | apply below_drew1) | exact HB.out)⟩⟩
  case rest =>
    clear HC4
    try clear c1
    try clear p2
    try clear c4
    try clear c6
    try clear c7
    try clear c7b0
    try clear c7b1
    obtain ⟨kq, x24_3, rfl, HA, HJ3, HO_0, HB⟩ := hcut
    cases kq with
    | zero => exact absurd HA.out (by simp [jobshelllaw04_PatternStars.j0])
    | succ kj3 =>
      have H := HA.out
      clear HA
      simp only [jobshelllaw04_PatternStars.j0] at H
      by_cases c8 : x24_3 = true
      · subst c8
        have H1 : ((jobshelllaw04_awake.f kj3).bind fun t333 => (some t333)) = some r := by rw [if_pos rfl] at H; exact H
        clear H
        have H := H1
        clear H1
        replace H := Option.bind_eq_some_iff.mp H
        obtain ⟨t333, A90, H⟩ := H
        replace H : (some t333) = some r := H
        have A9 := Aside0.mk A90
        clear A90
        obtain rfl := Option.some.inj H
        go_wp2_with (first | ((with_reducible refine gate_callee (f := 12) rfl ?_); refine goesL_ (some 25) rfl rfl Try.func12 (by kernel_rfl) rfl #[] rfl (by (try simp only [List.map_toArray, List.map_cons, List.map_nil]); first | done | rfl | (simp only [List.length_drop, List.length_take]; rfl)) ?_; (with_reducible refine (jobshelllaw04_awake.calls kj3  t333 _ A9.out).mono ?_); rintro e w10 ⟨rfl, hb⟩; refine ⟨_, rfl, ?_⟩; have n0_ := Aside0.mk (Kd.V_below (by (with_reducible repeat (first | apply Kd.V_alloc | apply Kd.V_drewN | apply Kd.V_drew)); exact HO_0.out) hb); have n1_ := Aside0.mk (below_step (by repeat (first | (with_reducible first | exact HB.out | apply below_alloc | apply pw_below_drewN | apply below_drew1) | exact HB.out)) hb); clear HO_0; clear HB; have HO_0 := n0_; have HB := n1_; clear n0_ n1_; (try clear hb); (try clear hb2); (try clear hk); (try clear hi)))
        go_ret
        exact ⟨by first | rfl | (simp [errW_none, errW_some] <;> rfl) | (simp [*, errW_none, errW_some] <;> rfl), by repeat (first | (with_reducible first | exact HB.out | apply below_alloc | apply pw_below_drewN | apply below_drew1) | exact HB.out)⟩
      · replace c8 := Bool.eq_false_iff.mpr c8
        subst c8
        have H1 : ((pattern_Prefix.f kj3 l0 a1 false).bind fun bt334 => ((pattern_Prefix.f kj3 l0 a1 true).bind fun bt336 => (if (bt334.2 != bt336.2) = true then (none) else (if bt334.1 > bt336.1 then (none) else (if bt334.1 < 0 then (none) else (if bt336.1 > (a1.size : Int) then (none) else (if bt334.2 = true then (if 0 ≤ bt334.1 then (if bt334.1 ≤ (a1.size : Int) then ((pattern_Match.f kj3 l0 (a1.extract 0 (bt334.1 : Int).toNat)).bind fun t338 => (if t338 = true then (if 0 ≤ bt336.1 then (if bt336.1 ≤ (a1.size : Int) then ((pattern_Match.f kj3 l0 (a1.extract 0 (bt336.1 : Int).toNat)).bind fun t339 => (jobshelllaw04_PatternStars.j1 kj3 l0 a1 a2 (!t339))) else (none)) else (none)) else (none))) else (none)) else (none)) else (jobshelllaw04_PatternStars.j1 kj3 l0 a1 a2 false)))))))) = some r := by rw [if_neg (show ¬ (false = true) by decide)] at H; exact H
        clear H
        have H := H1
        clear H1
        replace H := Option.bind_eq_some_iff.mp H
        obtain ⟨⟨t334, t335⟩, A110, H⟩ := H
        replace H : ((pattern_Prefix.f kj3 l0 a1 true).bind fun bt336 => (if (t335 != bt336.2) = true then (none) else (if t334 > bt336.1 then (none) else (if t334 < 0 then (none) else (if bt336.1 > (a1.size : Int) then (none) else (if t335 = true then (if 0 ≤ t334 then (if t334 ≤ (a1.size : Int) then ((pattern_Match.f kj3 l0 (a1.extract 0 (t334 : Int).toNat)).bind fun t338 => (if t338 = true then (if 0 ≤ bt336.1 then (if bt336.1 ≤ (a1.size : Int) then ((pattern_Match.f kj3 l0 (a1.extract 0 (bt336.1 : Int).toNat)).bind fun t339 => (jobshelllaw04_PatternStars.j1 kj3 l0 a1 a2 (!t339))) else (none)) else (none)) else (none))) else (none)) else (none)) else (jobshelllaw04_PatternStars.j1 kj3 l0 a1 a2 false))))))) = some r := H
        have A11 := Aside0.mk A110
        clear A110
        replace H := Option.bind_eq_some_iff.mp H
        obtain ⟨⟨t336, t337⟩, A120, H⟩ := H
        replace H : (if (t335 != t337) = true then (none) else (if t334 > t336 then (none) else (if t334 < 0 then (none) else (if t336 > (a1.size : Int) then (none) else (if t335 = true then (if 0 ≤ t334 then (if t334 ≤ (a1.size : Int) then ((pattern_Match.f kj3 l0 (a1.extract 0 (t334 : Int).toNat)).bind fun t338 => (if t338 = true then (if 0 ≤ t336 then (if t336 ≤ (a1.size : Int) then ((pattern_Match.f kj3 l0 (a1.extract 0 (t336 : Int).toNat)).bind fun t339 => (jobshelllaw04_PatternStars.j1 kj3 l0 a1 a2 (!t339))) else (none)) else (none)) else (none))) else (none)) else (none)) else (jobshelllaw04_PatternStars.j1 kj3 l0 a1 a2 false)))))) = some r := H
        have A12 := Aside0.mk A120
        clear A120
        have HC13 := Aside0.mk H
        clear H
        go_upto_region 5 with (first | ((with_reducible refine gate_callee (f := 17) rfl ?_); refine goesL_ (some 29) rfl rfl Try.func17 (by kernel_rfl) rfl #[.slice A0 l0.length c0, .string a1, .bool false] rfl (by (try simp only [List.map_toArray, List.map_cons, List.map_nil]); first | done | rfl | (simp only [List.length_drop, List.length_take]; rfl)) ?_; (with_reducible refine (pattern_Prefix.calls kj3 _ _ l0 a1 false t334 t335 _ ?side1 ?side2 A11.out).mono ?_); (case side1 => repeat (first | exact (Kd.V_reads' HO_0.out).2.2 | (with_reducible refine Kd.C_alloc ?_ _) | (with_reducible refine Kd.C_drewN ?_ _) | (with_reducible refine Kd.C_drew ?_))); (case side2 => exact (Kd.V_reads' HO_0.out).2.1); rintro e w14 ⟨rfl, hb⟩; refine ⟨_, rfl, ?_⟩; have n0_ := Aside0.mk (Kd.V_below (by (with_reducible repeat (first | apply Kd.V_alloc | apply Kd.V_drewN | apply Kd.V_drew)); exact HO_0.out) hb); have n1_ := Aside0.mk (below_step (by repeat (first | (with_reducible first | exact HB.out | apply below_alloc | apply pw_below_drewN | apply below_drew1) | exact HB.out)) hb); clear HO_0; clear HB; have HO_0 := n0_; have HB := n1_; clear n0_ n1_; (try clear hb); (try clear hb2); (try clear hk); (try clear hi)) | ((with_reducible refine gate_callee (f := 17) rfl ?_); refine goesL_ (some 35) rfl rfl Try.func17 (by kernel_rfl) rfl #[.slice A0 l0.length c0, .string a1, .bool true] rfl (by (try simp only [List.map_toArray, List.map_cons, List.map_nil]); first | done | rfl | (simp only [List.length_drop, List.length_take]; rfl)) ?_; (with_reducible refine (pattern_Prefix.calls kj3 _ _ l0 a1 true t336 t337 _ ?side1 ?side2 A12.out).mono ?_); (case side1 => repeat (first | exact (Kd.V_reads' HO_0.out).2.2 | (with_reducible refine Kd.C_alloc ?_ _) | (with_reducible refine Kd.C_drewN ?_ _) | (with_reducible refine Kd.C_drew ?_))); (case side2 => exact (Kd.V_reads' HO_0.out).2.1); rintro e w15 ⟨rfl, hb⟩; refine ⟨_, rfl, ?_⟩; have n0_ := Aside0.mk (Kd.V_below (by (with_reducible repeat (first | apply Kd.V_alloc | apply Kd.V_drewN | apply Kd.V_drew)); exact HO_0.out) hb); have n1_ := Aside0.mk (below_step (by repeat (first | (with_reducible first | exact HB.out | apply below_alloc | apply pw_below_drewN | apply below_drew1) | exact HB.out)) hb); clear HO_0; clear HB; have HO_0 := n0_; have HB := n1_; clear n0_ n1_; (try clear hb); (try clear hb2); (try clear hk); (try clear hi)))
        (try simp only [Act.put, List.setIfInBounds_toArray, List.set_cons_zero, List.set_cons_succ])
        go_cut [74] (fun v74 wc => ∃ (kq : Nat) (x74_12 : Bool), v74 = .bool x74_12 ∧ Aside0 (jobshelllaw04_PatternStars.j1 kq l0 a1 a2 x74_12 = some r) ∧ Aside0 (kq ≤ kj3) ∧ Aside0 (Kd.V k35 35 wc w.heap.size (fun k_ => (P0_ k_ ∨ w.heap.size ≤ k_)) (.slice A0 l0.length c0) l0) ∧ Aside0 (Below w.heap.size w wc))
        case first =>
          have H := HC13.out
          clear HC13
          by_cases c16 : (t335 != t337) = true
          · rw [if_pos c16] at H
            exact absurd H (by simp)
          rw [if_neg c16] at H
          have c16b0 : (t335 != t337) = false := by simpa using c16
          (try (have c16b1 : decide (t335 = t337) = true := by simpa using c16))
          (try (have c16b2 : (t335 == t337) = true := by simpa using c16))
          clear c16
          (first | rw [c16b0] | (simp only [i64_w, i32_w]; rw [c16b0]) | skip)
          by_cases c17 : t334 > t336
          · rw [if_pos c17] at H
            exact absurd H (by simp)
          rw [if_neg c17] at H
          have c17b0 : decide (t336 < t334) = false := decide_eq_false c17
          clear c17
          by_cases c18 : t334 < 0
          · rw [if_pos c18] at H
            exact absurd H (by simp)
          rw [if_neg c18] at H
          have c18b0 : decide (t334 < 0) = false := decide_eq_false c18
          clear c18
          by_cases c19 : t336 > (a1.size : Int)
          · rw [if_pos c19] at H
            exact absurd H (by simp)
          rw [if_neg c19] at H
          have c19b0 : decide ((a1.size : Int) < t336) = false := decide_eq_false c19
          clear c19
          by_cases c20 : t335 = true
          · subst c20
            have H1 : (if 0 ≤ t334 then (if t334 ≤ (a1.size : Int) then ((pattern_Match.f kj3 l0 (a1.extract 0 (t334 : Int).toNat)).bind fun t338 => (if t338 = true then (if 0 ≤ t336 then (if t336 ≤ (a1.size : Int) then ((pattern_Match.f kj3 l0 (a1.extract 0 (t336 : Int).toNat)).bind fun t339 => (jobshelllaw04_PatternStars.j1 kj3 l0 a1 a2 (!t339))) else (none)) else (none)) else (none))) else (none)) else (none)) = some r := by rw [if_pos rfl] at H; exact H
            clear H
            have H := H1
            clear H1
            by_cases c21 : 0 ≤ t334
            · rw [if_pos c21] at H
              have c21b0 := eq_true c21
              have c21b1 : decide (0 ≤ t334) = true := decide_eq_true c21
              clear c21
              by_cases c22 : t334 ≤ (a1.size : Int)
              · rw [if_pos c22] at H
                have c22b0 := eq_true c22
                have c22b1 : decide (t334 ≤ (a1.size : Int)) = true := decide_eq_true c22
                clear c22
                replace H := Option.bind_eq_some_iff.mp H
                obtain ⟨t338, A230, H⟩ := H
                replace H : (if t338 = true then (if 0 ≤ t336 then (if t336 ≤ (a1.size : Int) then ((pattern_Match.f kj3 l0 (a1.extract 0 (t336 : Int).toNat)).bind fun t339 => (jobshelllaw04_PatternStars.j1 kj3 l0 a1 a2 (!t339))) else (none)) else (none)) else (none)) = some r := H
                have A23 := Aside0.mk A230
                clear A230
                by_cases c24 : t338 = true
                · subst c24
                  have H1 : (if 0 ≤ t336 then (if t336 ≤ (a1.size : Int) then ((pattern_Match.f kj3 l0 (a1.extract 0 (t336 : Int).toNat)).bind fun t339 => (jobshelllaw04_PatternStars.j1 kj3 l0 a1 a2 (!t339))) else (none)) else (none)) = some r := by rw [if_pos rfl] at H; exact H
                  clear H
                  have H := H1
                  clear H1
                  by_cases c25 : 0 ≤ t336
                  · rw [if_pos c25] at H
                    have c25b0 := eq_true c25
                    have c25b1 : decide (0 ≤ t336) = true := decide_eq_true c25
                    clear c25
                    by_cases c26 : t336 ≤ (a1.size : Int)
                    · rw [if_pos c26] at H
                      have c26b0 := eq_true c26
                      have c26b1 : decide (t336 ≤ (a1.size : Int)) = true := decide_eq_true c26
                      clear c26
                      replace H := Option.bind_eq_some_iff.mp H
                      obtain ⟨t339, A270, H⟩ := H
                      replace H : (jobshelllaw04_PatternStars.j1 kj3 l0 a1 a2 (!t339)) = some r := H
                      have A27 := Aside0.mk A270
                      clear A270
                      have H' := Aside0.mk H
                      clear H
                      go_wp2_with (first | (go_at_call 15; (with_reducible refine (pattern_Match.calls kj3 _ _ l0 (a1.extract 0 (t334 : Int).toNat) true _ ?side1 ?side2 A23.out).mono ?_); (case side1 => repeat (first | exact (Kd.V_reads' HO_0.out).2.2 | (with_reducible refine Kd.C_alloc ?_ _) | (with_reducible refine Kd.C_drewN ?_ _) | (with_reducible refine Kd.C_drew ?_))); (case side2 => exact (Kd.V_reads' HO_0.out).2.1); rintro e w28 ⟨rfl, hb⟩; have n0_ := Aside0.mk (Kd.V_below (by (with_reducible repeat (first | apply Kd.V_alloc | apply Kd.V_drewN | apply Kd.V_drew)); exact HO_0.out) hb); have n1_ := Aside0.mk (below_step (by repeat (first | (with_reducible first | exact HB.out | apply below_alloc | apply pw_below_drewN | apply below_drew1) | exact HB.out)) hb); clear HO_0; clear HB; have HO_0 := n0_; have HB := n1_; clear n0_ n1_; (try clear hb); (try clear hb2); (try clear hk); (try clear hi)) | (go_at_call 15; (with_reducible refine (pattern_Match.calls kj3 _ _ l0 (a1.extract 0 (t336 : Int).toNat) t339 _ ?side1 ?side2 A27.out).mono ?_); (case side1 => repeat (first | exact (Kd.V_reads' HO_0.out).2.2 | (with_reducible refine Kd.C_alloc ?_ _) | (with_reducible refine Kd.C_drewN ?_ _) | (with_reducible refine Kd.C_drew ?_))); (case side2 => exact (Kd.V_reads' HO_0.out).2.1); rintro e w29 ⟨rfl, hb⟩; have n0_ := Aside0.mk (Kd.V_below (by (with_reducible repeat (first | apply Kd.V_alloc | apply Kd.V_drewN | apply Kd.V_drew)); exact HO_0.out) hb); have n1_ := Aside0.mk (below_step (by repeat (first | (with_reducible first | exact HB.out | apply below_alloc | apply pw_below_drewN | apply below_drew1) | exact HB.out)) hb); clear HO_0; clear HB; have HO_0 := n0_; have HB := n1_; clear n0_ n1_; (try clear hb); (try clear hb2); (try clear hk); (try clear hi)))
                      go_meet
                      case rel => exact ⟨_, (!t339), (by first | rfl | (simp; done) | (simp [*]; done)), H', ⟨by have := HJ3.out; first | omega | exact Nat.le_refl _⟩, ⟨by (with_reducible repeat (first | apply Kd.V_alloc | apply Kd.V_drewN | apply Kd.V_drew)); exact HO_0.out⟩, ⟨by repeat (first | (with_reducible first | exact HB.out | apply below_alloc | apply pw_below_drewN | apply below_drew1) | exact HB.out)⟩⟩
                    rw [if_neg c26] at H
                    exact absurd H (by simp)
                  rw [if_neg c25] at H
                  exact absurd H (by simp)
                · replace c24 := Bool.eq_false_iff.mpr c24
                  subst c24
                  have H1 : (none) = some r := by rw [if_neg (show ¬ (false = true) by decide)] at H; exact H
                  clear H
                  have H := H1
                  clear H1
                  exact absurd H (by simp)
              rw [if_neg c22] at H
              exact absurd H (by simp)
            rw [if_neg c21] at H
            exact absurd H (by simp)
          · replace c20 := Bool.eq_false_iff.mpr c20
            subst c20
            have H1 : (jobshelllaw04_PatternStars.j1 kj3 l0 a1 a2 false) = some r := by rw [if_neg (show ¬ (false = true) by decide)] at H; exact H
            clear H
            have H := H1
            clear H1
            have H' := Aside0.mk H
            clear H
            go_wp2
            go_meet
            case rel => exact ⟨_, (false), (by first | rfl | (simp; done) | (simp [*]; done)), H', ⟨by have := HJ3.out; first | omega | exact Nat.le_refl _⟩, ⟨by (with_reducible repeat (first | apply Kd.V_alloc | apply Kd.V_drewN | apply Kd.V_drew)); exact HO_0.out⟩, ⟨by repeat (first | (with_reducible first | exact HB.out | apply below_alloc | apply pw_below_drewN | apply below_drew1) | exact HB.out)⟩⟩
        case rest =>
          clear HC13
          try clear c1
          try clear c2
          try clear p2
          try clear c4
          try clear c6
          try clear c7
          try clear c7b0
          try clear c7b1
          try clear c8
          try clear c12
          try clear c16
          try clear c16b0
          try clear c16b1
          try clear c16b2
          try clear c17
          try clear c17b0
          try clear c18
          try clear c18b0
          try clear c19
          try clear c19b0
          try clear c20
          try clear c21
          try clear c21b0
          try clear c21b1
          try clear c22
          try clear c22b0
          try clear c22b1
          try clear c24
          try clear c25
          try clear c25b0
          try clear c25b1
          try clear c26
          try clear c26b0
          try clear c26b1
          try clear p2
          obtain ⟨kq, x74_12, rfl, HA, HJ12, HO_0, HB⟩ := hcut
          cases kq with
          | zero => exact absurd HA.out (by simp [jobshelllaw04_PatternStars.j1])
          | succ kj12 =>
            have H := HA.out
            clear HA
            simp only [jobshelllaw04_PatternStars.j1] at H
            by_cases c30 : x74_12 = true
            · subst c30
              have H1 : (none) = some r := by rw [if_pos rfl] at H; exact H
              clear H
              have H := H1
              clear H1
              exact absurd H (by simp)
            · replace c30 := Bool.eq_false_iff.mpr c30
              subst c30
              have H1 : ((some (([] : List (S35)) : List (S35))).bind fun y340 => (if y340.length + l0.length < 2513169434916 then ((some (y340 ++ l0 : List (S35))).bind fun y343 => (if y343.length < 2513169434916 then (if a1.size + a2.size ≤ 9223372036854775807 then ((pattern_Match.f kj12 (y343 ++ [(⟨3, (⟨#[]⟩ : ByteArray), false, ([] : List (S58))⟩ : S35)]) (a1 ++ a2)).bind fun t349 => ((jobshelllaw04_prefixes.f kj12 l0 (a1 ++ a2)).bind fun t350 => (if (t349 == t350) = true then ((jobshelllaw04_awake.f kj12).bind fun t351 => (some t351)) else (none)))) else (none)) else (none))) else (none))) = some r := by rw [if_neg (show ¬ (false = true) by decide)] at H; exact H
              clear H
              have H := H1
              clear H1
              obtain ⟨y340, hy340⟩ : ∃ y_ : List (S35), y_ = (([] : List (S35))) := ⟨_, rfl⟩
              replace H : (if y340.length + l0.length < 2513169434916 then ((some (y340 ++ l0 : List (S35))).bind fun y343 => (if y343.length < 2513169434916 then (if a1.size + a2.size ≤ 9223372036854775807 then ((pattern_Match.f kj12 (y343 ++ [(⟨3, (⟨#[]⟩ : ByteArray), false, ([] : List (S58))⟩ : S35)]) (a1 ++ a2)).bind fun t349 => ((jobshelllaw04_prefixes.f kj12 l0 (a1 ++ a2)).bind fun t350 => (if (t349 == t350) = true then ((jobshelllaw04_awake.f kj12).bind fun t351 => (some t351)) else (none)))) else (none)) else (none))) else (none)) = some r := by first | (rw [hy340]; with_reducible exact H) | (have H2_ := (Option.bind_some _ _).symm.trans H; rw [hy340]; with_reducible exact H2_) | (have H2_ := (Option.bind_some _ _).symm.trans H; with_reducible exact H2_) | with_reducible exact H | (rw [hy340]; exact H) | exact H
              have Ny340 := Aside0.mk hy340
              clear hy340
              by_cases c31 : y340.length + l0.length < 2513169434916
              · rw [if_pos c31] at H
                have LMc31 := Aside0.mk c31
                clear c31
                obtain ⟨y343, hy343⟩ : ∃ y_ : List (S35), y_ = (y340 ++ l0) := ⟨_, rfl⟩
                replace H : (if y343.length < 2513169434916 then (if a1.size + a2.size ≤ 9223372036854775807 then ((pattern_Match.f kj12 (y343 ++ [(⟨3, (⟨#[]⟩ : ByteArray), false, ([] : List (S58))⟩ : S35)]) (a1 ++ a2)).bind fun t349 => ((jobshelllaw04_prefixes.f kj12 l0 (a1 ++ a2)).bind fun t350 => (if (t349 == t350) = true then ((jobshelllaw04_awake.f kj12).bind fun t351 => (some t351)) else (none)))) else (none)) else (none)) = some r := by first | (rw [hy343]; with_reducible exact H) | (have H2_ := (Option.bind_some _ _).symm.trans H; rw [hy343]; with_reducible exact H2_) | (have H2_ := (Option.bind_some _ _).symm.trans H; with_reducible exact H2_) | with_reducible exact H | (rw [hy343]; exact H) | exact H
                have Ny343 := Aside0.mk hy343
                clear hy343
                by_cases c32 : y343.length < 2513169434916
                · rw [if_pos c32] at H
                  have LMc32 := Aside0.mk c32
                  clear c32
                  obtain ⟨y346, hy346⟩ : ∃ y_ : List (S35), y_ = (y343 ++ [(⟨3, (⟨#[]⟩ : ByteArray), false, ([] : List (S58))⟩ : S35)]) := ⟨_, rfl⟩
                  replace H : (if a1.size + a2.size ≤ 9223372036854775807 then ((pattern_Match.f kj12 y346 (a1 ++ a2)).bind fun t349 => ((jobshelllaw04_prefixes.f kj12 l0 (a1 ++ a2)).bind fun t350 => (if (t349 == t350) = true then ((jobshelllaw04_awake.f kj12).bind fun t351 => (some t351)) else (none)))) else (none)) = some r := by first | (rw [hy346]; with_reducible exact H) | (have H2_ := (Option.bind_some _ _).symm.trans H; rw [hy346]; with_reducible exact H2_) | (have H2_ := (Option.bind_some _ _).symm.trans H; with_reducible exact H2_) | with_reducible exact H | (rw [hy346]; exact H) | exact H
                  have Ny346 := Aside0.mk hy346
                  clear hy346
                  by_cases c33 : a1.size + a2.size ≤ 9223372036854775807
                  · rw [if_pos c33] at H
                    have c33b0 := eq_true c33
                    have c33b1 : decide (a1.size + a2.size ≤ 9223372036854775807) = true := decide_eq_true c33
                    try have c33b2 : (9223372036854775807 < a1.size + a2.size) = False := eq_false (Nat.not_lt.2 c33)
                    replace H := Option.bind_eq_some_iff.mp H
                    obtain ⟨t349, A340, H⟩ := H
                    replace H : ((jobshelllaw04_prefixes.f kj12 l0 (a1 ++ a2)).bind fun t350 => (if (t349 == t350) = true then ((jobshelllaw04_awake.f kj12).bind fun t351 => (some t351)) else (none))) = some r := H
                    have A34 := Aside0.mk A340
                    clear A340
                    replace H := Option.bind_eq_some_iff.mp H
                    obtain ⟨t350, A350, H⟩ := H
                    replace H : (if (t349 == t350) = true then ((jobshelllaw04_awake.f kj12).bind fun t351 => (some t351)) else (none)) = some r := H
                    have A35 := Aside0.mk A350
                    clear A350
                    by_cases c36 : (t349 == t350) = true
                    · rw [if_pos c36] at H
                      have c36b0 : (t349 == t350) = true := c36
                      (try (have c36b1 : decide (t349 = t350) = true := by simpa using c36))
                      (try (have c36b2 : (t349 == t350) = true := by simpa using c36))
                      clear c36
                      replace H := Option.bind_eq_some_iff.mp H
                      obtain ⟨t351, A370, H⟩ := H
                      replace H : (some t351) = some r := H
                      have A37 := Aside0.mk A370
                      clear A370
                      obtain rfl := Option.some.inj H
                      go_wp2_with (first | ((with_reducible refine gate_dst (N := 75) rfl ?_); (try (refine gate_guard (by rfl) ?_; dsimp only)); refine Kd.N_lit k35 _ 35 ?hg (N' := 75) ?hd (xs := ([] : List (S35))) (inner := []) (ok := (fun k_ => (P0_ k_ ∨ w.heap.size ≤ k_))) (okp := (fun k_ => (P0_ k_ ∨ w.heap.size ≤ k_))) ?hr ?hp (fun _ hk => hk) ((show ∀ k_, wc.heap.size ≤ k_ → (fun k_ => (P0_ k_ ∨ w.heap.size ≤ k_)) k_ from fun k_ hk => (.inr (Nat.le_trans (below_size (by repeat (first | (with_reducible first | exact HB.out | apply below_alloc | apply pw_below_drewN | apply below_drew1) | exact HB.out))) hk))) _ (Nat.le_refl _)) (Below.refl _ _) (Nat.le_refl _) (by simp) ?_; (case hd => rfl); (case hg => rfl); (case hr => first | (go_simp; done) | (go_simp; rfl)); (case hp => exact (Reps.none _ _)); intro v341 w38 ho39 hb hg_ hnew_; clear hg_ hnew_; (first | rw [← Ny340.out] at ho39 | (simp only [Int.reduceToNat] at ho39; rw [← Ny340.out] at ho39)); have n0_ := Aside0.mk (Kd.V_elder' (by (with_reducible repeat (first | apply Kd.V_alloc | apply Kd.V_drewN | apply Kd.V_drew)); exact HO_0.out) (Kd.N_base ho39) hb); have n1_ := Aside0.mk (Kd.N_lower ho39 (below_size (by repeat (first | (with_reducible first | exact HB.out | apply below_alloc | apply pw_below_drewN | apply below_drew1) | exact HB.out)))); have n2_ := Aside0.mk (below_step (by repeat (first | (with_reducible first | exact HB.out | apply below_alloc | apply pw_below_drewN | apply below_drew1) | exact HB.out)) hb); clear HO_0; clear HB; have HO_0 := n0_; have HO342 := n1_; have HB := n2_; clear n0_ n1_ n2_; clear hb ho39) | ((with_reducible refine gate_builtin (b := .append) (xs := #[.tmp 75, .tmp 76]) rfl ?_); (try (refine gate_guard (by rfl) ?_; dsimp only)); at_builtin; refine Kd.N_append_rows k35 (w0 := w) w.heap.size rfl (.tmp 75) (.tmp 76) 25 35 (.agg #[(.int .i64 0), (.string ⟨#[]⟩), (.bool false), (.slice none 0 0)]) 56 rfl Try.underlying25 info35 rfl (by decide) (by omega) v341 y340 l0 _ _ _ (fun k_ => (P0_ k_ ∨ w.heap.size ≤ k_)) (fun k_ => ((fun k_ => (P0_ k_ ∨ w.heap.size ≤ k_))) k_ ∧ some k_ ≠ (v341 : Value).ownBlock) rfl rfl ?aO ?aR (fun _ hk => hk) ?aF ?aB ?aS ?aL ?_; (case aR => exact (by skip; exact Kd.V_F (Kd.V_mono (ok' := (fun k_ => ((fun k_ => (P0_ k_ ∨ w.heap.size ≤ k_))) k_ ∧ some k_ ≠ (v341 : Value).ownBlock)) (HO_0.out) (fun k_ hk => (And.intro (hk.1) (hk.2)))))); (case aB => exact (by repeat (first | (with_reducible first | exact HB.out | apply below_alloc | apply pw_below_drewN | apply below_drew1) | exact HB.out))); (case aF => exact (fun k_ hk => (.inr (Nat.le_trans (below_size (by repeat (first | (with_reducible first | exact HB.out | apply below_alloc | apply pw_below_drewN | apply below_drew1) | exact HB.out))) hk)))); (case aO => exact (by (with_reducible repeat (first | apply Kd.N_alloc | apply Kd.N_drewN | apply Kd.N_drew)); exact HO342.out)); (case aS => exact (below_size (by repeat (first | (with_reducible first | exact HB.out | apply below_alloc | apply pw_below_drewN | apply below_drew1) | exact HB.out)))); (case aL => have := LMc31.out; omega); intro v344 w40 ho hb hg hat; rw [← Ny343.out] at ho; have n0_ := Aside0.mk (Kd.V_afterv (ok := (fun k_ => (P0_ k_ ∨ w.heap.size ≤ k_))) (by (with_reducible repeat (first | apply Kd.V_alloc | apply Kd.V_drewN | apply Kd.V_drew)); exact HO_0.out) hg hat); have n1_ := Aside0.mk (hb); have n2_ := Aside0.mk (ho); clear HO_0; clear HB; clear HO342; have HO_0 := n0_; have HB := n1_; have HO345 := n2_; clear n0_ n1_ n2_; clear ho hb hg hat) | ((with_reducible refine gate_builtin (b := .append) (xs := #[.tmp 77, .tmp 79]) rfl ?_); (try (refine gate_guard (by rfl) ?_; dsimp only)); at_builtin; refine Kd.N_append k35 (w0 := w) w.heap.size rfl (.tmp 77) (.tmp 79) 25 35 (.agg #[(.int .i64 0), (.string ⟨#[]⟩), (.bool false), (.slice none 0 0)]) 56 rfl Try.underlying25 info35 rfl (by decide) (by omega) v344 y343 (⟨3, (⟨#[]⟩ : ByteArray), false, ([] : List (S58))⟩ : S35) [.int .i64 3, .string (⟨#[]⟩ : ByteArray), .bool false, .slice none 0 0] (fun k_ => (P0_ k_ ∨ w.heap.size ≤ k_)) (fun k_ => ((fun k_ => (P0_ k_ ∨ w.heap.size ≤ k_))) k_ ∧ some k_ ≠ (v344 : Value).ownBlock) rfl rfl ?aP (fun _ hk => hk) ?aF ?aO ?aB ?aS ?aL ?_; (case aP => exact (k35_mkF _ _ (⟨3, (⟨#[]⟩ : ByteArray), false, ([] : List (S58))⟩ : S35) (Nat.le_refl _) (Kd.F_nil _ _ _))); (case aB => exact (by repeat (first | (with_reducible first | exact HB.out | apply below_alloc | apply pw_below_drewN | apply below_drew1) | exact HB.out))); (case aF => exact (fun k_ hk => (.inr (Nat.le_trans (below_size (by repeat (first | (with_reducible first | exact HB.out | apply below_alloc | apply pw_below_drewN | apply below_drew1) | exact HB.out))) hk)))); (case aO => exact (by (with_reducible repeat (first | apply Kd.N_alloc | apply Kd.N_drewN | apply Kd.N_drew)); exact HO345.out)); (case aS => exact (below_size (by repeat (first | (with_reducible first | exact HB.out | apply below_alloc | apply pw_below_drewN | apply below_drew1) | exact HB.out)))); (case aL => have := LMc32.out; omega); intro v347 w41 ho hb hg hat; rw [← Ny346.out] at ho; have n0_ := Aside0.mk (Kd.V_afterv (ok := (fun k_ => (P0_ k_ ∨ w.heap.size ≤ k_))) (by (with_reducible repeat (first | apply Kd.V_alloc | apply Kd.V_drewN | apply Kd.V_drew)); exact HO_0.out) hg hat); have n1_ := Aside0.mk (hb); have n2_ := Aside0.mk (ho); clear HO_0; clear HB; clear HO345; have HO_0 := n0_; have HB := n1_; have HO348 := n2_; clear n0_ n1_ n2_; clear ho hb hg hat; obtain ⟨Ao42, co42, eo42⟩ := Kd.N_slice HO348.out; subst eo42) | ((with_reducible refine gate_callee (f := 15) rfl ?_); refine goesL_ (some 85) rfl rfl Try.func15 (by kernel_rfl) rfl #[.slice Ao42 y346.length co42, .string (a1 ++ a2)] rfl (by (try simp only [List.map_toArray, List.map_cons, List.map_nil]); first | done | rfl | (simp only [List.length_drop, List.length_take]; rfl)) ?_; (with_reducible refine (pattern_Match.calls kj12 _ _ y346 (a1 ++ a2) t349 _ ?side1 ?side2 A34.out).mono ?_); (case side1 => repeat (first | exact (Kd.N_reads' HO348.out).2.2 | (with_reducible refine Kd.C_alloc ?_ _) | (with_reducible refine Kd.C_drewN ?_ _) | (with_reducible refine Kd.C_drew ?_))); (case side2 => exact (Kd.N_reads' HO348.out).2.1); rintro e w43 ⟨rfl, hb⟩; refine ⟨_, rfl, ?_⟩; have n0_ := Aside0.mk (Kd.V_below (by (with_reducible repeat (first | apply Kd.V_alloc | apply Kd.V_drewN | apply Kd.V_drew)); exact HO_0.out) hb); have n1_ := Aside0.mk (Kd.N_below (by (with_reducible repeat (first | apply Kd.N_alloc | apply Kd.N_drewN | apply Kd.N_drew)); exact HO348.out) hb); have n2_ := Aside0.mk (below_step (by repeat (first | (with_reducible first | exact HB.out | apply below_alloc | apply pw_below_drewN | apply below_drew1) | exact HB.out)) hb); clear HO_0; clear HO348; clear HB; have HO_0 := n0_; have HO348 := n1_; have HB := n2_; clear n0_ n1_ n2_; (try clear hb); (try clear hb2); (try clear hk); (try clear hi)) | ((with_reducible refine gate_callee (f := 18) rfl ?_); refine goesL_ (some 90) rfl rfl Try.func18 (by kernel_rfl) rfl #[.slice A0 l0.length c0, .string (a1 ++ a2)] rfl (by (try simp only [List.map_toArray, List.map_cons, List.map_nil]); first | done | rfl | (simp only [List.length_drop, List.length_take]; rfl)) ?_; (with_reducible refine (jobshelllaw04_prefixes.calls kj12 _ _ l0 (a1 ++ a2) t350 _ ?side1 ?side2 A35.out).mono ?_); (case side1 => repeat (first | exact (Kd.V_reads' HO_0.out).2.2 | (with_reducible refine Kd.C_alloc ?_ _) | (with_reducible refine Kd.C_drewN ?_ _) | (with_reducible refine Kd.C_drew ?_))); (case side2 => exact (Kd.V_reads' HO_0.out).2.1); rintro e w44 ⟨rfl, hb⟩; refine ⟨_, rfl, ?_⟩; have n0_ := Aside0.mk (Kd.V_below (by (with_reducible repeat (first | apply Kd.V_alloc | apply Kd.V_drewN | apply Kd.V_drew)); exact HO_0.out) hb); have n1_ := Aside0.mk (Kd.N_below (by (with_reducible repeat (first | apply Kd.N_alloc | apply Kd.N_drewN | apply Kd.N_drew)); exact HO348.out) hb); have n2_ := Aside0.mk (below_step (by repeat (first | (with_reducible first | exact HB.out | apply below_alloc | apply pw_below_drewN | apply below_drew1) | exact HB.out)) hb); clear HO_0; clear HO348; clear HB; have HO_0 := n0_; have HO348 := n1_; have HB := n2_; clear n0_ n1_ n2_; (try clear hb); (try clear hb2); (try clear hk); (try clear hi)) | (go_at_call 12; (with_reducible refine (jobshelllaw04_awake.calls kj12  t351 _ A37.out).mono ?_); rintro e w45 ⟨rfl, hb⟩; have n0_ := Aside0.mk (Kd.V_below (by (with_reducible repeat (first | apply Kd.V_alloc | apply Kd.V_drewN | apply Kd.V_drew)); exact HO_0.out) hb); have n1_ := Aside0.mk (Kd.N_below (by (with_reducible repeat (first | apply Kd.N_alloc | apply Kd.N_drewN | apply Kd.N_drew)); exact HO348.out) hb); have n2_ := Aside0.mk (below_step (by repeat (first | (with_reducible first | exact HB.out | apply below_alloc | apply pw_below_drewN | apply below_drew1) | exact HB.out)) hb); clear HO_0; clear HO348; clear HB; have HO_0 := n0_; have HO348 := n1_; have HB := n2_; clear n0_ n1_ n2_; (try clear hb); (try clear hb2); (try clear hk); (try clear hi)))
                      go_ret
                      exact ⟨by first | rfl | (simp [errW_none, errW_some] <;> rfl) | (simp [*, errW_none, errW_some] <;> rfl), by repeat (first | (with_reducible first | exact HB.out | apply below_alloc | apply pw_below_drewN | apply below_drew1) | exact HB.out)⟩
                    rw [if_neg c36] at H
                    exact absurd H (by simp)
                  rw [if_neg c33] at H
                  exact absurd H (by simp)
                rw [if_neg c32] at H
                exact absurd H (by simp)
              rw [if_neg c31] at H
              exact absurd H (by simp)

end Go.Proofs.Ytbekhjcnmifnnaa.Q
