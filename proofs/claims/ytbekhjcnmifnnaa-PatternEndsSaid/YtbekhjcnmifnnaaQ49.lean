-- Written by a program of this session's (wip/fork/fprint.py over the kit's print.py). Not trusted: Lean checks it.
import Derived.Test.YtbekhjcnmifnnaaQ0
import Derived.Test.YtbekhjcnmifnnaaQ17
import Derived.Test.YtbekhjcnmifnnaaQ20
import Derived.Test.YtbekhjcnmifnnaaQ24
import Derived.Test.YtbekhjcnmifnnaaQ26
import Derived.Test.YtbekhjcnmifnnaaQ47
import Derived.Test.YtbekhjcnmifnnaaQ48
namespace Go.Proofs.Ytbekhjcnmifnnaa.Q
open Go.RowKit Go.Proofs.YtbekhjcnmifnnaaW.PrintWords Go.Proofs.YtbekhjcnmifnnaaW.PrintLast Go.Proofs.YtbekhjcnmifnnaaW.PrintMore
attribute [local go_sem] max2_int min2_int max_two min_two max_three min_three max_four min_four   -- for this text's walks alone
set_option linter.unusedVariables false
set_option linter.unusedSimpArgs false

/-! ### jobshelllaw04_PatternEnds: function 8 -/
def jobshelllaw04_PatternEnds.j0 : Nat → List (S35) → ByteArray → Bool → Bool → Option (Bool)
 | 0, _, _, _, _ => none
 | k + 1, x0, x1, x2, x22 => if x22 = true then ((jobshelllaw04_awake.f k).bind fun t572 => (some t572)) else ((pattern_Prefix.f k x0 x1 x2).bind fun bt573 => ((jobshellref04_Prefix.f k x0 x1 x2).bind fun bt575 => ((pattern_Suffix.f k x0 x1 x2).bind fun bt577 => ((jobshellref04_Suffix.f k x0 x1 x2).bind fun bt579 => (if bt573.1 = bt575.1 then (if (bt573.2 == bt575.2) = true then (if bt577.1 = bt579.1 then (if (bt577.2 == bt579.2) = true then ((jobshelllaw04_awake.f k).bind fun t581 => (some t581)) else (none)) else (none)) else (none)) else (none))))))
def jobshelllaw04_PatternEnds.f (k : Nat) (l0 : List (S35)) (a1 : ByteArray) (a2 : Bool) : Option (Bool) := (jobshellref04_Few.f k l0 12).bind fun t571 => (if t571 = true then (jobshelllaw04_PatternEnds.j0 k l0 a1 a2 (decide ((a1.size : Int) > 40))) else (jobshelllaw04_PatternEnds.j0 k l0 a1 a2 true))
theorem jobshelllaw04_PatternEnds.mono_l : ∀ k, (∀ y0 y1 y2 y3, LeO (jobshelllaw04_PatternEnds.j0 k y0 y1 y2 y3) (jobshelllaw04_PatternEnds.j0 (k + 1) y0 y1 y2 y3))
 | 0 => fun _ _ _ _ r h => by simp [jobshelllaw04_PatternEnds.j0] at h
 | k + 1 => by
  have ih0 := jobshelllaw04_PatternEnds.mono_l k
  ·
   intro y0 y1 y2 y3
   unfold jobshelllaw04_PatternEnds.j0
   repeat' first
   | (with_reducible exact ih0 _ _ _ _)
   | (with_reducible exact jobshelllaw04_awake.mono _)
   | (with_reducible exact jobshellref04_Few.mono _ _ _)
   | (with_reducible exact jobshellref04_Prefix.mono _ _ _ _)
   | (with_reducible exact jobshellref04_Suffix.mono _ _ _ _)
   | (with_reducible exact pattern_Prefix.mono _ _ _ _)
   | (with_reducible exact pattern_Suffix.mono _ _ _ _)
   | (with_reducible exact LeO.refl _)
   | (with_reducible exact LeO.none _)
   | (with_reducible refine LeO.ite ?_ ?_)
   | (with_reducible refine LeO.bind ?_ (fun _ => ?_))
   | exact ih0 _ _ _ _
   | exact jobshelllaw04_awake.mono _
   | exact jobshellref04_Few.mono _ _ _
   | exact jobshellref04_Prefix.mono _ _ _ _
   | exact jobshellref04_Suffix.mono _ _ _ _
   | exact pattern_Prefix.mono _ _ _ _
   | exact pattern_Suffix.mono _ _ _ _
   | exact LeO.none _
   | refine LeO.ite ?_ ?_
   | refine LeO.bind ?_ (fun _ => ?_)
theorem jobshelllaw04_PatternEnds.mono : ∀ a0 a1 a2 k, LeO (jobshelllaw04_PatternEnds.f k a0 a1 a2) (jobshelllaw04_PatternEnds.f (k + 1) a0 a1 a2) := by
 intro a0 a1 a2 k
 have ih0 := jobshelllaw04_PatternEnds.mono_l k
 unfold jobshelllaw04_PatternEnds.f
 repeat' first
  | (with_reducible exact ih0 _ _ _ _)
  | (with_reducible exact jobshelllaw04_awake.mono _)
  | (with_reducible exact jobshellref04_Few.mono _ _ _)
  | (with_reducible exact jobshellref04_Prefix.mono _ _ _ _)
  | (with_reducible exact jobshellref04_Suffix.mono _ _ _ _)
  | (with_reducible exact pattern_Prefix.mono _ _ _ _)
  | (with_reducible exact pattern_Suffix.mono _ _ _ _)
  | (with_reducible exact LeO.refl _)
  | (with_reducible exact LeO.none _)
  | (with_reducible refine LeO.ite ?_ ?_)
  | (with_reducible refine LeO.bind ?_ (fun _ => ?_))
  | exact ih0 _ _ _ _
  | exact jobshelllaw04_awake.mono _
  | exact jobshellref04_Few.mono _ _ _
  | exact jobshellref04_Prefix.mono _ _ _ _
  | exact jobshellref04_Suffix.mono _ _ _ _
  | exact pattern_Prefix.mono _ _ _ _
  | exact pattern_Suffix.mono _ _ _ _
  | exact LeO.none _
  | refine LeO.ite ?_ ?_
  | refine LeO.bind ?_ (fun _ => ?_)
set_option maxHeartbeats 8000000 in
set_option maxRecDepth 100000 in
theorem jobshelllaw04_PatternEnds.calls (k : Nat) (A0 : Option Addr) (c0 : Nat) (l0 : List (S35)) (a1 : ByteArray) (a2 : Bool) (r : Bool) (w : World) (hr0 : Kd.C k35 w A0 l0.length l0) (hc0 : l0.length ≤ c0) (h : jobshelllaw04_PatternEnds.f k l0 a1 a2 = some r) :
 Calls Try.prog 8 #[.slice A0 l0.length c0, .string a1, .bool a2] w fun e w' => e = .returned (.bool r) ∧ Below w.heap.size w w' := by
 have HR0 := Aside0.mk hr0
 have HC0 := Aside0.mk hc0
 clear hr0 hc0
 have HB := Aside0.mk (Below.refl w.heap.size w)
 have H : ((jobshellref04_Few.f k l0 12).bind fun t571 => (if t571 = true then (jobshelllaw04_PatternEnds.j0 k l0 a1 a2 (decide ((a1.size : Int) > 40))) else (jobshelllaw04_PatternEnds.j0 k l0 a1 a2 true))) = some r := h
 clear h
 have HC4 := Aside0.mk H
 clear H
 go_enter Try.func8, Try.ntmps8
 go_upto_region 1 with (fail)
 go_cut [22] (fun v22 wc => ∃ (kq : Nat) (x22_3 : Bool), v22 = .bool x22_3 ∧ Aside0 (jobshelllaw04_PatternEnds.j0 kq l0 a1 a2 x22_3 = some r) ∧ Aside0 (kq ≤ k) ∧ Aside0 (Below w.heap.size w wc))
 case first =>
  have H := HC4.out
  clear HC4
  replace H := Option.bind_eq_some_iff.mp H
  obtain ⟨t571, A50, H⟩ := H
  try dsimp -simprocs only at H
  have A5 := Aside0.mk A50
  clear A50
  by_cases c6 : t571 = true
  ·
   subst c6
   rw [if_pos rfl] at H
   have H' := Aside0.mk H
   clear H
   go_wp2_with (first | ((with_reducible refine gate_callee (f := 16) rfl ?_); refine goesL_ (some 16) rfl rfl Try.func16 (by kernel_rfl) rfl #[.slice A0 l0.length c0, .int .i64 12] rfl (by (try simp only [List.map_toArray, List.map_cons, List.map_nil]); first | done | rfl | (simp only [List.length_drop, List.length_take]; rfl)) ?_; (with_reducible refine (jobshellref04_Few.calls k _ _ l0 12 true _ ?side1 ?side2 A5.out).mono ?_); (case side1 => repeat (first | exact (Kd.C_below HR0.out HB.out) | (with_reducible refine Kd.C_alloc ?_ _) | (with_reducible refine Kd.C_drewN ?_ _) | (with_reducible refine Kd.C_drew ?_))); (case side2 => exact HC0.out); rintro e w' ⟨rfl, ⟨nd, rfl⟩⟩; refine ⟨_, rfl, ?_⟩))
   go_meet
   case rel => exact ⟨_, (decide ((a1.size : Int) > 40)), (by first | rfl | (simp; done) | (simp [*]; done)), H', ⟨by first | omega | exact Nat.le_refl _⟩, ⟨by repeat (first | (with_reducible first | exact HB.out | apply below_alloc | apply pw_below_drewN | apply below_drew1) | exact HB.out)⟩⟩
  ·
   replace c6 := Bool.eq_false_iff.mpr c6
   subst c6
   rw [if_neg (show ¬ (false = true) by decide)] at H
   have H' := Aside0.mk H
   clear H
   go_wp2_with (first | ((with_reducible refine gate_callee (f := 16) rfl ?_); refine goesL_ (some 16) rfl rfl Try.func16 (by kernel_rfl) rfl #[.slice A0 l0.length c0, .int .i64 12] rfl (by (try simp only [List.map_toArray, List.map_cons, List.map_nil]); first | done | rfl | (simp only [List.length_drop, List.length_take]; rfl)) ?_; (with_reducible refine (jobshellref04_Few.calls k _ _ l0 12 false _ ?side1 ?side2 A5.out).mono ?_); (case side1 => repeat (first | exact (Kd.C_below HR0.out HB.out) | (with_reducible refine Kd.C_alloc ?_ _) | (with_reducible refine Kd.C_drewN ?_ _) | (with_reducible refine Kd.C_drew ?_))); (case side2 => exact HC0.out); rintro e w' ⟨rfl, ⟨nd, rfl⟩⟩; refine ⟨_, rfl, ?_⟩))
   go_meet
   case rel => exact ⟨_, (true), (by first | rfl | (simp; done) | (simp [*]; done)), H', ⟨by first | omega | exact Nat.le_refl _⟩, ⟨by repeat (first | (with_reducible first | exact HB.out | apply below_alloc | apply pw_below_drewN | apply below_drew1) | exact HB.out)⟩⟩
 case rest =>
  clear HC4
  try clear c1
  try clear p2
  try clear c6
  obtain ⟨kq, x22_3, rfl, HA, HJ3, HB⟩ := hcut
  cases kq with
  | zero => exact absurd HA.out (by simp [jobshelllaw04_PatternEnds.j0])
  | succ kj3 =>
   have H := HA.out
   clear HA
   simp only [jobshelllaw04_PatternEnds.j0] at H
   by_cases c7 : x22_3 = true
   ·
    subst c7
    rw [if_pos rfl] at H
    replace H := Option.bind_eq_some_iff.mp H
    obtain ⟨t572, A80, H⟩ := H
    replace H : (some t572) = some r := H
    have A8 := Aside0.mk A80
    clear A80
    obtain rfl := Option.some.inj H
    go_wp2_with (first | ((with_reducible refine gate_callee (f := 12) rfl ?_); refine goesL_ (some 23) rfl rfl Try.func12 (by kernel_rfl) rfl #[] rfl (by (try simp only [List.map_toArray, List.map_cons, List.map_nil]); first | done | rfl | (simp only [List.length_drop, List.length_take]; rfl)) ?_; (with_reducible refine (jobshelllaw04_awake.calls kj3  t572 _ A8.out).mono ?_); rintro e w9 ⟨rfl, hb⟩; refine ⟨_, rfl, ?_⟩; have n0_ := Aside0.mk (below_step (by repeat (first | (with_reducible first | exact HB.out | apply below_alloc | apply pw_below_drewN | apply below_drew1) | exact HB.out)) hb); clear HB; have HB := n0_; clear n0_; (try clear hb); (try clear hb2); (try clear hk); (try clear hi)))
    go_ret
    exact ⟨by first | rfl | (simp [errW_none, errW_some] <;> rfl) | (simp [*, errW_none, errW_some] <;> rfl), by repeat (first | (with_reducible first | exact HB.out | apply below_alloc | apply pw_below_drewN | apply below_drew1) | exact HB.out)⟩
   ·
    replace c7 := Bool.eq_false_iff.mpr c7
    subst c7
    rw [if_neg (show ¬ (false = true) by decide)] at H
    replace H := Option.bind_eq_some_iff.mp H
    obtain ⟨⟨t573, t574⟩, A100, H⟩ := H
    try dsimp -simprocs only at H
    have A10 := Aside0.mk A100
    clear A100
    replace H := Option.bind_eq_some_iff.mp H
    obtain ⟨⟨t575, t576⟩, A110, H⟩ := H
    try dsimp -simprocs only at H
    have A11 := Aside0.mk A110
    clear A110
    replace H := Option.bind_eq_some_iff.mp H
    obtain ⟨⟨t577, t578⟩, A120, H⟩ := H
    try dsimp -simprocs only at H
    have A12 := Aside0.mk A120
    clear A120
    replace H := Option.bind_eq_some_iff.mp H
    obtain ⟨⟨t579, t580⟩, A130, H⟩ := H
    try dsimp -simprocs only at H
    have A13 := Aside0.mk A130
    clear A130
    by_cases c14 : t573 = t575
    ·
     rw [if_pos c14] at H
     have c14b0 : (t573 == t575) = true := beq_iff_eq.mpr c14
     have c14b1 : (t573 != t575) = false := bne_eq_false_iff_eq.mpr c14
     clear c14
     by_cases c15 : (t574 == t576) = true
     ·
      rw [if_pos c15] at H
      have c15b0 : (t574 == t576) = true := c15
      (try (have c15b1 : decide (t574 = t576) = true := by simpa using c15))
      (try (have c15b2 : (t574 == t576) = true := by simpa using c15))
      clear c15
      by_cases c16 : t577 = t579
      ·
       rw [if_pos c16] at H
       have c16b0 : (t577 == t579) = true := beq_iff_eq.mpr c16
       have c16b1 : (t577 != t579) = false := bne_eq_false_iff_eq.mpr c16
       clear c16
       by_cases c17 : (t578 == t580) = true
       ·
        rw [if_pos c17] at H
        have c17b0 : (t578 == t580) = true := c17
        (try (have c17b1 : decide (t578 = t580) = true := by simpa using c17))
        (try (have c17b2 : (t578 == t580) = true := by simpa using c17))
        clear c17
        replace H := Option.bind_eq_some_iff.mp H
        obtain ⟨t581, A180, H⟩ := H
        replace H : (some t581) = some r := H
        have A18 := Aside0.mk A180
        clear A180
        obtain rfl := Option.some.inj H
        go_wp2_with (first | ((with_reducible refine gate_callee (f := 17) rfl ?_); refine goesL_ (some 28) rfl rfl Try.func17 (by kernel_rfl) rfl #[.slice A0 l0.length c0, .string a1, .bool a2] rfl (by (try simp only [List.map_toArray, List.map_cons, List.map_nil]); first | done | rfl | (simp only [List.length_drop, List.length_take]; rfl)) ?_; (with_reducible refine (pattern_Prefix.calls kj3 _ _ l0 a1 a2 t573 t574 _ ?side1 ?side2 A10.out).mono ?_); (case side1 => repeat (first | exact (Kd.C_below HR0.out HB.out) | (with_reducible refine Kd.C_alloc ?_ _) | (with_reducible refine Kd.C_drewN ?_ _) | (with_reducible refine Kd.C_drew ?_))); (case side2 => exact HC0.out); rintro e w19 ⟨rfl, hb⟩; refine ⟨_, rfl, ?_⟩; have n0_ := Aside0.mk (below_step (by repeat (first | (with_reducible first | exact HB.out | apply below_alloc | apply pw_below_drewN | apply below_drew1) | exact HB.out)) hb); clear HB; have HB := n0_; clear n0_; (try clear hb); (try clear hb2); (try clear hk); (try clear hi)) | ((with_reducible refine gate_callee (f := 24) rfl ?_); refine goesL_ (some 35) rfl rfl Try.func24 (by kernel_rfl) rfl #[.slice A0 l0.length c0, .string a1, .bool a2] rfl (by (try simp only [List.map_toArray, List.map_cons, List.map_nil]); first | done | rfl | (simp only [List.length_drop, List.length_take]; rfl)) ?_; (with_reducible refine (jobshellref04_Prefix.calls kj3 _ _ l0 a1 a2 t575 t576 _ ?side1 ?side2 A11.out).mono ?_); (case side1 => repeat (first | exact (Kd.C_below HR0.out HB.out) | (with_reducible refine Kd.C_alloc ?_ _) | (with_reducible refine Kd.C_drewN ?_ _) | (with_reducible refine Kd.C_drew ?_))); (case side2 => exact HC0.out); rintro e w20 ⟨rfl, hb⟩; refine ⟨_, rfl, ?_⟩; have n0_ := Aside0.mk (below_step (by repeat (first | (with_reducible first | exact HB.out | apply below_alloc | apply pw_below_drewN | apply below_drew1) | exact HB.out)) hb); clear HB; have HB := n0_; clear n0_; (try clear hb); (try clear hb2); (try clear hk); (try clear hi)) | ((with_reducible refine gate_callee (f := 25) rfl ?_); refine goesL_ (some 42) rfl rfl Try.func25 (by kernel_rfl) rfl #[.slice A0 l0.length c0, .string a1, .bool a2] rfl (by (try simp only [List.map_toArray, List.map_cons, List.map_nil]); first | done | rfl | (simp only [List.length_drop, List.length_take]; rfl)) ?_; (with_reducible refine (pattern_Suffix.calls kj3 _ _ l0 a1 a2 t577 t578 _ ?side1 ?side2 A12.out).mono ?_); (case side1 => repeat (first | exact (Kd.C_below HR0.out HB.out) | (with_reducible refine Kd.C_alloc ?_ _) | (with_reducible refine Kd.C_drewN ?_ _) | (with_reducible refine Kd.C_drew ?_))); (case side2 => exact HC0.out); rintro e w21 ⟨rfl, hb⟩; refine ⟨_, rfl, ?_⟩; have n0_ := Aside0.mk (below_step (by repeat (first | (with_reducible first | exact HB.out | apply below_alloc | apply pw_below_drewN | apply below_drew1) | exact HB.out)) hb); clear HB; have HB := n0_; clear n0_; (try clear hb); (try clear hb2); (try clear hk); (try clear hi)) | ((with_reducible refine gate_callee (f := 26) rfl ?_); refine goesL_ (some 49) rfl rfl Try.func26 (by kernel_rfl) rfl #[.slice A0 l0.length c0, .string a1, .bool a2] rfl (by (try simp only [List.map_toArray, List.map_cons, List.map_nil]); first | done | rfl | (simp only [List.length_drop, List.length_take]; rfl)) ?_; (with_reducible refine (jobshellref04_Suffix.calls kj3 _ _ l0 a1 a2 t579 t580 _ ?side1 ?side2 A13.out).mono ?_); (case side1 => repeat (first | exact (Kd.C_below HR0.out HB.out) | (with_reducible refine Kd.C_alloc ?_ _) | (with_reducible refine Kd.C_drewN ?_ _) | (with_reducible refine Kd.C_drew ?_))); (case side2 => exact HC0.out); rintro e w22 ⟨rfl, hb⟩; refine ⟨_, rfl, ?_⟩; have n0_ := Aside0.mk (below_step (by repeat (first | (with_reducible first | exact HB.out | apply below_alloc | apply pw_below_drewN | apply below_drew1) | exact HB.out)) hb); clear HB; have HB := n0_; clear n0_; (try clear hb); (try clear hb2); (try clear hk); (try clear hi)) | (go_at_call 12; (with_reducible refine (jobshelllaw04_awake.calls kj3  t581 _ A18.out).mono ?_); rintro e w23 ⟨rfl, hb⟩; have n0_ := Aside0.mk (below_step (by repeat (first | (with_reducible first | exact HB.out | apply below_alloc | apply pw_below_drewN | apply below_drew1) | exact HB.out)) hb); clear HB; have HB := n0_; clear n0_; (try clear hb); (try clear hb2); (try clear hk); (try clear hi)))
        go_ret
        exact ⟨by first | rfl | (simp [errW_none, errW_some] <;> rfl) | (simp [*, errW_none, errW_some] <;> rfl), by repeat (first | (with_reducible first | exact HB.out | apply below_alloc | apply pw_below_drewN | apply below_drew1) | exact HB.out)⟩
       rw [if_neg c17] at H
       exact absurd H (by simp)
      rw [if_neg c16] at H
      exact absurd H (by simp)
     rw [if_neg c15] at H
     exact absurd H (by simp)
    rw [if_neg c14] at H
    exact absurd H (by simp)

end Go.Proofs.Ytbekhjcnmifnnaa.Q
