import Derived.Test.YtbekhjcnmifnnaaQ0
import Derived.Test.YtbekhjcnmifnnaaQ4
set_option linter.unusedVariables false
set_option linter.unusedSimpArgs false
namespace Go.Proofs.Ytbekhjcnmifnnaa.Q
open Go.RowKit Go.Proofs.YtbekhjcnmifnnaaW.PrintWords Go.Proofs.YtbekhjcnmifnnaaW.PrintLast Go.Proofs.YtbekhjcnmifnnaaW.PrintMore
mutual
def pattern_className.j0 : Nat → List (S51) → Int → Bool → Option (ByteArray × Int)
 | 0, _, _, _ => none
 | k + 1, x0, x1, x29 => if x29 = true then (some ((⟨#[]⟩ : ByteArray), 0)) else (pattern_className.l0 k x0 (⟨#[]⟩ : ByteArray) (wrap64 (x1 + 2)))
def pattern_className.l0 : Nat → List (S51) → ByteArray → Int → Option (ByteArray × Int)
 | 0, _, _, _ => none
 | k + 1, x0, x6, x7 => if (wrap64 (x7 + 1)) < (x0.length : Int) then (if 0 ≤ x7 then (if x7 < (x0.length : Int) then (if (rd_T51 x0 x7).f1 = true then (pattern_className.j2 k x0 x6 x7 (decide ((x6.size : Int) < 6))) else (pattern_className.j2 k x0 x6 x7 false)) else (none)) else (none)) else (pattern_className.j2 k x0 x6 x7 false)
def pattern_className.j2 : Nat → List (S51) → ByteArray → Int → Bool → Option (ByteArray × Int)
 | 0, _, _, _, _ => none
 | k + 1, x0, x6, x7, x48 => if x48 = true then (if 0 ≤ x7 then (if x7 < (x0.length : Int) then (if ((rd_T51 x0 x7).f0) = 58 then (if 0 ≤ (wrap64 (x7 + 1)) then (if (wrap64 (x7 + 1)) < (x0.length : Int) then ((pattern_element_is.f ((rd_T51 x0 (wrap64 (x7 + 1))).f0) ((rd_T51 x0 (wrap64 (x7 + 1))).f1) 93).bind fun t115 => (if t115 = true then (some (x6, wrap64 (x7 + 2))) else (some ((⟨#[]⟩ : ByteArray), 0)))) else (none)) else (none)) else ((some (([(rd_T51 x0 x7).f0] : List Int) : List Int)).bind fun y117 => (if x6.size + (strOfNums y117).size ≤ 9223372036854775807 then (pattern_className.l0 k x0 (x6 ++ (strOfNums y117)) (wrap64 (x7 + 1))) else (none)))) else (none)) else (none)) else (some ((⟨#[]⟩ : ByteArray), 0))
end
def pattern_className.f (k : Nat) (l0 : List (S51)) (a1 : Int) : Option (ByteArray × Int) := if (wrap64 (a1 + 1)) ≥ (l0.length : Int) then (pattern_className.j0 k l0 a1 true) else (if 0 ≤ a1 then (if a1 < (l0.length : Int) then ((pattern_element_is.f ((rd_T51 l0 a1).f0) ((rd_T51 l0 a1).f1) 91).bind fun t109 => (if t109 = true then (if 0 ≤ (wrap64 (a1 + 1)) then (if (wrap64 (a1 + 1)) < (l0.length : Int) then ((pattern_element_is.f ((rd_T51 l0 (wrap64 (a1 + 1))).f0) ((rd_T51 l0 (wrap64 (a1 + 1))).f1) 58).bind fun t111 => (pattern_className.j0 k l0 a1 (!t111))) else (none)) else (none)) else (pattern_className.j0 k l0 a1 true))) else (none)) else (none))
theorem pattern_className.mono_l : ∀ k, (∀ y0 y1 y2, LeO (pattern_className.j0 k y0 y1 y2) (pattern_className.j0 (k + 1) y0 y1 y2)) ∧ (∀ y0 y1 y2, LeO (pattern_className.l0 k y0 y1 y2) (pattern_className.l0 (k + 1) y0 y1 y2)) ∧ (∀ y0 y1 y2 y3, LeO (pattern_className.j2 k y0 y1 y2 y3) (pattern_className.j2 (k + 1) y0 y1 y2 y3))
 | 0 => ⟨fun _ _ _ r h => by simp [pattern_className.j0] at h, fun _ _ _ r h => by simp [pattern_className.l0] at h, fun _ _ _ _ r h => by simp [pattern_className.j2] at h⟩
 | k + 1 => by
  obtain ⟨ih0, ih1, ih2⟩ := pattern_className.mono_l k
  refine ⟨?_, ?_, ?_⟩
  all_goals (intros; first | unfold pattern_className.j0 | unfold pattern_className.l0 | unfold pattern_className.j2)
  all_goals repeat' first
   | (with_reducible exact ih0 _ _ _)
   | (with_reducible exact ih1 _ _ _)
   | (with_reducible exact ih2 _ _ _ _)
   | (with_reducible exact LeO.refl _)
   | (with_reducible exact LeO.none _)
   | (with_reducible refine LeO.ite ?_ ?_)
   | (with_reducible refine LeO.bind ?_ (fun _ => ?_))
theorem pattern_className.mono : ∀ a0 a1 k, LeO (pattern_className.f k a0 a1) (pattern_className.f (k + 1) a0 a1) := by
 intro a0 a1 k
 obtain ⟨ih0, ih1, ih2⟩ := pattern_className.mono_l k
 unfold pattern_className.f
 repeat' first
  | (with_reducible exact ih0 _ _ _)
  | (with_reducible exact ih1 _ _ _)
  | (with_reducible exact ih2 _ _ _ _)
  | (with_reducible exact LeO.refl _)
  | (with_reducible exact LeO.none _)
  | (with_reducible refine LeO.ite ?_ ?_)
  | (with_reducible refine LeO.bind ?_ (fun _ => ?_))
set_option maxHeartbeats 8000000 in
set_option maxRecDepth 100000 in
theorem pattern_className.calls (k : Nat) (A0 : Option Addr) (c0 : Nat) (l0 : List (S51)) (a1 : Int) (r1 : ByteArray) (r2 : Int) (w : World) (hr0 : Kd.C k51 w A0 l0.length l0) (hc0 : l0.length ≤ c0) (h : pattern_className.f k l0 a1 = some (r1, r2)) :
 Calls Try.prog 46 #[.slice A0 l0.length c0, .int .i64 a1] w fun e w' => e = .returned (.tuple #[.string r1, .int .i64 r2]) ∧ Below w.heap.size w w' := by
 have hu51 := Try.underlying51
 have HR0 := m_ hr0
 have HC0 := m_ hc0
 clear hr0 hc0
 have HB := m_ (Below.refl w.heap.size w)
 have H : (if (wrap64 (a1 + 1)) ≥ (l0.length : Int) then (pattern_className.j0 k l0 a1 true) else (if 0 ≤ a1 then (if a1 < (l0.length : Int) then ((pattern_element_is.f ((rd_T51 l0 a1).f0) ((rd_T51 l0 a1).f1) 91).bind fun t109 => (if t109 = true then (if 0 ≤ (wrap64 (a1 + 1)) then (if (wrap64 (a1 + 1)) < (l0.length : Int) then ((pattern_element_is.f ((rd_T51 l0 (wrap64 (a1 + 1))).f0) ((rd_T51 l0 (wrap64 (a1 + 1))).f1) 58).bind fun t111 => (pattern_className.j0 k l0 a1 (!t111))) else (none)) else (none)) else (pattern_className.j0 k l0 a1 true))) else (none)) else (none))) = some (r1, r2) := h
 clear h
 have HC3 := m_ H
 clear H
 go_enter Try.func46, Try.ntmps46
 go_upto_region 1 with (fail)
 go_cut [29] (fun v29 wc => ∃ (kq : Nat) (x29_2 : Bool), v29 = .bool x29_2 ∧ Aside0 (pattern_className.j0 kq l0 a1 x29_2 = some (r1, r2)) ∧ Aside0 (kq ≤ k) ∧ Aside0 (Below w.heap.size w wc))
 case first =>
  have H := HC3.out
  clear HC3
  by_cases c4 : (wrap64 (a1 + 1)) ≥ (l0.length : Int)
  ·
   rw [if_pos c4] at H
   have c4b0 : decide ((l0.length : Int) ≤ (wrap64 (a1 + 1))) = true := decide_eq_true c4
   clear c4
   (first | rw [c4b0] | (simp only [i64_w, i32_w]; rw [c4b0]) | skip)
   have H' := m_ H
   clear H
   go_wp2
   go_meet
   case rel => exact ⟨_, (true), (by first | rfl | (simp; done) | (simp [*]; done)), H', ⟨by first | omega | exact Nat.le_refl _⟩, ⟨by repeat (with_reducible first | exact HB.out | apply l1_ | apply l2_ | apply l3_)⟩⟩
  rw [if_neg c4] at H
  have c4b0 : decide ((l0.length : Int) ≤ (wrap64 (a1 + 1))) = false := decide_eq_false c4
  clear c4
  (first | rw [c4b0] | (simp only [i64_w, i32_w]; rw [c4b0]) | skip)
  by_cases c5 : 0 ≤ a1
  ·
   rw [if_pos c5] at H
   have c5b0 : decide (0 ≤ a1) = true := decide_eq_true c5
   clear c5
   by_cases c6 : a1 < (l0.length : Int)
   ·
    rw [if_pos c6] at H
    have c6b0 : decide (a1 < (l0.length : Int)) = true := decide_eq_true c6
    clear c6
    replace H := Option.bind_eq_some_iff.mp H
    obtain ⟨t109, A70, H⟩ := H
    try dsimp -simprocs only at H
    have A7 := m_ A70
    clear A70
    by_cases c8 : t109 = true
    ·
     subst c8
     rw [if_pos rfl] at H
     obtain ⟨ji9, hji9⟩ : ∃ j_ : Int, (wrap64 (a1 + 1)) = j_ := ⟨_, rfl⟩
     first | rw [hji9] at H | simp only [hji9] at H
     (try rw [hji9] at c4b0)
     (try rw [hji9] at A7)
     have hji9w : (IntKind.i64.wrap (a1 + 1)) = ji9 := (i64_w _).trans hji9
     by_cases c10 : 0 ≤ (ji9)
     ·
      rw [if_pos c10] at H
      have c10b0 : decide (0 ≤ (ji9)) = true := decide_eq_true c10
      clear c10
      by_cases c11 : (ji9) < (l0.length : Int)
      ·
       rw [if_pos c11] at H
       have c11b0 : decide ((ji9) < (l0.length : Int)) = true := decide_eq_true c11
       clear c11
       replace H := Option.bind_eq_some_iff.mp H
       obtain ⟨t111, A120, H⟩ := H
       try dsimp -simprocs only at H
       have A12 := m_ A120
       clear A120
       have H' := m_ H
       clear H
       have p108 : 0 ≤ (a1 : Int) := o1_ (by with_reducible assumption)
       have q108 : a1 < (l0.length : Int) := o1_ (by with_reducible assumption)
       obtain ⟨ad108, e108, hx108_0, hx108_1⟩ := at_T51 HR0.out a1 p108 q108
       cases e108
       replace hx108_0 := (HB.out.cell (c1_ w _ hx108_0)).trans hx108_0
       replace hx108_1 := (HB.out.cell (c1_ w _ hx108_1)).trans hx108_1
       replace p108 := eq_true p108
       replace q108 := eq_true q108
       go_wp2_with (first | (go_at_call 33; (with_reducible refine (pattern_element_is.calls ((rd_T51 l0 a1).f0) ((rd_T51 l0 a1).f1) 91 true _ A7.out).mono ?_); rintro e w13 ⟨rfl, hb⟩; replace HB := m_ (l5_ (by repeat (with_reducible first | exact HB.out | apply l1_ | apply l2_ | apply l3_)) hb); (try clear hb); have p110 : 0 ≤ ((ji9) : Int) := o1_ (by with_reducible assumption); have q110 : (ji9) < (l0.length : Int) := o1_ (by with_reducible assumption); obtain ⟨ad110, e110, hx110_0, hx110_1⟩ := at_T51 HR0.out (ji9) p110 q110; obtain rfl : ad108 = ad110 := (by injection e110); replace hx110_0 := (HB.out.cell (c1_ w _ hx110_0)).trans hx110_0; replace hx110_1 := (HB.out.cell (c1_ w _ hx110_1)).trans hx110_1; replace p110 := eq_true p110; replace q110 := eq_true q110) | (go_at_call 33; (with_reducible refine (pattern_element_is.calls ((rd_T51 l0 (ji9)).f0) ((rd_T51 l0 (ji9)).f1) 58 t111 _ A12.out).mono ?_); rintro e w14 ⟨rfl, hb⟩; replace HB := m_ (l5_ (by repeat (with_reducible first | exact HB.out | apply l1_ | apply l2_ | apply l3_)) hb); (try clear hb)))
       go_meet
       case rel => exact ⟨_, (!t111), (by first | rfl | (simp; done) | (simp [*]; done)), H', ⟨by first | omega | exact Nat.le_refl _⟩, ⟨by repeat (with_reducible first | exact HB.out | apply l1_ | apply l2_ | apply l3_)⟩⟩
      rw [if_neg c11] at H
      exact absurd H (by simp)
     rw [if_neg c10] at H
     exact absurd H (by simp)
    ·
     replace c8 := Bool.eq_false_iff.mpr c8
     subst c8
     rw [if_neg (show ¬ (false = true) by decide)] at H
     have H' := m_ H
     clear H
     have p108 : 0 ≤ (a1 : Int) := o1_ (by with_reducible assumption)
     have q108 : a1 < (l0.length : Int) := o1_ (by with_reducible assumption)
     obtain ⟨ad108, e108, hx108_0, hx108_1⟩ := at_T51 HR0.out a1 p108 q108
     cases e108
     replace hx108_0 := (HB.out.cell (c1_ w _ hx108_0)).trans hx108_0
     replace hx108_1 := (HB.out.cell (c1_ w _ hx108_1)).trans hx108_1
     replace p108 := eq_true p108
     replace q108 := eq_true q108
     go_wp2_with (first | (go_at_call 33; (with_reducible refine (pattern_element_is.calls ((rd_T51 l0 a1).f0) ((rd_T51 l0 a1).f1) 91 false _ A7.out).mono ?_); rintro e w15 ⟨rfl, hb⟩; replace HB := m_ (l5_ (by repeat (with_reducible first | exact HB.out | apply l1_ | apply l2_ | apply l3_)) hb); (try clear hb)))
     go_meet
     case rel => exact ⟨_, (true), (by first | rfl | (simp; done) | (simp [*]; done)), H', ⟨by first | omega | exact Nat.le_refl _⟩, ⟨by repeat (with_reducible first | exact HB.out | apply l1_ | apply l2_ | apply l3_)⟩⟩
   rw [if_neg c6] at H
   exact absurd H (by simp)
  rw [if_neg c5] at H
  exact absurd H (by simp)
 case rest =>
  clear HC3
  (try clear c1); (try clear p1); (try clear q1); (try clear hx1); (try clear p2); (try clear c4); (try clear c4b0); (try clear c5); (try clear c5b0); (try clear c6); (try clear c6b0); (try clear p6); (try clear c8); (try clear c10); (try clear c10b0); (try clear p10); (try clear q10); (try clear hx10); (try clear c11); (try clear c11b0); (try clear p11); (try clear q11); (try clear hx11); (try clear hx108_0); (try clear hx108_1); (try clear hx110_0); (try clear hx110_1); (try clear p108); (try clear p110); (try clear q108); (try clear q110)
  obtain ⟨kq, x29_2, rfl, HA, HJ2, HB⟩ := hcut
  cases kq with
  | zero => exact absurd HA.out (by simp [pattern_className.j0])
  | succ kj2 =>
   have H := HA.out
   clear HA
   simp only [pattern_className.j0] at H
   by_cases c16 : x29_2 = true
   ·
    subst c16
    rw [if_pos rfl] at H
    simp only [Option.some.injEq, Prod.mk.injEq] at H
    obtain ⟨rfl, rfl⟩ := H
    go_wp2
    go_ret2
    exact ⟨by first | rfl | (simp [errW_none, errW_some] <;> rfl) | (simp [*, errW_none, errW_some] <;> rfl), by repeat (with_reducible first | exact HB.out | apply l1_ | apply l2_ | apply l3_)⟩
   ·
    replace c16 := Bool.eq_false_iff.mpr c16
    subst c16
    rw [if_neg (show ¬ (false = true) by decide)] at H
    have H' := m_ H
    clear H
    go_wp2
    go_loopg [6, 7] kj2 (fun kq v6 v7 w' => ∃ (x6_2 : ByteArray) (x7_2 : Int), v6 = .string x6_2 ∧ v7 = .int .i64 x7_2 ∧ Aside0 (pattern_className.l0 kq l0 x6_2 x7_2 = some (r1, r2)) ∧ Aside0 (kq ≤ kj2) ∧ Aside0 (Below w.heap.size w w'))
    case atStart => exact ⟨((⟨#[]⟩ : ByteArray)), (wrap64 (a1 + 2)), (by first | rfl | (simp; done) | (simp [*]; done)), (by first | rfl | (simp; done) | (simp [*]; done)), H', ⟨Nat.le_refl _⟩, ⟨by repeat (with_reducible first | exact HB.out | apply l1_ | apply l2_ | apply l3_)⟩⟩
    case round =>
     clear H'
     (try clear c1); (try clear p1); (try clear q1); (try clear hx1); (try clear p2); (try clear c4); (try clear c4b0); (try clear c5); (try clear c5b0); (try clear c6); (try clear c6b0); (try clear p6); (try clear c8); (try clear c10); (try clear c10b0); (try clear p10); (try clear q10); (try clear hx10); (try clear c11); (try clear c11b0); (try clear p11); (try clear q11); (try clear hx11); (try clear c16); (try clear hx108_0); (try clear hx108_1); (try clear hx110_0); (try clear hx110_1); (try clear p1); (try clear p10); (try clear p108); (try clear p11); (try clear p110); (try clear p2); (try clear p6); (try clear q1); (try clear q10); (try clear q108); (try clear q11); (try clear q110)
     obtain ⟨x6_2, x7_2, rfl, rfl, HA, HK2, HB⟩ := hrel
     cases gk with
     | zero => exact absurd HA.out (by simp [pattern_className.l0])
     | succ k2 =>
      have H := HA.out
      clear HA
      simp only [pattern_className.l0] at H
      have HC17 := m_ H
      clear H
      go_upto_region 5 with (fail)
      go_cut [48] (fun v48 wc => ∃ (kq : Nat) (x48_16 : Bool), v48 = .bool x48_16 ∧ Aside0 (pattern_className.j2 kq l0 x6_2 x7_2 x48_16 = some (r1, r2)) ∧ Aside0 (kq ≤ k2) ∧ Aside0 (Below w.heap.size w wc))
      case first =>
       have H := HC17.out
       clear HC17
       by_cases c18 : (wrap64 (x7_2 + 1)) < (l0.length : Int)
       ·
        rw [if_pos c18] at H
        have c18b0 : decide ((wrap64 (x7_2 + 1)) < (l0.length : Int)) = true := decide_eq_true c18
        clear c18
        (first | rw [c18b0] | (simp only [i64_w, i32_w]; rw [c18b0]) | skip)
        by_cases c19 : 0 ≤ x7_2
        ·
         rw [if_pos c19] at H
         have c19b0 : decide (0 ≤ x7_2) = true := decide_eq_true c19
         clear c19
         by_cases c20 : x7_2 < (l0.length : Int)
         ·
          rw [if_pos c20] at H
          have c20b0 : decide (x7_2 < (l0.length : Int)) = true := decide_eq_true c20
          clear c20
          obtain ⟨bq21, hbq21⟩ : ∃ b_ : Bool, b_ = ((rd_T51 l0 x7_2).f1) := ⟨_, rfl⟩
          replace H : (if bq21 = true then (pattern_className.j2 k2 l0 x6_2 x7_2 (decide ((x6_2.size : Int) < 6))) else (pattern_className.j2 k2 l0 x6_2 x7_2 false)) = some (r1, r2) := by rw [← hbq21] at H; exact H
          have Nbq21 := m_ hbq21
          clear hbq21
          by_cases c22 : bq21 = true
          ·
           subst c22
           rw [if_pos rfl] at H
           have H' := m_ H
           clear H
           have p112 : 0 ≤ (x7_2 : Int) := o1_ (by with_reducible assumption)
           have q112 : x7_2 < (l0.length : Int) := o1_ (by with_reducible assumption)
           obtain ⟨ad112, e112, hx112_0, hx112_1⟩ := at_T51 HR0.out x7_2 p112 q112
           (try rw [← Nbq21.out] at hx112_1)
           cases e112
           replace hx112_0 := (HB.out.cell (c1_ w _ hx112_0)).trans hx112_0
           replace hx112_1 := (HB.out.cell (c1_ w _ hx112_1)).trans hx112_1
           replace p112 := eq_true p112
           replace q112 := eq_true q112
           go_wp2
           go_meet
           case rel => exact ⟨_, (decide ((x6_2.size : Int) < 6)), (by first | rfl | (simp; done) | (simp [*]; done)), H', ⟨by have := HJ2.out; have := HK2.out; first | omega | exact Nat.le_refl _⟩, ⟨by repeat (with_reducible first | exact HB.out | apply l1_ | apply l2_ | apply l3_)⟩⟩
          ·
           replace c22 := Bool.eq_false_iff.mpr c22
           subst c22
           rw [if_neg (show ¬ (false = true) by decide)] at H
           have H' := m_ H
           clear H
           have p112 : 0 ≤ (x7_2 : Int) := o1_ (by with_reducible assumption)
           have q112 : x7_2 < (l0.length : Int) := o1_ (by with_reducible assumption)
           obtain ⟨ad112, e112, hx112_0, hx112_1⟩ := at_T51 HR0.out x7_2 p112 q112
           (try rw [← Nbq21.out] at hx112_1)
           cases e112
           replace hx112_0 := (HB.out.cell (c1_ w _ hx112_0)).trans hx112_0
           replace hx112_1 := (HB.out.cell (c1_ w _ hx112_1)).trans hx112_1
           replace p112 := eq_true p112
           replace q112 := eq_true q112
           go_wp2
           go_meet
           case rel => exact ⟨_, (false), (by first | rfl | (simp; done) | (simp [*]; done)), H', ⟨by have := HJ2.out; have := HK2.out; first | omega | exact Nat.le_refl _⟩, ⟨by repeat (with_reducible first | exact HB.out | apply l1_ | apply l2_ | apply l3_)⟩⟩
         rw [if_neg c20] at H
         exact absurd H (by simp)
        rw [if_neg c19] at H
        exact absurd H (by simp)
       rw [if_neg c18] at H
       have c18b0 : decide ((wrap64 (x7_2 + 1)) < (l0.length : Int)) = false := decide_eq_false c18
       clear c18
       (first | rw [c18b0] | (simp only [i64_w, i32_w]; rw [c18b0]) | skip)
       have H' := m_ H
       clear H
       go_wp2
       go_meet
       case rel => exact ⟨_, (false), (by first | rfl | (simp; done) | (simp [*]; done)), H', ⟨by have := HJ2.out; have := HK2.out; first | omega | exact Nat.le_refl _⟩, ⟨by repeat (with_reducible first | exact HB.out | apply l1_ | apply l2_ | apply l3_)⟩⟩
      case rest =>
       clear HC17
       (try clear c1); (try clear p1); (try clear q1); (try clear hx1); (try clear c2); (try clear p2); (try clear q2); (try clear c4); (try clear c4b0); (try clear c5); (try clear c5b0); (try clear c6); (try clear c6b0); (try clear p6); (try clear c8); (try clear c10); (try clear c10b0); (try clear p10); (try clear q10); (try clear hx10); (try clear c11); (try clear c11b0); (try clear p11); (try clear q11); (try clear hx11); (try clear c16); (try clear c18); (try clear c18b0); (try clear c19); (try clear c19b0); (try clear c20); (try clear c20b0); (try clear q21); (try clear c22); (try clear hx108_0); (try clear hx108_1); (try clear hx110_0); (try clear hx110_1); (try clear hx112_0); (try clear hx112_1); (try clear p1); (try clear p10); (try clear p108); (try clear p11); (try clear p110); (try clear p112); (try clear p2); (try clear p6); (try clear q1); (try clear q10); (try clear q108); (try clear q11); (try clear q110); (try clear q112)
       obtain ⟨kq, x48_16, rfl, HA, HJ16, HB⟩ := hcut
       cases kq with
       | zero => exact absurd HA.out (by simp [pattern_className.j2])
       | succ kj16 =>
        have H := HA.out
        clear HA
        simp only [pattern_className.j2] at H
        by_cases c23 : x48_16 = true
        ·
         subst c23
         rw [if_pos rfl] at H
         by_cases c24 : 0 ≤ x7_2
         ·
          rw [if_pos c24] at H
          have c24b0 : decide (0 ≤ x7_2) = true := decide_eq_true c24
          clear c24
          by_cases c25 : x7_2 < (l0.length : Int)
          ·
           rw [if_pos c25] at H
           have c25b0 : decide (x7_2 < (l0.length : Int)) = true := decide_eq_true c25
           clear c25
           by_cases c26 : ((rd_T51 l0 x7_2).f0) = 58
           ·
            rw [if_pos c26] at H
            have c26b0 : (((rd_T51 l0 x7_2).f0) == 58) = true := beq_iff_eq.mpr c26
            have c26b1 : (((rd_T51 l0 x7_2).f0) != 58) = false := bne_eq_false_iff_eq.mpr c26
            clear c26
            obtain ⟨ji27, hji27⟩ : ∃ j_ : Int, (wrap64 (x7_2 + 1)) = j_ := ⟨_, rfl⟩
            first | rw [hji27] at H | simp only [hji27] at H
            have hji27w : (IntKind.i64.wrap (x7_2 + 1)) = ji27 := (i64_w _).trans hji27
            by_cases c28 : 0 ≤ (ji27)
            ·
             rw [if_pos c28] at H
             have c28b0 : decide (0 ≤ (ji27)) = true := decide_eq_true c28
             clear c28
             by_cases c29 : (ji27) < (l0.length : Int)
             ·
              rw [if_pos c29] at H
              have c29b0 : decide ((ji27) < (l0.length : Int)) = true := decide_eq_true c29
              clear c29
              replace H := Option.bind_eq_some_iff.mp H
              obtain ⟨t115, A300, H⟩ := H
              try dsimp -simprocs only at H
              have A30 := m_ A300
              clear A300
              by_cases c31 : t115 = true
              ·
               subst c31
               rw [if_pos rfl] at H
               simp only [Option.some.injEq, Prod.mk.injEq] at H
               obtain ⟨rfl, rfl⟩ := H
               have p113 : 0 ≤ (x7_2 : Int) := o1_ (by with_reducible assumption)
               have q113 : x7_2 < (l0.length : Int) := o1_ (by with_reducible assumption)
               obtain ⟨ad113, e113, hx113_0, hx113_1⟩ := at_T51 HR0.out x7_2 p113 q113
               cases e113
               replace hx113_0 := (HB.out.cell (c1_ w _ hx113_0)).trans hx113_0
               replace hx113_1 := (HB.out.cell (c1_ w _ hx113_1)).trans hx113_1
               replace p113 := eq_true p113
               replace q113 := eq_true q113
               have p114 : 0 ≤ ((ji27) : Int) := o1_ (by with_reducible assumption)
               have q114 : (ji27) < (l0.length : Int) := o1_ (by with_reducible assumption)
               obtain ⟨ad114, e114, hx114_0, hx114_1⟩ := at_T51 HR0.out (ji27) p114 q114
               obtain rfl : ad113 = ad114 := (by injection e114)
               replace hx114_0 := (HB.out.cell (c1_ w _ hx114_0)).trans hx114_0
               replace hx114_1 := (HB.out.cell (c1_ w _ hx114_1)).trans hx114_1
               replace p114 := eq_true p114
               replace q114 := eq_true q114
               go_wp2_with (first | ((with_reducible refine gate_callee (f := 33) rfl ?_); refine goesL_ (some 62) rfl rfl Try.func33 (by kernel_rfl) rfl #[.agg #[.int .u8 ((rd_T51 l0 (ji27)).f0), .bool ((rd_T51 l0 (ji27)).f1)], .int .u8 93] rfl (by (try simp only [List.map_toArray, List.map_cons, List.map_nil]); first | done | (simp only [hji27]; rfl) | rfl | (simp only [List.length_drop, List.length_take]; rfl)) ?_; (with_reducible refine (pattern_element_is.calls ((rd_T51 l0 (ji27)).f0) ((rd_T51 l0 (ji27)).f1) 93 true _ A30.out).mono ?_); rintro e w32 ⟨rfl, hb⟩; refine ⟨_, rfl, ?_⟩; replace HB := m_ (l5_ (by repeat (with_reducible first | exact HB.out | apply l1_ | apply l2_ | apply l3_)) hb); (try clear hb)))
               go_ret2
               exact ⟨by first | rfl | (simp [errW_none, errW_some] <;> rfl) | (simp only [← hji27]; first | rfl | (simp [errW_none, errW_some] <;> rfl)) | (simp [*, errW_none, errW_some] <;> rfl), by repeat (with_reducible first | exact HB.out | apply l1_ | apply l2_ | apply l3_)⟩
              ·
               replace c31 := Bool.eq_false_iff.mpr c31
               subst c31
               rw [if_neg (show ¬ (false = true) by decide)] at H
               simp only [Option.some.injEq, Prod.mk.injEq] at H
               obtain ⟨rfl, rfl⟩ := H
               have p113 : 0 ≤ (x7_2 : Int) := o1_ (by with_reducible assumption)
               have q113 : x7_2 < (l0.length : Int) := o1_ (by with_reducible assumption)
               obtain ⟨ad113, e113, hx113_0, hx113_1⟩ := at_T51 HR0.out x7_2 p113 q113
               cases e113
               replace hx113_0 := (HB.out.cell (c1_ w _ hx113_0)).trans hx113_0
               replace hx113_1 := (HB.out.cell (c1_ w _ hx113_1)).trans hx113_1
               replace p113 := eq_true p113
               replace q113 := eq_true q113
               have p114 : 0 ≤ ((ji27) : Int) := o1_ (by with_reducible assumption)
               have q114 : (ji27) < (l0.length : Int) := o1_ (by with_reducible assumption)
               obtain ⟨ad114, e114, hx114_0, hx114_1⟩ := at_T51 HR0.out (ji27) p114 q114
               obtain rfl : ad113 = ad114 := (by injection e114)
               replace hx114_0 := (HB.out.cell (c1_ w _ hx114_0)).trans hx114_0
               replace hx114_1 := (HB.out.cell (c1_ w _ hx114_1)).trans hx114_1
               replace p114 := eq_true p114
               replace q114 := eq_true q114
               go_wp2_with (first | ((with_reducible refine gate_callee (f := 33) rfl ?_); refine goesL_ (some 62) rfl rfl Try.func33 (by kernel_rfl) rfl #[.agg #[.int .u8 ((rd_T51 l0 (ji27)).f0), .bool ((rd_T51 l0 (ji27)).f1)], .int .u8 93] rfl (by (try simp only [List.map_toArray, List.map_cons, List.map_nil]); first | done | (simp only [hji27]; rfl) | rfl | (simp only [List.length_drop, List.length_take]; rfl)) ?_; (with_reducible refine (pattern_element_is.calls ((rd_T51 l0 (ji27)).f0) ((rd_T51 l0 (ji27)).f1) 93 false _ A30.out).mono ?_); rintro e w33 ⟨rfl, hb⟩; refine ⟨_, rfl, ?_⟩; replace HB := m_ (l5_ (by repeat (with_reducible first | exact HB.out | apply l1_ | apply l2_ | apply l3_)) hb); (try clear hb)))
               go_ret2
               exact ⟨by first | rfl | (simp [errW_none, errW_some] <;> rfl) | (simp only [← hji27]; first | rfl | (simp [errW_none, errW_some] <;> rfl)) | (simp [*, errW_none, errW_some] <;> rfl), by repeat (with_reducible first | exact HB.out | apply l1_ | apply l2_ | apply l3_)⟩
             rw [if_neg c29] at H
             exact absurd H (by simp)
            rw [if_neg c28] at H
            exact absurd H (by simp)
           rw [if_neg c26] at H
           have c26b0 : (((rd_T51 l0 x7_2).f0) == 58) = false := beq_eq_false_iff_ne.mpr c26
           have c26b1 : (((rd_T51 l0 x7_2).f0) != 58) = true := bne_iff_ne.mpr c26
           obtain ⟨y117, hy117⟩ : ∃ y_ : List Int, y_ = (([(rd_T51 l0 x7_2).f0] : List Int)) := ⟨_, rfl⟩
           replace H : (if x6_2.size + (strOfNums y117).size ≤ 9223372036854775807 then (pattern_className.l0 kj16 l0 (x6_2 ++ (strOfNums y117)) (wrap64 (x7_2 + 1))) else (none)) = some (r1, r2) := by subst hy117; exact H
           have Ny117 := m_ hy117
           clear hy117
           by_cases c34 : x6_2.size + (strOfNums y117).size ≤ 9223372036854775807
           ·
            rw [if_pos c34] at H
            have c34b0 := eq_true c34
            have c34b1 : decide (x6_2.size + (strOfNums y117).size ≤ 9223372036854775807) = true := decide_eq_true c34
            try have c34b2 : (9223372036854775807 < x6_2.size + (strOfNums y117).size) = False := eq_false (Nat.not_lt.2 c34)
            have H' := m_ H
            clear H
            have p113 : 0 ≤ (x7_2 : Int) := o1_ (by with_reducible assumption)
            have q113 : x7_2 < (l0.length : Int) := o1_ (by with_reducible assumption)
            obtain ⟨ad113, e113, hx113_0, hx113_1⟩ := at_T51 HR0.out x7_2 p113 q113
            cases e113
            replace hx113_0 := (HB.out.cell (c1_ w _ hx113_0)).trans hx113_0
            replace hx113_1 := (HB.out.cell (c1_ w _ hx113_1)).trans hx113_1
            replace p113 := eq_true p113
            replace q113 := eq_true q113
            have p116 : 0 ≤ (x7_2 : Int) := o1_ (by with_reducible assumption)
            have q116 : x7_2 < (l0.length : Int) := o1_ (by with_reducible assumption)
            obtain ⟨ad116, e116, hx116_0, hx116_1⟩ := at_T51 HR0.out x7_2 p116 q116
            obtain rfl : ad113 = ad116 := (by injection e116)
            replace hx116_0 := (HB.out.cell (c1_ w _ hx116_0)).trans hx116_0
            replace hx116_1 := (HB.out.cell (c1_ w _ hx116_1)).trans hx116_1
            replace p116 := eq_true p116
            replace q116 := eq_true q116
            go_wp2_with (first | ((with_reducible refine gate_dst (N := 72) rfl ?_); (try (refine gate_guard (by rfl) ?_; dsimp only)); refine Kd.R_lit (Kd.int .u8) _ 5 ?hg (N := 72) ?hd (xs := ([(rd_T51 l0 x7_2).f0] : List Int)) (inner := [.int .u8 ((rd_T51 l0 x7_2).f0)]) (ok := fun _ => True) (okp := fun _ => True) ?hr ?hp (fun _ hk => hk) trivial (Below.refl _ _) (Nat.le_refl _) (by simp) ?_; (case hd => rfl); (case hg => rfl); (case hr => first | (go_simp; done) | (go_simp; rfl)); (case hp => exact (Reps.one (show Kd.M (Kd.int .u8) _ _ _ ((rd_T51 l0 x7_2).f0) [.int .u8 ((rd_T51 l0 x7_2).f0)] from rfl) (Reps.none _ _))); intro v118 w35 ho36 hb hg_ hnew_; clear hg_ hnew_; (first | rw [← Ny117.out] at ho36 | (simp only [Int.reduceToNat] at ho36; rw [← Ny117.out] at ho36)); have HO119 := m_ (Kd.R_lower ho36 (l6_ (by repeat (with_reducible first | exact HB.out | apply l1_ | apply l2_ | apply l3_)))); replace HB := m_ (l5_ (by repeat (with_reducible first | exact HB.out | apply l1_ | apply l2_ | apply l3_)) hb); clear hb ho36; have hcv37 := own_string (P := Try.prog) Try.underlying52 Try.underlying5 Try.underlying9 (Kd.own_of_R HO119.out)))
            go_roundg kj16
            case measure => have := HJ2.out; have := HK2.out; have := HJ16.out; omega
            case rel => exact ⟨(x6_2 ++ (strOfNums y117)), (wrap64 (x7_2 + 1)), (by first | rfl | (simp; done) | (simp [*]; done)), (by first | rfl | (simp; done) | (simp [*]; done)), H', ⟨by have := HJ2.out; have := HK2.out; have := HJ16.out; omega⟩, ⟨by repeat (with_reducible first | exact HB.out | apply l1_ | apply l2_ | apply l3_)⟩⟩
           rw [if_neg c34] at H
           exact absurd H (by simp)
          rw [if_neg c25] at H
          exact absurd H (by simp)
         rw [if_neg c24] at H
         exact absurd H (by simp)
        ·
         replace c23 := Bool.eq_false_iff.mpr c23
         subst c23
         rw [if_neg (show ¬ (false = true) by decide)] at H
         simp only [Option.some.injEq, Prod.mk.injEq] at H
         obtain ⟨rfl, rfl⟩ := H
         go_wp2
         go_ret2
         exact ⟨by first | rfl | (simp [errW_none, errW_some] <;> rfl) | (simp [*, errW_none, errW_some] <;> rfl), by repeat (with_reducible first | exact HB.out | apply l1_ | apply l2_ | apply l3_)⟩
end Go.Proofs.Ytbekhjcnmifnnaa.Q
