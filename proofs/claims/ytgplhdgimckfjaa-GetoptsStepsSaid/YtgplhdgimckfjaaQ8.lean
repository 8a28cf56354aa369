-- Written by a program of this session's (wip/fork/fprint.py over the kit's print.py). Not trusted: Lean checks it.
import Derived.Test.YtgplhdgimckfjaaQ0
import Derived.Test.YtgplhdgimckfjaaQ3
import Derived.Test.YtgplhdgimckfjaaQ7
namespace Go.Proofs.Ytgplhdgimckfjaa.Q
open Go.RowKit Go.Proofs.YtgplhdgimckfjaaW.PrintWords Go.Proofs.YtgplhdgimckfjaaW.PrintLast Go.Proofs.YtgplhdgimckfjaaW.PrintMore
attribute [local go_sem] max2_int min2_int max_two min_two max_three min_three max_four min_four   -- for this text's walks alone
set_option linter.unusedVariables false
set_option linter.unusedSimpArgs false

/-! ### getopts_option: function 23 -/
mutual
def getopts_option.j0 : Nat → List ByteArray → ByteArray → Bool → ByteArray → ByteArray → Int → Int → Int → Int → Option (ByteArray × ByteArray × Int × ByteArray × Int × Int)
  | 0, _, _, _, _, _, _, _, _, _ => none
  | k + 1, x1, x8, x9, x10, x11, x104000, x104001, x110000, x110001 => if 0 < (x11.size : Int) then ((getopts_look.f k x8 (bt x11 0)).bind fun bt110 => (if bt110.1 = true then (getopts_option.j1 k x1 x9 x10 x11 bt110.1 bt110.2 false x104000 x104001 x110000 x110001) else (getopts_option.j1 k x1 x9 x10 x11 bt110.1 bt110.2 x9 x104000 x104001 x110000 x110001))) else (none)
def getopts_option.j1 : Nat → List ByteArray → Bool → ByteArray → ByteArray → Bool → Bool → Bool → Int → Int → Int → Int → Option (ByteArray × ByteArray × Int × ByteArray × Int × Int)
  | 0, _, _, _, _, _, _, _, _, _, _, _ => none
  | k + 1, x1, x9, x10, x11, x13, x14, x55, x104000, x104001, x110000, x110001 => if x55 = true then (some ((⟨#[63]⟩ : ByteArray), x11, 2, (⟨#[]⟩ : ByteArray), x110000, x110001)) else (if x13 = true then (if x14 = true then (if (wrap64 (x104001 + 1)) < (x10.size : Int) then (if 0 ≤ (wrap64 (x104001 + 1)) then (if (wrap64 (x104001 + 1)) ≤ (x10.size : Int) then (some (x11, x10.extract ((wrap64 (x104001 + 1)) : Int).toNat x10.size, 0, (⟨#[]⟩ : ByteArray), wrap64 (x104000 + 1), 0)) else (none)) else (none)) else (if x104000 < (x1.length : Int) then (if 0 ≤ x104000 then (some (x11, rdOf ByteArray.empty x1 x104000, 0, (⟨#[]⟩ : ByteArray), wrap64 (x104000 + 2), 0)) else (none)) else (if x9 = true then (some ((⟨#[58]⟩ : ByteArray), x11, 2, (⟨#[]⟩ : ByteArray), x110000, x110001)) else (if 31 + x11.size ≤ 9223372036854775807 then (some ((⟨#[63]⟩ : ByteArray), (⟨#[]⟩ : ByteArray), 2, (⟨#[111, 112, 116, 105, 111, 110, 32, 114, 101, 113, 117, 105, 114, 101, 115, 32, 97, 110, 32, 97, 114, 103, 117, 109, 101, 110, 116, 32, 45, 45, 32]⟩ : ByteArray) ++ x11, x110000, x110001)) else (none))))) else (some (x11, (⟨#[]⟩ : ByteArray), 0, (⟨#[]⟩ : ByteArray), x110000, x110001))) else (if 18 + x11.size ≤ 9223372036854775807 then (some ((⟨#[63]⟩ : ByteArray), (⟨#[]⟩ : ByteArray), 2, (⟨#[105, 108, 108, 101, 103, 97, 108, 32, 111, 112, 116, 105, 111, 110, 32, 45, 45, 32]⟩ : ByteArray) ++ x11, x110000, x110001)) else (none)))
end
def getopts_option.f (k : Nat) (a0 : ByteArray) (l1 : List ByteArray) (a2_0 : Int) (a2_1 : Int) : Option (ByteArray × ByteArray × Int × ByteArray × Int × Int) := (getopts_split.f a0).bind fun bt106 => (if 0 ≤ (wrap64 (a2_0 - 1)) then (if (wrap64 (a2_0 - 1)) < (l1.length : Int) then (if 0 ≤ a2_1 then (if a2_1 ≤ (wrap64 (a2_1 + 1)) then (if (wrap64 (a2_1 + 1)) ≤ ((rdOf ByteArray.empty l1 (wrap64 (a2_0 - 1))).size : Int) then (if (wrap64 (a2_1 + 1)) = ((rdOf ByteArray.empty l1 (wrap64 (a2_0 - 1))).size : Int) then (getopts_option.j0 k l1 bt106.1 bt106.2 (rdOf ByteArray.empty l1 (wrap64 (a2_0 - 1))) ((rdOf ByteArray.empty l1 (wrap64 (a2_0 - 1))).extract (a2_1 : Int).toNat ((wrap64 (a2_1 + 1)) : Int).toNat) a2_0 a2_1 (wrap64 (a2_0 + 1)) 0) else (getopts_option.j0 k l1 bt106.1 bt106.2 (rdOf ByteArray.empty l1 (wrap64 (a2_0 - 1))) ((rdOf ByteArray.empty l1 (wrap64 (a2_0 - 1))).extract (a2_1 : Int).toNat ((wrap64 (a2_1 + 1)) : Int).toNat) a2_0 a2_1 a2_0 (wrap64 (a2_1 + 1)))) else (none)) else (none)) else (none)) else (none)) else (none))
theorem getopts_option.mono_l : ∀ k, (∀ y0 y1 y2 y3 y4 y5 y6 y7 y8, LeO (getopts_option.j0 k y0 y1 y2 y3 y4 y5 y6 y7 y8) (getopts_option.j0 (k + 1) y0 y1 y2 y3 y4 y5 y6 y7 y8)) ∧ (∀ y0 y1 y2 y3 y4 y5 y6 y7 y8 y9 y10, LeO (getopts_option.j1 k y0 y1 y2 y3 y4 y5 y6 y7 y8 y9 y10) (getopts_option.j1 (k + 1) y0 y1 y2 y3 y4 y5 y6 y7 y8 y9 y10))
  | 0 => ⟨fun _ _ _ _ _ _ _ _ _ r h => by simp [getopts_option.j0] at h, fun _ _ _ _ _ _ _ _ _ _ _ r h => by simp [getopts_option.j1] at h⟩
  | k + 1 => by
    obtain ⟨ih0, ih1⟩ := getopts_option.mono_l k
    refine ⟨?_, ?_⟩
    · intro y0 y1 y2 y3 y4 y5 y6 y7 y8
      unfold getopts_option.j0
      repeat' first
      | (with_reducible exact ih0 _ _ _ _ _ _ _ _ _)
      | (with_reducible exact ih1 _ _ _ _ _ _ _ _ _ _ _)
      | (with_reducible exact getopts_look.mono _ _ _)
      | (with_reducible exact LeO.refl _)
      | (with_reducible exact LeO.none _)
      | (with_reducible refine LeO.ite ?_ ?_)
      | (with_reducible refine LeO.bind ?_ (fun _ => ?_))
      | exact ih0 _ _ _ _ _ _ _ _ _
      | exact ih1 _ _ _ _ _ _ _ _ _ _ _
      | exact getopts_look.mono _ _ _
      | exact LeO.none _
      | refine LeO.ite ?_ ?_
      | refine LeO.bind ?_ (fun _ => ?_)
    · intro y0 y1 y2 y3 y4 y5 y6 y7 y8 y9 y10
      unfold getopts_option.j1
      repeat' first
      | (with_reducible exact ih0 _ _ _ _ _ _ _ _ _)
      | (with_reducible exact ih1 _ _ _ _ _ _ _ _ _ _ _)
      | (with_reducible exact getopts_look.mono _ _ _)
      | (with_reducible exact LeO.refl _)
      | (with_reducible exact LeO.none _)
      | (with_reducible refine LeO.ite ?_ ?_)
      | (with_reducible refine LeO.bind ?_ (fun _ => ?_))
      | exact ih0 _ _ _ _ _ _ _ _ _
      | exact ih1 _ _ _ _ _ _ _ _ _ _ _
      | exact getopts_look.mono _ _ _
      | exact LeO.none _
      | refine LeO.ite ?_ ?_
      | refine LeO.bind ?_ (fun _ => ?_)
theorem getopts_option.mono : ∀ a0 a1 a2 a3 k, LeO (getopts_option.f k a0 a1 a2 a3) (getopts_option.f (k + 1) a0 a1 a2 a3) := by
  intro a0 a1 a2 a3 k
  obtain ⟨ih0, ih1⟩ := getopts_option.mono_l k
  unfold getopts_option.f
  repeat' first
      | (with_reducible exact ih0 _ _ _ _ _ _ _ _ _)
      | (with_reducible exact ih1 _ _ _ _ _ _ _ _ _ _ _)
      | (with_reducible exact getopts_look.mono _ _ _)
      | (with_reducible exact LeO.refl _)
      | (with_reducible exact LeO.none _)
      | (with_reducible refine LeO.ite ?_ ?_)
      | (with_reducible refine LeO.bind ?_ (fun _ => ?_))
      | exact ih0 _ _ _ _ _ _ _ _ _
      | exact ih1 _ _ _ _ _ _ _ _ _ _ _
      | exact getopts_look.mono _ _ _
      | exact LeO.none _
      | refine LeO.ite ?_ ?_
      | refine LeO.bind ?_ (fun _ => ?_)
def getopts_option.T15 : Bool × List (List Nat × List Nat) := (true, [([], []), ([], []), ([], []), ([2], [2]), ([3], [3]), ([1, 4], [1, 4]), ([0, 5], [0, 5]), ([], []), ([7], [7]), ([8], [8]), ([9], [9]), ([6, 0, 1, 2, 3, 4, 5, 6], [6]), ([10, 11, 0, 1, 2, 3, 4, 5, 6, 7, 8, 9, 10, 11], [10])])
def getopts_option.B15 : List Nat := [0, 0, 0, 4, 12, 30, 63, 0, 128, 384, 896, 127, 4095]
theorem getopts_option.tab15 : rtab .any (opsOf Try.f23 15) = getopts_option.T15 := by kernel_rfl
theorem getopts_option.bits15 : waitsOk getopts_option.T15.2 getopts_option.B15 = true := by kernel_rfl
def getopts_option.T17 : Bool × List (List Nat × List Nat) := (true, [([], []), ([], []), ([], []), ([2], [2]), ([1, 3], [1, 3]), ([4], [4]), ([0, 5], [0, 5]), ([], []), ([7], [7]), ([8], [8]), ([9], [9]), ([6, 0, 1, 2, 3, 4, 5, 6], [6]), ([10, 11, 0, 1, 2, 3, 4, 5, 6, 7, 8, 9, 10, 11], [10])])
def getopts_option.B17 : List Nat := [0, 0, 0, 4, 14, 30, 63, 0, 128, 384, 896, 127, 4095]
theorem getopts_option.tab17 : rtab .any (opsOf Try.f23 17) = getopts_option.T17 := by kernel_rfl
theorem getopts_option.bits17 : waitsOk getopts_option.T17.2 getopts_option.B17 = true := by kernel_rfl
set_option maxHeartbeats 8000000 in
set_option maxRecDepth 100000 in
theorem getopts_option.calls (k : Nat) (a0 : ByteArray) (A1 : Option Addr) (c1 : Nat) (l1 : List ByteArray) (a2_0 : Int) (a2_1 : Int) (r1 : ByteArray) (r2 : ByteArray) (r3 : Int) (r4 : ByteArray) (r5 : Int) (r6 : Int) (w : World) (hr1 : Kd.C Kd.string w A1 l1.length l1) (hc1 : l1.length ≤ c1) (h : getopts_option.f k a0 l1 a2_0 a2_1 = some (r1, r2, r3, r4, r5, r6)) :
    Calls Try.prog 23 #[.string a0, .slice A1 l1.length c1, .agg #[.int .i64 a2_0, .int .i64 a2_1]] w fun e w' => e = .returned (.tuple #[.agg #[.string r1, .string r2, .int .i64 r3, .string r4], .agg #[.int .i64 r5, .int .i64 r6]]) ∧ Below w.heap.size w w' := by
  have hu29 := Try.underlying29
  have hu32 := Try.underlying32
  have HR1 := Aside0.mk hr1
  have HC1 := Aside0.mk hc1
  clear hr1 hc1
  have HB := Aside0.mk (Below.refl w.heap.size w)
  have H : ((getopts_split.f a0).bind fun bt106 => (if 0 ≤ (wrap64 (a2_0 - 1)) then (if (wrap64 (a2_0 - 1)) < (l1.length : Int) then (if 0 ≤ a2_1 then (if a2_1 ≤ (wrap64 (a2_1 + 1)) then (if (wrap64 (a2_1 + 1)) ≤ ((rdOf ByteArray.empty l1 (wrap64 (a2_0 - 1))).size : Int) then (if (wrap64 (a2_1 + 1)) = ((rdOf ByteArray.empty l1 (wrap64 (a2_0 - 1))).size : Int) then (getopts_option.j0 k l1 bt106.1 bt106.2 (rdOf ByteArray.empty l1 (wrap64 (a2_0 - 1))) ((rdOf ByteArray.empty l1 (wrap64 (a2_0 - 1))).extract (a2_1 : Int).toNat ((wrap64 (a2_1 + 1)) : Int).toNat) a2_0 a2_1 (wrap64 (a2_0 + 1)) 0) else (getopts_option.j0 k l1 bt106.1 bt106.2 (rdOf ByteArray.empty l1 (wrap64 (a2_0 - 1))) ((rdOf ByteArray.empty l1 (wrap64 (a2_0 - 1))).extract (a2_1 : Int).toNat ((wrap64 (a2_1 + 1)) : Int).toNat) a2_0 a2_1 a2_0 (wrap64 (a2_1 + 1)))) else (none)) else (none)) else (none)) else (none)) else (none))) = some (r1, r2, r3, r4, r5, r6) := h
  clear h
  replace H := Option.bind_eq_some_iff.mp H
  obtain ⟨⟨t106, t107⟩, A40, H⟩ := H
  replace H : (if 0 ≤ (wrap64 (a2_0 - 1)) then (if (wrap64 (a2_0 - 1)) < (l1.length : Int) then (if 0 ≤ a2_1 then (if a2_1 ≤ (wrap64 (a2_1 + 1)) then (if (wrap64 (a2_1 + 1)) ≤ ((rdOf ByteArray.empty l1 (wrap64 (a2_0 - 1))).size : Int) then (if (wrap64 (a2_1 + 1)) = ((rdOf ByteArray.empty l1 (wrap64 (a2_0 - 1))).size : Int) then (getopts_option.j0 k l1 t106 t107 (rdOf ByteArray.empty l1 (wrap64 (a2_0 - 1))) ((rdOf ByteArray.empty l1 (wrap64 (a2_0 - 1))).extract (a2_1 : Int).toNat ((wrap64 (a2_1 + 1)) : Int).toNat) a2_0 a2_1 (wrap64 (a2_0 + 1)) 0) else (getopts_option.j0 k l1 t106 t107 (rdOf ByteArray.empty l1 (wrap64 (a2_0 - 1))) ((rdOf ByteArray.empty l1 (wrap64 (a2_0 - 1))).extract (a2_1 : Int).toNat ((wrap64 (a2_1 + 1)) : Int).toNat) a2_0 a2_1 a2_0 (wrap64 (a2_1 + 1)))) else (none)) else (none)) else (none)) else (none)) else (none)) = some (r1, r2, r3, r4, r5, r6) := H
  have A4 := Aside0.mk A40
  clear A40
  obtain ⟨ji5, hji5⟩ : ∃ j_ : Int, (wrap64 (a2_0 - 1)) = j_ := ⟨_, rfl⟩
  replace H : (if 0 ≤ (ji5) then (if (ji5) < (l1.length : Int) then (if 0 ≤ a2_1 then (if a2_1 ≤ (wrap64 (a2_1 + 1)) then (if (wrap64 (a2_1 + 1)) ≤ ((rdOf ByteArray.empty l1 (ji5)).size : Int) then (if (wrap64 (a2_1 + 1)) = ((rdOf ByteArray.empty l1 (ji5)).size : Int) then (getopts_option.j0 k l1 t106 t107 (rdOf ByteArray.empty l1 (ji5)) ((rdOf ByteArray.empty l1 (ji5)).extract (a2_1 : Int).toNat ((wrap64 (a2_1 + 1)) : Int).toNat) a2_0 a2_1 (wrap64 (a2_0 + 1)) 0) else (getopts_option.j0 k l1 t106 t107 (rdOf ByteArray.empty l1 (ji5)) ((rdOf ByteArray.empty l1 (ji5)).extract (a2_1 : Int).toNat ((wrap64 (a2_1 + 1)) : Int).toNat) a2_0 a2_1 a2_0 (wrap64 (a2_1 + 1)))) else (none)) else (none)) else (none)) else (none)) else (none)) = some (r1, r2, r3, r4, r5, r6) := by first | (rw [hji5] at H; exact H) | (simp only [hji5] at H ⊢; exact H)
  (try rw [hji5] at A4)
  have hji5w : (IntKind.i64.wrap (a2_0 - 1)) = ji5 := (i64_w _).trans hji5
  by_cases c6 : 0 ≤ (ji5)
  · rw [if_pos c6] at H
    have c6b0 : decide (0 ≤ (ji5)) = true := decide_eq_true c6
    clear c6
    by_cases c7 : (ji5) < (l1.length : Int)
    · rw [if_pos c7] at H
      have c7b0 : decide ((ji5) < (l1.length : Int)) = true := decide_eq_true c7
      clear c7
      by_cases c8 : 0 ≤ a2_1
      · rw [if_pos c8] at H
        have c8b0 := eq_true c8
        have c8b1 : decide (0 ≤ a2_1) = true := decide_eq_true c8
        clear c8
        by_cases c9 : a2_1 ≤ (wrap64 (a2_1 + 1))
        · rw [if_pos c9] at H
          have c9b0 := eq_true c9
          have c9b1 : decide (a2_1 ≤ (wrap64 (a2_1 + 1))) = true := decide_eq_true c9
          by_cases c10 : (wrap64 (a2_1 + 1)) ≤ ((rdOf ByteArray.empty l1 (ji5)).size : Int)
          · rw [if_pos c10] at H
            have c10b0 := eq_true c10
            have c10b1 : decide ((wrap64 (a2_1 + 1)) ≤ ((rdOf ByteArray.empty l1 (ji5)).size : Int)) = true := decide_eq_true c10
            have HC11 := Aside0.mk H
            clear H
            go_enter Try.func23, Try.ntmps23
            go_upto_if 43 with (first | ((with_reducible refine gate_dst (N := 5) rfl ?_); refine box_event ?hg (N := 5) ?hd (cs := #[.int .i64 a2_0, .int .i64 a2_1]) (t := 29) ?hr ?_; (case hd => rfl); (case hg => rfl); (case hr => first | (go_simp; done) | (go_simp; rfl)); intro gb103 hg w12 hbox hb; have n0_ := Aside0.mk (below_step (by repeat (first | (with_reducible first | exact HB.out | apply below_alloc | apply pw_below_drewN | apply below_drew1) | exact HB.out)) hb); have n1_ := Aside0.mk (hbox); have n2_ := Aside0.mk ((by rw [hg]; exact (below_size (by repeat (first | (with_reducible first | exact HB.out | apply below_alloc | apply pw_below_drewN | apply below_drew1) | exact HB.out))) : w.heap.size ≤ gb103)); have n3_ := Aside0.mk ((by rw [hg]; exact (below_size (by repeat (first | (with_reducible first | exact HB.out | apply below_alloc | apply pw_below_drewN | apply below_drew1) | exact HB.out))) : w.heap.size ≤ gb103)); clear HB; have HB := n0_; have BK103 := n1_; have GW103 := n2_; have GE103 := n3_; clear n0_ n1_ n2_ n3_; clear hb hbox hg) | ((with_reducible refine gate_dst (N := 6) rfl ?_); refine box_event ?hg (N := 6) ?hd (cs := #[.string (⟨#[]⟩ : ByteArray), .string (⟨#[]⟩ : ByteArray), .int .i64 0, .string (⟨#[]⟩ : ByteArray)]) (t := 32) ?hr ?_; (case hd => rfl); (case hg => rfl); (case hr => first | (go_simp; done) | (go_simp; rfl)); intro gb104 hg w13 hbox hb; have n0_ := Aside0.mk (blk_below (g := gb103) (o := .cells #[.int .i64 a2_0, .int .i64 a2_1] 29 (0, 0)) (by (with_reducible repeat (first | refine blk_drewN ?_ _ | refine blk_drew ?_ | refine blk_alloc ?_ _)); exact BK103.out) hb); have n1_ := Aside0.mk (below_step (by repeat (first | (with_reducible first | exact HB.out | apply below_alloc | apply pw_below_drewN | apply below_drew1 | refine below_set ?_ GE103.out) | exact HB.out)) hb); have n2_ := Aside0.mk (hbox); have n3_ := Aside0.mk ((by rw [hg]; exact (below_size (by repeat (first | (with_reducible first | exact HB.out | apply below_alloc | apply pw_below_drewN | apply below_drew1 | refine below_set ?_ GE103.out) | exact HB.out))) : w.heap.size ≤ gb104)); have n4_ := Aside0.mk ((by rw [hg]; exact (below_size (by repeat (first | (with_reducible first | exact HB.out | apply below_alloc | apply pw_below_drewN | apply below_drew1 | refine below_set ?_ GE103.out) | exact HB.out))) : w.heap.size ≤ gb104)); have n5_ := Aside0.mk ((by rw [hg]; exact Nat.ne_of_lt (blk_lt (g := gb103) (o := .cells #[.int .i64 a2_0, .int .i64 a2_1] 29 (0, 0)) (by (with_reducible repeat (first | refine blk_drewN ?_ _ | refine blk_drew ?_ | refine blk_alloc ?_ _)); exact BK103.out)) : gb103 ≠ gb104)); have n6_ := Aside0.mk ((by rw [hg]; exact Nat.ne_of_gt (blk_lt (g := gb103) (o := .cells #[.int .i64 a2_0, .int .i64 a2_1] 29 (0, 0)) (by (with_reducible repeat (first | refine blk_drewN ?_ _ | refine blk_drew ?_ | refine blk_alloc ?_ _)); exact BK103.out)) : gb104 ≠ gb103)); clear BK103; clear HB; have BK103 := n0_; have HB := n1_; have BK104 := n2_; have GW104 := n3_; have GE104 := n4_; have NB103_104 := n5_; have NB104_103 := n6_; clear n0_ n1_ n2_ n3_ n4_ n5_ n6_; clear hb hbox hg) | ((with_reducible refine gate_dst (N := 7) rfl ?_); refine box_event ?hg (N := 7) ?hd (cs := #[.int .i64 0, .int .i64 0]) (t := 29) ?hr ?_; (case hd => rfl); (case hg => rfl); (case hr => first | (go_simp; done) | (go_simp; rfl)); intro gb105 hg w14 hbox hb; have n0_ := Aside0.mk (blk_below (g := gb103) (o := .cells #[.int .i64 a2_0, .int .i64 a2_1] 29 (0, 0)) (by (with_reducible repeat (first | refine blk_drewN ?_ _ | refine blk_drew ?_ | refine blk_alloc ?_ _)); exact BK103.out) hb); have n1_ := Aside0.mk (blk_below (g := gb104) (o := .cells #[.string (⟨#[]⟩ : ByteArray), .string (⟨#[]⟩ : ByteArray), .int .i64 0, .string (⟨#[]⟩ : ByteArray)] 32 (0, 0)) (by (with_reducible repeat (first | refine blk_drewN ?_ _ | refine blk_drew ?_ | refine blk_alloc ?_ _)); exact BK104.out) hb); have n2_ := Aside0.mk (below_step (by repeat (first | (with_reducible first | exact HB.out | apply below_alloc | apply pw_below_drewN | apply below_drew1 | refine below_set ?_ GE103.out | refine below_set ?_ GE104.out) | exact HB.out)) hb); have n3_ := Aside0.mk (hbox); have n4_ := Aside0.mk ((by rw [hg]; exact (below_size (by repeat (first | (with_reducible first | exact HB.out | apply below_alloc | apply pw_below_drewN | apply below_drew1 | refine below_set ?_ GE103.out | refine below_set ?_ GE104.out) | exact HB.out))) : w.heap.size ≤ gb105)); have n5_ := Aside0.mk ((by rw [hg]; exact (below_size (by repeat (first | (with_reducible first | exact HB.out | apply below_alloc | apply pw_below_drewN | apply below_drew1 | refine below_set ?_ GE103.out | refine below_set ?_ GE104.out) | exact HB.out))) : w.heap.size ≤ gb105)); have n6_ := Aside0.mk ((by rw [hg]; exact Nat.ne_of_lt (blk_lt (g := gb103) (o := .cells #[.int .i64 a2_0, .int .i64 a2_1] 29 (0, 0)) (by (with_reducible repeat (first | refine blk_drewN ?_ _ | refine blk_drew ?_ | refine blk_alloc ?_ _)); exact BK103.out)) : gb103 ≠ gb105)); have n7_ := Aside0.mk ((by rw [hg]; exact Nat.ne_of_gt (blk_lt (g := gb103) (o := .cells #[.int .i64 a2_0, .int .i64 a2_1] 29 (0, 0)) (by (with_reducible repeat (first | refine blk_drewN ?_ _ | refine blk_drew ?_ | refine blk_alloc ?_ _)); exact BK103.out)) : gb105 ≠ gb103)); have n8_ := Aside0.mk ((by rw [hg]; exact Nat.ne_of_lt (blk_lt (g := gb104) (o := .cells #[.string (⟨#[]⟩ : ByteArray), .string (⟨#[]⟩ : ByteArray), .int .i64 0, .string (⟨#[]⟩ : ByteArray)] 32 (0, 0)) (by (with_reducible repeat (first | refine blk_drewN ?_ _ | refine blk_drew ?_ | refine blk_alloc ?_ _)); exact BK104.out)) : gb104 ≠ gb105)); have n9_ := Aside0.mk ((by rw [hg]; exact Nat.ne_of_gt (blk_lt (g := gb104) (o := .cells #[.string (⟨#[]⟩ : ByteArray), .string (⟨#[]⟩ : ByteArray), .int .i64 0, .string (⟨#[]⟩ : ByteArray)] 32 (0, 0)) (by (with_reducible repeat (first | refine blk_drewN ?_ _ | refine blk_drew ?_ | refine blk_alloc ?_ _)); exact BK104.out)) : gb105 ≠ gb104)); clear BK103; clear BK104; clear HB; have BK103 := n0_; have BK104 := n1_; have HB := n2_; have BK105 := n3_; have GW105 := n4_; have GE105 := n5_; have NB103_105 := n6_; have NB105_103 := n7_; have NB104_105 := n8_; have NB105_104 := n9_; clear n0_ n1_ n2_ n3_ n4_ n5_ n6_ n7_ n8_ n9_; clear hb hbox hg) | ((with_reducible refine gate_callee (f := 19) rfl ?_); refine goesL_ (some 17) rfl rfl Try.func19 (by kernel_rfl) rfl #[.string a0] rfl (by (try simp only [List.map_toArray, List.map_cons, List.map_nil]); first | done | rfl | (simp only [List.length_drop, List.length_take]; rfl)) ?_; (with_reducible refine (getopts_split.calls a0 t106 t107 _ A4.out).mono ?_); rintro e w' ⟨rfl, ⟨nd, rfl⟩⟩; refine ⟨_, rfl, ?_⟩; (try (rw [drewN_self w14]; generalize hq_ : World.drewN w14 _ = w14; have n0_ : Aside0 (w14.heap[gb103]? = some (.cells #[.int .i64 a2_0, .int .i64 a2_1] 29 (0, 0))) := ⟨by rw [← hq_]; exact (by (with_reducible repeat (first | refine blk_drewN ?_ _ | refine blk_drew ?_ | refine blk_alloc ?_ _)); exact BK103.out)⟩; have n1_ : Aside0 (w14.heap[gb104]? = some (.cells #[.string (⟨#[]⟩ : ByteArray), .string (⟨#[]⟩ : ByteArray), .int .i64 0, .string (⟨#[]⟩ : ByteArray)] 32 (0, 0))) := ⟨by rw [← hq_]; exact (by (with_reducible repeat (first | refine blk_drewN ?_ _ | refine blk_drew ?_ | refine blk_alloc ?_ _)); exact BK104.out)⟩; have n2_ : Aside0 (w14.heap[gb105]? = some (.cells #[.int .i64 0, .int .i64 0] 29 (0, 0))) := ⟨by rw [← hq_]; exact (by (with_reducible repeat (first | refine blk_drewN ?_ _ | refine blk_drew ?_ | refine blk_alloc ?_ _)); exact BK105.out)⟩; have n3_ : Aside0 (Below w.heap.size w w14) := ⟨by rw [← hq_]; exact (by repeat (first | (with_reducible first | exact HB.out | apply below_alloc | apply pw_below_drewN | apply below_drew1 | refine below_set ?_ GE103.out | refine below_set ?_ GE104.out | refine below_set ?_ GE105.out) | exact HB.out))⟩; clear BK103 BK104 BK105 HB hq_; have BK103 := n0_; have BK104 := n1_; have BK105 := n2_; have HB := n3_; clear n0_ n1_ n2_ n3_)); have hnb15 := NB103_104.out; have hnc15 := NB104_103.out; have hnb16 := NB103_105.out; have hnc16 := NB105_103.out; have hcz17_0 : w14.cell? ⟨gb103, 0, none⟩ = some (.int .i64 a2_0) := (blk_cell BK103.out 0).trans rfl; have hcz17_1 : w14.cell? ⟨gb103, 1, none⟩ = some (.int .i64 a2_1) := (blk_cell BK103.out 1).trans rfl; have hfz17_0 := blk_frozen BK103.out 0; have hfz17_1 := blk_frozen BK103.out 1; have p108 : 0 ≤ ((ji5) : Int) := of_decide_eq_true (by first | (with_reducible assumption) | assumption); have q108 : (ji5) < (l1.length : Int) := of_decide_eq_true (by first | (with_reducible assumption) | assumption); obtain ⟨ad108, e108, hx108_0⟩ := Kd.at_string HR1.out (ji5) p108 q108; cases e108; replace hx108_0 := (HB.out.cell (World.block_lt_of_cell? w _ hx108_0)).trans hx108_0; replace p108 := eq_true p108; replace q108 := eq_true q108) | ((with_reducible refine gate_dst (N := 12) rfl ?_); refine box_event ?hg (N := 12) ?hd (cs := #[.int .i64 0, .int .i64 0]) (t := 29) ?hr ?_; (case hd => rfl); (case hg => rfl); (case hr => first | (go_simp; done) | (go_simp; rfl)); intro gb109 hg w18 hbox hb; have n0_ := Aside0.mk (blk_below (g := gb103) (o := .cells #[.int .i64 a2_0, .int .i64 a2_1] 29 (0, 0)) (by (with_reducible repeat (first | refine blk_drewN ?_ _ | refine blk_drew ?_ | refine blk_alloc ?_ _)); exact BK103.out) hb); have n1_ := Aside0.mk (blk_below (g := gb104) (o := .cells #[.string (⟨#[]⟩ : ByteArray), .string (⟨#[]⟩ : ByteArray), .int .i64 0, .string (⟨#[]⟩ : ByteArray)] 32 (0, 0)) (by (with_reducible repeat (first | refine blk_drewN ?_ _ | refine blk_drew ?_ | refine blk_alloc ?_ _)); exact BK104.out) hb); have n2_ := Aside0.mk (blk_below (g := gb105) (o := .cells #[.int .i64 0, .int .i64 0] 29 (0, 0)) (by (with_reducible repeat (first | refine blk_drewN ?_ _ | refine blk_drew ?_ | refine blk_alloc ?_ _)); exact BK105.out) hb); have n3_ := Aside0.mk (below_step (by repeat (first | (with_reducible first | exact HB.out | apply below_alloc | apply pw_below_drewN | apply below_drew1 | refine below_set ?_ GE103.out | refine below_set ?_ GE104.out | refine below_set ?_ GE105.out) | exact HB.out)) hb); have n4_ := Aside0.mk (hbox); have n5_ := Aside0.mk ((by rw [hg]; exact (below_size (by repeat (first | (with_reducible first | exact HB.out | apply below_alloc | apply pw_below_drewN | apply below_drew1 | refine below_set ?_ GE103.out | refine below_set ?_ GE104.out | refine below_set ?_ GE105.out) | exact HB.out))) : w.heap.size ≤ gb109)); have n6_ := Aside0.mk ((by rw [hg]; exact (below_size (by repeat (first | (with_reducible first | exact HB.out | apply below_alloc | apply pw_below_drewN | apply below_drew1 | refine below_set ?_ GE103.out | refine below_set ?_ GE104.out | refine below_set ?_ GE105.out) | exact HB.out))) : w.heap.size ≤ gb109)); have n7_ := Aside0.mk ((by rw [hg]; exact Nat.ne_of_lt (blk_lt (g := gb103) (o := .cells #[.int .i64 a2_0, .int .i64 a2_1] 29 (0, 0)) (by (with_reducible repeat (first | refine blk_drewN ?_ _ | refine blk_drew ?_ | refine blk_alloc ?_ _)); exact BK103.out)) : gb103 ≠ gb109)); have n8_ := Aside0.mk ((by rw [hg]; exact Nat.ne_of_gt (blk_lt (g := gb103) (o := .cells #[.int .i64 a2_0, .int .i64 a2_1] 29 (0, 0)) (by (with_reducible repeat (first | refine blk_drewN ?_ _ | refine blk_drew ?_ | refine blk_alloc ?_ _)); exact BK103.out)) : gb109 ≠ gb103)); have n9_ := Aside0.mk ((by rw [hg]; exact Nat.ne_of_lt (blk_lt (g := gb104) (o := .cells #[.string (⟨#[]⟩ : ByteArray), .string (⟨#[]⟩ : ByteArray), .int .i64 0, .string (⟨#[]⟩ : ByteArray)] 32 (0, 0)) (by (with_reducible repeat (first | refine blk_drewN ?_ _ | refine blk_drew ?_ | refine blk_alloc ?_ _)); exact BK104.out)) : gb104 ≠ gb109)); have n10_ := Aside0.mk ((by rw [hg]; exact Nat.ne_of_gt (blk_lt (g := gb104) (o := .cells #[.string (⟨#[]⟩ : ByteArray), .string (⟨#[]⟩ : ByteArray), .int .i64 0, .string (⟨#[]⟩ : ByteArray)] 32 (0, 0)) (by (with_reducible repeat (first | refine blk_drewN ?_ _ | refine blk_drew ?_ | refine blk_alloc ?_ _)); exact BK104.out)) : gb109 ≠ gb104)); have n11_ := Aside0.mk ((by rw [hg]; exact Nat.ne_of_lt (blk_lt (g := gb105) (o := .cells #[.int .i64 0, .int .i64 0] 29 (0, 0)) (by (with_reducible repeat (first | refine blk_drewN ?_ _ | refine blk_drew ?_ | refine blk_alloc ?_ _)); exact BK105.out)) : gb105 ≠ gb109)); have n12_ := Aside0.mk ((by rw [hg]; exact Nat.ne_of_gt (blk_lt (g := gb105) (o := .cells #[.int .i64 0, .int .i64 0] 29 (0, 0)) (by (with_reducible repeat (first | refine blk_drewN ?_ _ | refine blk_drew ?_ | refine blk_alloc ?_ _)); exact BK105.out)) : gb109 ≠ gb105)); clear BK103; clear BK104; clear BK105; clear HB; have BK103 := n0_; have BK104 := n1_; have BK105 := n2_; have HB := n3_; have BK109 := n4_; have GW109 := n5_; have GE109 := n6_; have NB103_109 := n7_; have NB109_103 := n8_; have NB104_109 := n9_; have NB109_104 := n10_; have NB105_109 := n11_; have NB109_105 := n12_; clear n0_ n1_ n2_ n3_ n4_ n5_ n6_ n7_ n8_ n9_ n10_ n11_ n12_; clear hb hbox hg; have hnb19 := NB109_103.out; have hnc19 := NB103_109.out; have hnb20 := NB109_104.out; have hnc20 := NB104_109.out; have hnb21 := NB109_105.out; have hnc21 := NB105_109.out; have hcz22_0 : w18.cell? ⟨gb109, 0, none⟩ = some (.int .i64 0) := (blk_cell BK109.out 0).trans rfl; have hcz22_1 : w18.cell? ⟨gb109, 1, none⟩ = some (.int .i64 0) := (blk_cell BK109.out 1).trans rfl; have hfz22_0 := blk_frozen BK109.out 0; have hfz22_1 := blk_frozen BK109.out 1))
            (try simp only [Act.put, List.setIfInBounds_toArray, List.set_cons_zero, List.set_cons_succ])
            go_cut [] (fun wc => ∃ (kq : Nat) (x110000_10 : Int) (x110001_10 : Int), Aside0 (getopts_option.j0 kq l1 t106 t107 (rdOf ByteArray.empty l1 (ji5)) ((rdOf ByteArray.empty l1 (ji5)).extract (a2_1 : Int).toNat ((wrap64 (a2_1 + 1)) : Int).toNat) a2_0 a2_1 x110000_10 x110001_10 = some (r1, r2, r3, r4, r5, r6)) ∧ Aside0 (kq ≤ k) ∧ Aside0 (wc.heap[gb103]? = some (.cells #[.int .i64 a2_0, .int .i64 a2_1] 29 (0, 0))) ∧ Aside0 (wc.heap[gb104]? = some (.cells #[.string (⟨#[]⟩ : ByteArray), .string (⟨#[]⟩ : ByteArray), .int .i64 0, .string (⟨#[]⟩ : ByteArray)] 32 (0, 0))) ∧ Aside0 (wc.heap[gb105]? = some (.cells #[.int .i64 0, .int .i64 0] 29 (0, 0))) ∧ Aside0 (wc.heap[gb109]? = some (.cells #[.int .i64 x110000_10, .int .i64 x110001_10] 29 (0, 0))) ∧ Aside0 (Below w.heap.size w wc))
            case first =>
              have H := HC11.out
              clear HC11
              by_cases c23 : (wrap64 (a2_1 + 1)) = ((rdOf ByteArray.empty l1 (ji5)).size : Int)
              · rw [if_pos c23] at H
                have c23b0 : ((wrap64 (a2_1 + 1)) == ((rdOf ByteArray.empty l1 (ji5)).size : Int)) = true := beq_iff_eq.mpr c23
                have c23b1 : ((wrap64 (a2_1 + 1)) != ((rdOf ByteArray.empty l1 (ji5)).size : Int)) = false := bne_eq_false_iff_eq.mpr c23
                clear c23
                (first | rw [c23b0] | (simp only [i64_w, i32_w]; rw [c23b0]) | skip)
                have H' := Aside0.mk H
                clear H
                have hnb24 := NB103_104.out
                have hnc24 := NB104_103.out
                have hnb25 := NB103_105.out
                have hnc25 := NB105_103.out
                have hnb26 := NB103_109.out
                have hnc26 := NB109_103.out
                have hcz27_0 : w18.cell? ⟨gb103, 0, none⟩ = some (.int .i64 a2_0) := (blk_cell BK103.out 0).trans rfl
                have hcz27_1 : w18.cell? ⟨gb103, 1, none⟩ = some (.int .i64 a2_1) := (blk_cell BK103.out 1).trans rfl
                have hfz27_0 := blk_frozen BK103.out 0
                have hfz27_1 := blk_frozen BK103.out 1
                have hnb28 := NB109_104.out
                have hnc28 := NB104_109.out
                have hnb29 := NB109_105.out
                have hnc29 := NB105_109.out
                have hcz30_0 : w18.cell? ⟨gb109, 0, none⟩ = some (.int .i64 0) := (blk_cell BK109.out 0).trans rfl
                have hcz30_1 : w18.cell? ⟨gb109, 1, none⟩ = some (.int .i64 0) := (blk_cell BK109.out 1).trans rfl
                have hfz30_0 := blk_frozen BK109.out 0
                have hfz30_1 := blk_frozen BK109.out 1
                go_wp2
                go_meet
                case rel => exact ⟨_, (wrap64 (a2_0 + 1)), (0), H', ⟨by first | omega | exact Nat.le_refl _⟩, ⟨by (with_reducible repeat (first | refine blk_drewN ?_ _ | refine blk_drew ?_ | refine blk_alloc ?_ _)); refine blk_far ?_ NB103_109.out _; (with_reducible repeat (first | refine blk_drewN ?_ _ | refine blk_drew ?_ | refine blk_alloc ?_ _)); refine blk_far ?_ NB103_109.out _; (with_reducible repeat (first | refine blk_drewN ?_ _ | refine blk_drew ?_ | refine blk_alloc ?_ _)); refine blk_far ?_ NB103_109.out _; (with_reducible repeat (first | refine blk_drewN ?_ _ | refine blk_drew ?_ | refine blk_alloc ?_ _)); refine blk_far ?_ NB103_109.out _; (with_reducible repeat (first | refine blk_drewN ?_ _ | refine blk_drew ?_ | refine blk_alloc ?_ _)); exact BK103.out⟩, ⟨by (with_reducible repeat (first | refine blk_drewN ?_ _ | refine blk_drew ?_ | refine blk_alloc ?_ _)); refine blk_far ?_ NB104_109.out _; (with_reducible repeat (first | refine blk_drewN ?_ _ | refine blk_drew ?_ | refine blk_alloc ?_ _)); refine blk_far ?_ NB104_109.out _; (with_reducible repeat (first | refine blk_drewN ?_ _ | refine blk_drew ?_ | refine blk_alloc ?_ _)); refine blk_far ?_ NB104_109.out _; (with_reducible repeat (first | refine blk_drewN ?_ _ | refine blk_drew ?_ | refine blk_alloc ?_ _)); refine blk_far ?_ NB104_109.out _; (with_reducible repeat (first | refine blk_drewN ?_ _ | refine blk_drew ?_ | refine blk_alloc ?_ _)); exact BK104.out⟩, ⟨by (with_reducible repeat (first | refine blk_drewN ?_ _ | refine blk_drew ?_ | refine blk_alloc ?_ _)); refine blk_far ?_ NB105_109.out _; (with_reducible repeat (first | refine blk_drewN ?_ _ | refine blk_drew ?_ | refine blk_alloc ?_ _)); refine blk_far ?_ NB105_109.out _; (with_reducible repeat (first | refine blk_drewN ?_ _ | refine blk_drew ?_ | refine blk_alloc ?_ _)); refine blk_far ?_ NB105_109.out _; (with_reducible repeat (first | refine blk_drewN ?_ _ | refine blk_drew ?_ | refine blk_alloc ?_ _)); refine blk_far ?_ NB105_109.out _; (with_reducible repeat (first | refine blk_drewN ?_ _ | refine blk_drew ?_ | refine blk_alloc ?_ _)); exact BK105.out⟩, ⟨by (with_reducible repeat (first | refine blk_drewN ?_ _ | refine blk_drew ?_ | refine blk_alloc ?_ _)); refine blk_put (cs := #[.int .i64 (wrap64 (a2_0 + 1)), .int .i64 (wrap64 (a2_1 + 1))]) ?_ 1 _ rfl; (with_reducible repeat (first | refine blk_drewN ?_ _ | refine blk_drew ?_ | refine blk_alloc ?_ _)); refine blk_put (cs := #[.int .i64 a2_0, .int .i64 (wrap64 (a2_1 + 1))]) ?_ 0 _ rfl; (with_reducible repeat (first | refine blk_drewN ?_ _ | refine blk_drew ?_ | refine blk_alloc ?_ _)); refine blk_put (cs := #[.int .i64 a2_0, .int .i64 0]) ?_ 1 _ rfl; (with_reducible repeat (first | refine blk_drewN ?_ _ | refine blk_drew ?_ | refine blk_alloc ?_ _)); refine blk_put (cs := #[.int .i64 0, .int .i64 0]) ?_ 0 _ rfl; (with_reducible repeat (first | refine blk_drewN ?_ _ | refine blk_drew ?_ | refine blk_alloc ?_ _)); exact BK109.out⟩, ⟨by repeat (first | (with_reducible first | exact HB.out | apply below_alloc | apply pw_below_drewN | apply below_drew1 | refine below_set ?_ GE103.out | refine below_set ?_ GE104.out | refine below_set ?_ GE105.out | refine below_set ?_ GE109.out) | exact HB.out)⟩⟩
              rw [if_neg c23] at H
              have c23b0 : ((wrap64 (a2_1 + 1)) == ((rdOf ByteArray.empty l1 (ji5)).size : Int)) = false := beq_eq_false_iff_ne.mpr c23
              have c23b1 : ((wrap64 (a2_1 + 1)) != ((rdOf ByteArray.empty l1 (ji5)).size : Int)) = true := bne_iff_ne.mpr c23
              (first | rw [c23b0] | (simp only [i64_w, i32_w]; rw [c23b0]) | skip)
              have H' := Aside0.mk H
              clear H
              go_wp2
              go_meet
              case rel => exact ⟨_, (a2_0), (wrap64 (a2_1 + 1)), H', ⟨by first | omega | exact Nat.le_refl _⟩, ⟨by (with_reducible repeat (first | refine blk_drewN ?_ _ | refine blk_drew ?_ | refine blk_alloc ?_ _)); refine blk_far ?_ NB103_109.out _; (with_reducible repeat (first | refine blk_drewN ?_ _ | refine blk_drew ?_ | refine blk_alloc ?_ _)); refine blk_far ?_ NB103_109.out _; (with_reducible repeat (first | refine blk_drewN ?_ _ | refine blk_drew ?_ | refine blk_alloc ?_ _)); exact BK103.out⟩, ⟨by (with_reducible repeat (first | refine blk_drewN ?_ _ | refine blk_drew ?_ | refine blk_alloc ?_ _)); refine blk_far ?_ NB104_109.out _; (with_reducible repeat (first | refine blk_drewN ?_ _ | refine blk_drew ?_ | refine blk_alloc ?_ _)); refine blk_far ?_ NB104_109.out _; (with_reducible repeat (first | refine blk_drewN ?_ _ | refine blk_drew ?_ | refine blk_alloc ?_ _)); exact BK104.out⟩, ⟨by (with_reducible repeat (first | refine blk_drewN ?_ _ | refine blk_drew ?_ | refine blk_alloc ?_ _)); refine blk_far ?_ NB105_109.out _; (with_reducible repeat (first | refine blk_drewN ?_ _ | refine blk_drew ?_ | refine blk_alloc ?_ _)); refine blk_far ?_ NB105_109.out _; (with_reducible repeat (first | refine blk_drewN ?_ _ | refine blk_drew ?_ | refine blk_alloc ?_ _)); exact BK105.out⟩, ⟨by (with_reducible repeat (first | refine blk_drewN ?_ _ | refine blk_drew ?_ | refine blk_alloc ?_ _)); refine blk_put (cs := #[.int .i64 a2_0, .int .i64 0]) ?_ 1 _ rfl; (with_reducible repeat (first | refine blk_drewN ?_ _ | refine blk_drew ?_ | refine blk_alloc ?_ _)); refine blk_put (cs := #[.int .i64 0, .int .i64 0]) ?_ 0 _ rfl; (with_reducible repeat (first | refine blk_drewN ?_ _ | refine blk_drew ?_ | refine blk_alloc ?_ _)); exact BK109.out⟩, ⟨by repeat (first | (with_reducible first | exact HB.out | apply below_alloc | apply pw_below_drewN | apply below_drew1 | refine below_set ?_ GE103.out | refine below_set ?_ GE104.out | refine below_set ?_ GE105.out | refine below_set ?_ GE109.out) | exact HB.out)⟩⟩
            case rest =>
              clear HC11
              try clear c1
              try clear p1
              try clear q1
              try clear hx1
              try clear c2
              try clear p2
              try clear c6
              try clear c6b0
              try clear p6
              try clear c7
              try clear c7b0
              try clear c8
              try clear c8b0
              try clear c8b1
              try clear c9
              try clear c9b0
              try clear c9b1
              try clear c10
              try clear c10b0
              try clear c10b1
              try clear p10
              try clear q10
              try clear hx10
              try clear c15
              try clear c16
              try clear c19
              try clear c20
              try clear c21
              try clear c23
              try clear c23b0
              try clear c23b1
              try clear c24
              try clear c25
              try clear c26
              try clear c28
              try clear c29
              try clear hcz17_0
              try clear hcz17_1
              try clear hcz22_0
              try clear hcz22_1
              try clear hcz27_0
              try clear hcz27_1
              try clear hcz30_0
              try clear hcz30_1
              try clear hfz17_0
              try clear hfz17_1
              try clear hfz22_0
              try clear hfz22_1
              try clear hfz27_0
              try clear hfz27_1
              try clear hfz30_0
              try clear hfz30_1
              try clear hx108_0
              try clear p108
              try clear q108
              obtain ⟨kq, x110000_10, x110001_10, HA, HJ10, BK103, BK104, BK105, BK109, HB⟩ := hcut
              cases kq with
              | zero => exact absurd HA.out (by simp [getopts_option.j0])
              | succ kj10 =>
                have H := HA.out
                clear HA
                simp only [getopts_option.j0] at H
                by_cases c31 : 0 < (((rdOf ByteArray.empty l1 (ji5)).extract (a2_1 : Int).toNat ((wrap64 (a2_1 + 1)) : Int).toNat).size : Int)
                · rw [if_pos c31] at H
                  have c31b0 : decide (0 < (((rdOf ByteArray.empty l1 (ji5)).extract (a2_1 : Int).toNat ((wrap64 (a2_1 + 1)) : Int).toNat).size : Int)) = true := decide_eq_true c31
                  have c31b1 : decide (0 < ((rdOf ByteArray.empty l1 (ji5)).extract (a2_1 : Int).toNat ((wrap64 (a2_1 + 1)) : Int).toNat).size) = true := decide_eq_true (by omega)
                  clear c31
                  replace H := Option.bind_eq_some_iff.mp H
                  obtain ⟨⟨t110, t111⟩, A330, H⟩ := H
                  replace H : (if t110 = true then (getopts_option.j1 kj10 l1 t107 (rdOf ByteArray.empty l1 (ji5)) ((rdOf ByteArray.empty l1 (ji5)).extract (a2_1 : Int).toNat ((wrap64 (a2_1 + 1)) : Int).toNat) t110 t111 false a2_0 a2_1 x110000_10 x110001_10) else (getopts_option.j1 kj10 l1 t107 (rdOf ByteArray.empty l1 (ji5)) ((rdOf ByteArray.empty l1 (ji5)).extract (a2_1 : Int).toNat ((wrap64 (a2_1 + 1)) : Int).toNat) t110 t111 t107 a2_0 a2_1 x110000_10 x110001_10)) = some (r1, r2, r3, r4, r5, r6) := H
                  have A33 := Aside0.mk A330
                  clear A330
                  have HC34 := Aside0.mk H
                  clear H
                  have p32 : 0 ≤ (0 : Int) := (by omega)
                  have q32 : 0 < ((rdOf ByteArray.empty l1 (ji5)).extract (a2_1 : Int).toNat ((wrap64 (a2_1 + 1)) : Int).toNat).size := (by have : (0 : Int) < (((rdOf ByteArray.empty l1 (ji5)).extract (a2_1 : Int).toNat ((wrap64 (a2_1 + 1)) : Int).toNat).size : Int) := of_decide_eq_true (by first | (with_reducible assumption) | assumption); omega)
                  have hx32 : ∀ h : 0 < ((rdOf ByteArray.empty l1 (ji5)).extract (a2_1 : Int).toNat ((wrap64 (a2_1 + 1)) : Int).toNat).size, ((((rdOf ByteArray.empty l1 (ji5)).extract (a2_1 : Int).toNat ((wrap64 (a2_1 + 1)) : Int).toNat)[0]'h).toNat : Int) = bt ((rdOf ByteArray.empty l1 (ji5)).extract (a2_1 : Int).toNat ((wrap64 (a2_1 + 1)) : Int).toNat) 0 := bt_at ((rdOf ByteArray.empty l1 (ji5)).extract (a2_1 : Int).toNat ((wrap64 (a2_1 + 1)) : Int).toNat) 0
                  clear p32
                  have qi32 : (0 < (((rdOf ByteArray.empty l1 (ji5)).extract (a2_1 : Int).toNat ((wrap64 (a2_1 + 1)) : Int).toNat).size : Int)) = True := eq_true (of_decide_eq_true (by first | (with_reducible assumption) | assumption))
                  replace q32 := eq_true q32
                  try (have qs32 := q32; simp only [ByteArray.size_extract, ByteArray.getElem_extract] at qs32)
                  try (have qis32 := qi32; simp only [ByteArray.size_extract, ByteArray.getElem_extract] at qis32)
                  try (have hxs32 := hx32; simp only [ByteArray.size_extract, ByteArray.getElem_extract] at hxs32)
                  go_upto_region 8 with (first | ((with_reducible refine gate_callee (f := 26) rfl ?_); refine goesL_ (some 52) rfl rfl Try.func26 (by kernel_rfl) rfl #[.string t106, .int .u8 (bt ((rdOf ByteArray.empty l1 (ji5)).extract (a2_1 : Int).toNat ((wrap64 (a2_1 + 1)) : Int).toNat) 0)] rfl (by (try simp only [List.map_toArray, List.map_cons, List.map_nil]); first | done | (simp only [hji5]; rfl) | rfl | (simp only [List.length_drop, List.length_take]; rfl)) ?_; (with_reducible refine (getopts_look.calls kj10 t106 (bt ((rdOf ByteArray.empty l1 (ji5)).extract (a2_1 : Int).toNat ((wrap64 (a2_1 + 1)) : Int).toNat) 0) t110 t111 _ A33.out).mono ?_); rintro e w' ⟨rfl, ⟨nd, rfl⟩⟩; refine ⟨_, rfl, ?_⟩))
                  (try simp only [Act.put, List.setIfInBounds_toArray, List.set_cons_zero, List.set_cons_succ])
                  go_cut [55] (fun v55 wc => ∃ (kq : Nat) (x55_33 : Bool), v55 = .bool x55_33 ∧ Aside0 (getopts_option.j1 kq l1 t107 (rdOf ByteArray.empty l1 (ji5)) ((rdOf ByteArray.empty l1 (ji5)).extract (a2_1 : Int).toNat ((wrap64 (a2_1 + 1)) : Int).toNat) t110 t111 x55_33 a2_0 a2_1 x110000_10 x110001_10 = some (r1, r2, r3, r4, r5, r6)) ∧ Aside0 (kq ≤ kj10) ∧ Aside0 (wc.heap[gb103]? = some (.cells #[.int .i64 a2_0, .int .i64 a2_1] 29 (0, 0))) ∧ Aside0 (wc.heap[gb104]? = some (.cells #[.string (⟨#[]⟩ : ByteArray), .string (⟨#[]⟩ : ByteArray), .int .i64 0, .string (⟨#[]⟩ : ByteArray)] 32 (0, 0))) ∧ Aside0 (wc.heap[gb105]? = some (.cells #[.int .i64 0, .int .i64 0] 29 (0, 0))) ∧ Aside0 (wc.heap[gb109]? = some (.cells #[.int .i64 x110000_10, .int .i64 x110001_10] 29 (0, 0))) ∧ Aside0 (Below w.heap.size w wc))
                  case first =>
                    have H := HC34.out
                    clear HC34
                    by_cases c35 : t110 = true
                    · subst c35
                      have H1 : (getopts_option.j1 kj10 l1 t107 (rdOf ByteArray.empty l1 (ji5)) ((rdOf ByteArray.empty l1 (ji5)).extract (a2_1 : Int).toNat ((wrap64 (a2_1 + 1)) : Int).toNat) true t111 false a2_0 a2_1 x110000_10 x110001_10) = some (r1, r2, r3, r4, r5, r6) := by rw [if_pos rfl] at H; exact H
                      clear H
                      have H := H1
                      clear H1
                      have H' := Aside0.mk H
                      clear H
                      go_wp2
                      go_meet
                      case rel => exact ⟨_, (false), (by first | rfl | (simp; done) | (simp [*]; done)), H', ⟨by have := HJ10.out; first | omega | exact Nat.le_refl _⟩, ⟨by (with_reducible repeat (first | refine blk_drewN ?_ _ | refine blk_drew ?_ | refine blk_alloc ?_ _)); exact BK103.out⟩, ⟨by (with_reducible repeat (first | refine blk_drewN ?_ _ | refine blk_drew ?_ | refine blk_alloc ?_ _)); exact BK104.out⟩, ⟨by (with_reducible repeat (first | refine blk_drewN ?_ _ | refine blk_drew ?_ | refine blk_alloc ?_ _)); exact BK105.out⟩, ⟨by (with_reducible repeat (first | refine blk_drewN ?_ _ | refine blk_drew ?_ | refine blk_alloc ?_ _)); exact BK109.out⟩, ⟨by repeat (first | (with_reducible first | exact HB.out | apply below_alloc | apply pw_below_drewN | apply below_drew1 | refine below_set ?_ GE103.out | refine below_set ?_ GE104.out | refine below_set ?_ GE105.out | refine below_set ?_ GE109.out) | exact HB.out)⟩⟩
                    · replace c35 := Bool.eq_false_iff.mpr c35
                      subst c35
                      have H1 : (getopts_option.j1 kj10 l1 t107 (rdOf ByteArray.empty l1 (ji5)) ((rdOf ByteArray.empty l1 (ji5)).extract (a2_1 : Int).toNat ((wrap64 (a2_1 + 1)) : Int).toNat) false t111 t107 a2_0 a2_1 x110000_10 x110001_10) = some (r1, r2, r3, r4, r5, r6) := by rw [if_neg (show ¬ (false = true) by decide)] at H; exact H
                      clear H
                      have H := H1
                      clear H1
                      have H' := Aside0.mk H
                      clear H
                      go_wp2
                      go_meet
                      case rel => exact ⟨_, (t107), (by first | rfl | (simp; done) | (simp [*]; done)), H', ⟨by have := HJ10.out; first | omega | exact Nat.le_refl _⟩, ⟨by (with_reducible repeat (first | refine blk_drewN ?_ _ | refine blk_drew ?_ | refine blk_alloc ?_ _)); exact BK103.out⟩, ⟨by (with_reducible repeat (first | refine blk_drewN ?_ _ | refine blk_drew ?_ | refine blk_alloc ?_ _)); exact BK104.out⟩, ⟨by (with_reducible repeat (first | refine blk_drewN ?_ _ | refine blk_drew ?_ | refine blk_alloc ?_ _)); exact BK105.out⟩, ⟨by (with_reducible repeat (first | refine blk_drewN ?_ _ | refine blk_drew ?_ | refine blk_alloc ?_ _)); exact BK109.out⟩, ⟨by repeat (first | (with_reducible first | exact HB.out | apply below_alloc | apply pw_below_drewN | apply below_drew1 | refine below_set ?_ GE103.out | refine below_set ?_ GE104.out | refine below_set ?_ GE105.out | refine below_set ?_ GE109.out) | exact HB.out)⟩⟩
                  case rest =>
                    clear HC34
                    try clear c1
                    try clear p1
                    try clear q1
                    try clear hx1
                    try clear c2
                    try clear p2
                    try clear c3
                    try clear p3
                    try clear q3
                    try clear hx3
                    try clear qi3
                    try clear c6
                    try clear c6b0
                    try clear p6
                    try clear c7
                    try clear c7b0
                    try clear c8
                    try clear c8b0
                    try clear c8b1
                    try clear c9
                    try clear c9b0
                    try clear c9b1
                    try clear c10
                    try clear c10b0
                    try clear c10b1
                    try clear p10
                    try clear q10
                    try clear hx10
                    try clear c15
                    try clear c16
                    try clear c19
                    try clear c20
                    try clear c21
                    try clear c23
                    try clear c23b0
                    try clear c23b1
                    try clear c24
                    try clear c25
                    try clear c26
                    try clear c28
                    try clear c29
                    try clear c31
                    try clear c31b0
                    try clear c31b1
                    try clear p32
                    try clear q32
                    try clear hx32
                    try clear qi32
                    try clear c35
                    try clear hcz17_0
                    try clear hcz17_1
                    try clear hcz22_0
                    try clear hcz22_1
                    try clear hcz27_0
                    try clear hcz27_1
                    try clear hcz30_0
                    try clear hcz30_1
                    try clear hfz17_0
                    try clear hfz17_1
                    try clear hfz22_0
                    try clear hfz22_1
                    try clear hfz27_0
                    try clear hfz27_1
                    try clear hfz30_0
                    try clear hfz30_1
                    try clear hx108_0
                    try clear p1
                    try clear p10
                    try clear p108
                    try clear p2
                    try clear p32
                    try clear p6
                    try clear q1
                    try clear q10
                    try clear q108
                    try clear q32
                    obtain ⟨kq, x55_33, rfl, HA, HJ33, BK103, BK104, BK105, BK109, HB⟩ := hcut
                    cases kq with
                    | zero => exact absurd HA.out (by simp [getopts_option.j1])
                    | succ kj33 =>
                      have H := HA.out
                      clear HA
                      simp only [getopts_option.j1] at H
                      by_cases c36 : x55_33 = true
                      · subst c36
                        have H1 : (some ((⟨#[63]⟩ : ByteArray), ((rdOf ByteArray.empty l1 (ji5)).extract (a2_1 : Int).toNat ((wrap64 (a2_1 + 1)) : Int).toNat), 2, (⟨#[]⟩ : ByteArray), x110000_10, x110001_10)) = some (r1, r2, r3, r4, r5, r6) := by rw [if_pos rfl] at H; exact H
                        clear H
                        have H := H1
                        clear H1
                        simp only [Option.some.injEq, Prod.mk.injEq] at H
                        obtain ⟨rfl, rfl, rfl, rfl, rfl, rfl⟩ := H
                        try go_wp2
                        have n0_ := Aside0.mk (blk_drew BK103.out)
                        have n1_ := Aside0.mk (blk_drew BK104.out)
                        have n2_ := Aside0.mk (blk_drew BK105.out)
                        have n3_ := Aside0.mk (blk_drew BK109.out)
                        have n4_ := Aside0.mk (below_drew1 HB.out)
                        clear BK103
                        clear BK104
                        clear BK105
                        clear BK109
                        clear HB
                        have BK103 := n0_
                        have BK104 := n1_
                        have BK105 := n2_
                        have BK109 := n3_
                        have HB := n4_
                        clear n0_ n1_ n2_ n3_ n4_
                        refine start_ (n := 5) (S := fun w' => w'.cell? ⟨gb109, 0, none⟩ = some (.int .i64 x110000_10) ∧ w'.cell? ⟨gb109, 1, none⟩ = some (.int .i64 x110001_10)) (ds := []) #[false, false, false, false, false] (by kernel_rfl) rfl rfl ⟨(blk_cell BK109.out 0).trans rfl, (blk_cell BK109.out 1).trans rfl⟩ (fun hHeld => ?_)
                        generalize wc.drew = w37 at BK103 BK104 BK105 BK109 HB hHeld ⊢
                        refine pure_ (i := 0) (N := some 61) (v := ?_) (a' := ?_) #[true, false, false, false, false] rfl rfl (by kernel_rfl) (fun _ _ _ h => h) (Or.inl ⟨by rfl, ?_⟩) ?_ ?_
                        rotate_left
                        · intro w'
                          go_simp
                          with_reducible rfl
                        rotate_left
                        · simp only [Act.put, List.setIfInBounds_toArray, List.set_cons_zero, List.set_cons_succ, i64_w, i32_w]
                          rfl
                        refine pure_ (i := 1) (N := some 62) (v := ?_) (a' := ?_) #[true, true, false, false, false] rfl rfl (by kernel_rfl) (fun _ _ _ h => h) (Or.inl ⟨by rfl, ?_⟩) ?_ ?_
                        rotate_left
                        · intro w'
                          go_simp
                          with_reducible rfl
                        rotate_left
                        · simp only [Act.put, List.setIfInBounds_toArray, List.set_cons_zero, List.set_cons_succ, i64_w, i32_w]
                          rfl
                        refine take_ (i := 2) (N := some 63) (v := ?_) (a' := ?_) #[true, true, true, false, false] rfl rfl (by kernel_rfl) (fun _ _ _ h => h) (Or.inl ⟨by rfl, ?_⟩) hHeld ?_ ?_
                        rotate_left
                        · rintro w' ⟨s0, s1⟩
                          go_simp
                          with_reducible rfl
                        rotate_left
                        · simp only [Act.put, List.setIfInBounds_toArray, List.set_cons_zero, List.set_cons_succ, i64_w, i32_w]
                          rfl
                        refine one_ (i := 3) (N := none) #[true, true, true, true, false] rfl rfl (by kernel_rfl) (by decide) (fun K hK => ?_)
                        have hs38 : w37.cell? ⟨gb104, 0, none⟩ = some (.string (⟨#[]⟩ : ByteArray)) := (blk_cell BK104.out 0).trans rfl
                        have hfs38 := blk_frozen BK104.out 0
                        have hns38_0 := NB103_104.out
                        have hns38_2 := NB105_104.out
                        have hns38_3 := NB109_104.out
                        have hms38_0 := NB104_103.out
                        have hms38_2 := NB104_105.out
                        have hms38_3 := NB104_109.out
                        have hs39 : w37.cell? ⟨gb104, 1, none⟩ = some (.string (⟨#[]⟩ : ByteArray)) := (blk_cell BK104.out 1).trans rfl
                        have hfs39 := blk_frozen BK104.out 1
                        have hns39_0 := NB103_104.out
                        have hns39_2 := NB105_104.out
                        have hns39_3 := NB109_104.out
                        have hms39_0 := NB104_103.out
                        have hms39_2 := NB104_105.out
                        have hms39_3 := NB104_109.out
                        have hs40 : w37.cell? ⟨gb104, 2, none⟩ = some (.int .i64 0) := (blk_cell BK104.out 2).trans rfl
                        have hfs40 := blk_frozen BK104.out 2
                        have hns40_0 := NB103_104.out
                        have hns40_2 := NB105_104.out
                        have hns40_3 := NB109_104.out
                        have hms40_0 := NB104_103.out
                        have hms40_2 := NB104_105.out
                        have hms40_3 := NB104_109.out
                        have hs41 : w37.cell? ⟨gb104, 3, none⟩ = some (.string (⟨#[]⟩ : ByteArray)) := (blk_cell BK104.out 3).trans rfl
                        have hfs41 := blk_frozen BK104.out 3
                        have hns41_0 := NB103_104.out
                        have hns41_2 := NB105_104.out
                        have hns41_3 := NB109_104.out
                        have hms41_0 := NB104_103.out
                        have hms41_2 := NB104_105.out
                        have hms41_3 := NB104_109.out
                        refine skip_ (w1 := ?_) (by rfl) rfl ?_ ?_
                        rotate_left
                        · go_simp
                          rfl
                        refine hK.out _ _ ⟨((cell_far (p := ⟨gb104, _, none⟩) NB109_104.out _).trans (((cell_far (p := ⟨gb104, _, none⟩) NB109_104.out _).trans (((cell_far (p := ⟨gb104, _, none⟩) NB109_104.out _).trans (((cell_far (p := ⟨gb104, _, none⟩) NB109_104.out _).trans (hHeld.1)))))))), ((cell_far (p := ⟨gb104, _, none⟩) NB109_104.out _).trans (((cell_far (p := ⟨gb104, _, none⟩) NB109_104.out _).trans (((cell_far (p := ⟨gb104, _, none⟩) NB109_104.out _).trans (((cell_far (p := ⟨gb104, _, none⟩) NB109_104.out _).trans (hHeld.2))))))))⟩ (fun hHeld => ?_)
                        clear hK K
                        refine one_ (i := 4) (N := none) #[true, true, true, true, true] rfl rfl (by kernel_rfl) (by decide) (fun K hK => ?_)
                        have hs42 : w37.cell? ⟨gb105, 0, none⟩ = some (.int .i64 0) := (blk_cell BK105.out 0).trans rfl
                        have hfs42 := blk_frozen BK105.out 0
                        have hns42_0 := NB103_105.out
                        have hns42_1 := NB104_105.out
                        have hns42_3 := NB109_105.out
                        have hms42_0 := NB105_103.out
                        have hms42_1 := NB105_104.out
                        have hms42_3 := NB105_109.out
                        have hs43 : w37.cell? ⟨gb105, 1, none⟩ = some (.int .i64 0) := (blk_cell BK105.out 1).trans rfl
                        have hfs43 := blk_frozen BK105.out 1
                        have hns43_0 := NB103_105.out
                        have hns43_1 := NB104_105.out
                        have hns43_3 := NB109_105.out
                        have hms43_0 := NB105_103.out
                        have hms43_1 := NB105_104.out
                        have hms43_3 := NB105_109.out
                        refine skip_ (w1 := ?_) (by rfl) rfl ?_ ?_
                        rotate_left
                        · go_simp
                          rfl
                        refine hK.out _ _ ⟨((cell_far (p := ⟨gb105, _, none⟩) NB109_105.out _).trans (((cell_far (p := ⟨gb105, _, none⟩) NB109_105.out _).trans (hHeld.1)))), ((cell_far (p := ⟨gb105, _, none⟩) NB109_105.out _).trans (((cell_far (p := ⟨gb105, _, none⟩) NB109_105.out _).trans (hHeld.2))))⟩ (fun hHeld => ?_)
                        clear hK K
                        refine done_ (by kernel_rfl) ?_
                        try go_wp2
                        refine bodyPost_ret (results_cc rfl _ _ gb104 gb105 32 29 #[.string (⟨#[63]⟩ : ByteArray), .string ((rdOf ByteArray.empty l1 (ji5)).extract (a2_1 : Int).toNat ((wrap64 (a2_1 + 1)) : Int).toNat), .int .i64 2, .string (⟨#[]⟩ : ByteArray)] #[.int .i64 x110000_10, .int .i64 x110001_10] (0, 0) (0, 0) _ _ rfl (by (with_reducible repeat (first | refine blk_drewN ?_ _ | refine blk_drew ?_ | refine blk_alloc ?_ _)); refine blk_far ?_ NB104_105.out _; (with_reducible repeat (first | refine blk_drewN ?_ _ | refine blk_drew ?_ | refine blk_alloc ?_ _)); refine blk_far ?_ NB104_105.out _; (with_reducible repeat (first | refine blk_drewN ?_ _ | refine blk_drew ?_ | refine blk_alloc ?_ _)); refine blk_put (cs := #[.string (⟨#[63]⟩ : ByteArray), .string ((rdOf ByteArray.empty l1 (ji5)).extract (a2_1 : Int).toNat ((wrap64 (a2_1 + 1)) : Int).toNat), .int .i64 2, .string (⟨#[]⟩ : ByteArray)]) ?_ 3 _ rfl; (with_reducible repeat (first | refine blk_drewN ?_ _ | refine blk_drew ?_ | refine blk_alloc ?_ _)); refine blk_put (cs := #[.string (⟨#[63]⟩ : ByteArray), .string ((rdOf ByteArray.empty l1 (ji5)).extract (a2_1 : Int).toNat ((wrap64 (a2_1 + 1)) : Int).toNat), .int .i64 0, .string (⟨#[]⟩ : ByteArray)]) ?_ 2 _ rfl; (with_reducible repeat (first | refine blk_drewN ?_ _ | refine blk_drew ?_ | refine blk_alloc ?_ _)); refine blk_put (cs := #[.string (⟨#[63]⟩ : ByteArray), .string (⟨#[]⟩ : ByteArray), .int .i64 0, .string (⟨#[]⟩ : ByteArray)]) ?_ 1 _ rfl; (with_reducible repeat (first | refine blk_drewN ?_ _ | refine blk_drew ?_ | refine blk_alloc ?_ _)); refine blk_put (cs := #[.string (⟨#[]⟩ : ByteArray), .string (⟨#[]⟩ : ByteArray), .int .i64 0, .string (⟨#[]⟩ : ByteArray)]) ?_ 0 _ rfl; (with_reducible repeat (first | refine blk_drewN ?_ _ | refine blk_drew ?_ | refine blk_alloc ?_ _)); exact BK104.out) Try.underlying32 rfl (by kernel_rfl) rfl (by (with_reducible repeat (first | refine blk_drewN ?_ _ | refine blk_drew ?_ | refine blk_alloc ?_ _)); refine blk_put (cs := #[.int .i64 x110000_10, .int .i64 0]) ?_ 1 _ rfl; (with_reducible repeat (first | refine blk_drewN ?_ _ | refine blk_drew ?_ | refine blk_alloc ?_ _)); refine blk_put (cs := #[.int .i64 0, .int .i64 0]) ?_ 0 _ rfl; (with_reducible repeat (first | refine blk_drewN ?_ _ | refine blk_drew ?_ | refine blk_alloc ?_ _)); refine blk_far ?_ NB105_104.out _; (with_reducible repeat (first | refine blk_drewN ?_ _ | refine blk_drew ?_ | refine blk_alloc ?_ _)); refine blk_far ?_ NB105_104.out _; (with_reducible repeat (first | refine blk_drewN ?_ _ | refine blk_drew ?_ | refine blk_alloc ?_ _)); refine blk_far ?_ NB105_104.out _; (with_reducible repeat (first | refine blk_drewN ?_ _ | refine blk_drew ?_ | refine blk_alloc ?_ _)); refine blk_far ?_ NB105_104.out _; (with_reducible repeat (first | refine blk_drewN ?_ _ | refine blk_drew ?_ | refine blk_alloc ?_ _)); exact BK105.out) Try.underlying29 rfl (by kernel_rfl)) rfl ?_
                        exact ⟨by first | rfl | (simp [errW_none, errW_some] <;> rfl) | (simp only [← hji5]; first | rfl | (simp [errW_none, errW_some] <;> rfl)) | (simp [*, errW_none, errW_some] <;> rfl), by repeat (first | (with_reducible first | exact HB.out | apply below_alloc | apply pw_below_drewN | apply below_drew1 | refine below_set ?_ GE103.out | refine below_set ?_ GE104.out | refine below_set ?_ GE105.out | refine below_set ?_ GE109.out) | exact HB.out)⟩
                      · replace c36 := Bool.eq_false_iff.mpr c36
                        subst c36
                        have H1 : (if t110 = true then (if t111 = true then (if (wrap64 (a2_1 + 1)) < ((rdOf ByteArray.empty l1 (ji5)).size : Int) then (if 0 ≤ (wrap64 (a2_1 + 1)) then (if (wrap64 (a2_1 + 1)) ≤ ((rdOf ByteArray.empty l1 (ji5)).size : Int) then (some (((rdOf ByteArray.empty l1 (ji5)).extract (a2_1 : Int).toNat ((wrap64 (a2_1 + 1)) : Int).toNat), (rdOf ByteArray.empty l1 (ji5)).extract ((wrap64 (a2_1 + 1)) : Int).toNat (rdOf ByteArray.empty l1 (ji5)).size, 0, (⟨#[]⟩ : ByteArray), wrap64 (a2_0 + 1), 0)) else (none)) else (none)) else (if a2_0 < (l1.length : Int) then (if 0 ≤ a2_0 then (some (((rdOf ByteArray.empty l1 (ji5)).extract (a2_1 : Int).toNat ((wrap64 (a2_1 + 1)) : Int).toNat), rdOf ByteArray.empty l1 a2_0, 0, (⟨#[]⟩ : ByteArray), wrap64 (a2_0 + 2), 0)) else (none)) else (if t107 = true then (some ((⟨#[58]⟩ : ByteArray), ((rdOf ByteArray.empty l1 (ji5)).extract (a2_1 : Int).toNat ((wrap64 (a2_1 + 1)) : Int).toNat), 2, (⟨#[]⟩ : ByteArray), x110000_10, x110001_10)) else (if 31 + ((rdOf ByteArray.empty l1 (ji5)).extract (a2_1 : Int).toNat ((wrap64 (a2_1 + 1)) : Int).toNat).size ≤ 9223372036854775807 then (some ((⟨#[63]⟩ : ByteArray), (⟨#[]⟩ : ByteArray), 2, (⟨#[111, 112, 116, 105, 111, 110, 32, 114, 101, 113, 117, 105, 114, 101, 115, 32, 97, 110, 32, 97, 114, 103, 117, 109, 101, 110, 116, 32, 45, 45, 32]⟩ : ByteArray) ++ ((rdOf ByteArray.empty l1 (ji5)).extract (a2_1 : Int).toNat ((wrap64 (a2_1 + 1)) : Int).toNat), x110000_10, x110001_10)) else (none))))) else (some (((rdOf ByteArray.empty l1 (ji5)).extract (a2_1 : Int).toNat ((wrap64 (a2_1 + 1)) : Int).toNat), (⟨#[]⟩ : ByteArray), 0, (⟨#[]⟩ : ByteArray), x110000_10, x110001_10))) else (if 18 + ((rdOf ByteArray.empty l1 (ji5)).extract (a2_1 : Int).toNat ((wrap64 (a2_1 + 1)) : Int).toNat).size ≤ 9223372036854775807 then (some ((⟨#[63]⟩ : ByteArray), (⟨#[]⟩ : ByteArray), 2, (⟨#[105, 108, 108, 101, 103, 97, 108, 32, 111, 112, 116, 105, 111, 110, 32, 45, 45, 32]⟩ : ByteArray) ++ ((rdOf ByteArray.empty l1 (ji5)).extract (a2_1 : Int).toNat ((wrap64 (a2_1 + 1)) : Int).toNat), x110000_10, x110001_10)) else (none))) = some (r1, r2, r3, r4, r5, r6) := by rw [if_neg (show ¬ (false = true) by decide)] at H; exact H
                        clear H
                        have H := H1
                        clear H1
                        by_cases c44 : t110 = true
                        · subst c44
                          have H1 : (if t111 = true then (if (wrap64 (a2_1 + 1)) < ((rdOf ByteArray.empty l1 (ji5)).size : Int) then (if 0 ≤ (wrap64 (a2_1 + 1)) then (if (wrap64 (a2_1 + 1)) ≤ ((rdOf ByteArray.empty l1 (ji5)).size : Int) then (some (((rdOf ByteArray.empty l1 (ji5)).extract (a2_1 : Int).toNat ((wrap64 (a2_1 + 1)) : Int).toNat), (rdOf ByteArray.empty l1 (ji5)).extract ((wrap64 (a2_1 + 1)) : Int).toNat (rdOf ByteArray.empty l1 (ji5)).size, 0, (⟨#[]⟩ : ByteArray), wrap64 (a2_0 + 1), 0)) else (none)) else (none)) else (if a2_0 < (l1.length : Int) then (if 0 ≤ a2_0 then (some (((rdOf ByteArray.empty l1 (ji5)).extract (a2_1 : Int).toNat ((wrap64 (a2_1 + 1)) : Int).toNat), rdOf ByteArray.empty l1 a2_0, 0, (⟨#[]⟩ : ByteArray), wrap64 (a2_0 + 2), 0)) else (none)) else (if t107 = true then (some ((⟨#[58]⟩ : ByteArray), ((rdOf ByteArray.empty l1 (ji5)).extract (a2_1 : Int).toNat ((wrap64 (a2_1 + 1)) : Int).toNat), 2, (⟨#[]⟩ : ByteArray), x110000_10, x110001_10)) else (if 31 + ((rdOf ByteArray.empty l1 (ji5)).extract (a2_1 : Int).toNat ((wrap64 (a2_1 + 1)) : Int).toNat).size ≤ 9223372036854775807 then (some ((⟨#[63]⟩ : ByteArray), (⟨#[]⟩ : ByteArray), 2, (⟨#[111, 112, 116, 105, 111, 110, 32, 114, 101, 113, 117, 105, 114, 101, 115, 32, 97, 110, 32, 97, 114, 103, 117, 109, 101, 110, 116, 32, 45, 45, 32]⟩ : ByteArray) ++ ((rdOf ByteArray.empty l1 (ji5)).extract (a2_1 : Int).toNat ((wrap64 (a2_1 + 1)) : Int).toNat), x110000_10, x110001_10)) else (none))))) else (some (((rdOf ByteArray.empty l1 (ji5)).extract (a2_1 : Int).toNat ((wrap64 (a2_1 + 1)) : Int).toNat), (⟨#[]⟩ : ByteArray), 0, (⟨#[]⟩ : ByteArray), x110000_10, x110001_10))) = some (r1, r2, r3, r4, r5, r6) := by rw [if_pos rfl] at H; exact H
                          clear H
                          have H := H1
                          clear H1
                          by_cases c45 : t111 = true
                          · subst c45
                            have H1 : (if (wrap64 (a2_1 + 1)) < ((rdOf ByteArray.empty l1 (ji5)).size : Int) then (if 0 ≤ (wrap64 (a2_1 + 1)) then (if (wrap64 (a2_1 + 1)) ≤ ((rdOf ByteArray.empty l1 (ji5)).size : Int) then (some (((rdOf ByteArray.empty l1 (ji5)).extract (a2_1 : Int).toNat ((wrap64 (a2_1 + 1)) : Int).toNat), (rdOf ByteArray.empty l1 (ji5)).extract ((wrap64 (a2_1 + 1)) : Int).toNat (rdOf ByteArray.empty l1 (ji5)).size, 0, (⟨#[]⟩ : ByteArray), wrap64 (a2_0 + 1), 0)) else (none)) else (none)) else (if a2_0 < (l1.length : Int) then (if 0 ≤ a2_0 then (some (((rdOf ByteArray.empty l1 (ji5)).extract (a2_1 : Int).toNat ((wrap64 (a2_1 + 1)) : Int).toNat), rdOf ByteArray.empty l1 a2_0, 0, (⟨#[]⟩ : ByteArray), wrap64 (a2_0 + 2), 0)) else (none)) else (if t107 = true then (some ((⟨#[58]⟩ : ByteArray), ((rdOf ByteArray.empty l1 (ji5)).extract (a2_1 : Int).toNat ((wrap64 (a2_1 + 1)) : Int).toNat), 2, (⟨#[]⟩ : ByteArray), x110000_10, x110001_10)) else (if 31 + ((rdOf ByteArray.empty l1 (ji5)).extract (a2_1 : Int).toNat ((wrap64 (a2_1 + 1)) : Int).toNat).size ≤ 9223372036854775807 then (some ((⟨#[63]⟩ : ByteArray), (⟨#[]⟩ : ByteArray), 2, (⟨#[111, 112, 116, 105, 111, 110, 32, 114, 101, 113, 117, 105, 114, 101, 115, 32, 97, 110, 32, 97, 114, 103, 117, 109, 101, 110, 116, 32, 45, 45, 32]⟩ : ByteArray) ++ ((rdOf ByteArray.empty l1 (ji5)).extract (a2_1 : Int).toNat ((wrap64 (a2_1 + 1)) : Int).toNat), x110000_10, x110001_10)) else (none))))) = some (r1, r2, r3, r4, r5, r6) := by rw [if_pos rfl] at H; exact H
                            clear H
                            have H := H1
                            clear H1
                            by_cases c46 : (wrap64 (a2_1 + 1)) < ((rdOf ByteArray.empty l1 (ji5)).size : Int)
                            · rw [if_pos c46] at H
                              have c46b0 : decide ((wrap64 (a2_1 + 1)) < ((rdOf ByteArray.empty l1 (ji5)).size : Int)) = true := decide_eq_true c46
                              clear c46
                              obtain ⟨ji47, hji47⟩ : ∃ j_ : Int, (wrap64 (a2_1 + 1)) = j_ := ⟨_, rfl⟩
                              replace H : (if 0 ≤ (ji47) then (if (ji47) ≤ ((rdOf ByteArray.empty l1 (ji5)).size : Int) then (some (((rdOf ByteArray.empty l1 (ji5)).extract (a2_1 : Int).toNat ((ji47) : Int).toNat), (rdOf ByteArray.empty l1 (ji5)).extract ((ji47) : Int).toNat (rdOf ByteArray.empty l1 (ji5)).size, 0, (⟨#[]⟩ : ByteArray), wrap64 (a2_0 + 1), 0)) else (none)) else (none)) = some (r1, r2, r3, r4, r5, r6) := by first | (rw [hji47] at H; exact H) | (simp only [hji47] at H ⊢; exact H)
                              (try rw [hji47] at c9b0)
                              (try rw [hji47] at c9b1)
                              (try rw [hji47] at c9)
                              (try rw [hji47] at c10b0)
                              (try rw [hji47] at c10b1)
                              (try rw [hji47] at c10)
                              (try rw [hji47] at c31b0)
                              (try rw [hji47] at c31b1)
                              (try rw [hji47] at c46b0)
                              have hji47w : (IntKind.i64.wrap (a2_1 + 1)) = ji47 := (i64_w _).trans hji47
                              by_cases c48 : 0 ≤ (ji47)
                              · rw [if_pos c48] at H
                                have c48b0 := eq_true c48
                                have c48b1 : decide (0 ≤ (ji47)) = true := decide_eq_true c48
                                clear c48
                                by_cases c49 : (ji47) ≤ ((rdOf ByteArray.empty l1 (ji5)).size : Int)
                                · rw [if_pos c49] at H
                                  have c49b0 := eq_true c49
                                  have c49b1 : decide ((ji47) ≤ ((rdOf ByteArray.empty l1 (ji5)).size : Int)) = true := decide_eq_true c49
                                  clear c49
                                  simp only [Option.some.injEq, Prod.mk.injEq] at H
                                  obtain ⟨rfl, rfl, rfl, rfl, rfl, rfl⟩ := H
                                  have hnb50 := NB103_104.out
                                  have hnc50 := NB104_103.out
                                  have hnb51 := NB103_105.out
                                  have hnc51 := NB105_103.out
                                  have hnb52 := NB103_109.out
                                  have hnc52 := NB109_103.out
                                  have hcz53_0 : wc.cell? ⟨gb103, 0, none⟩ = some (.int .i64 a2_0) := (blk_cell BK103.out 0).trans rfl
                                  have hcz53_1 : wc.cell? ⟨gb103, 1, none⟩ = some (.int .i64 a2_1) := (blk_cell BK103.out 1).trans rfl
                                  have hfz53_0 := blk_frozen BK103.out 0
                                  have hfz53_1 := blk_frozen BK103.out 1
                                  try go_wp2
                                  have n0_ := Aside0.mk (blk_drew BK103.out)
                                  have n1_ := Aside0.mk (blk_drew BK104.out)
                                  have n2_ := Aside0.mk (blk_drew BK105.out)
                                  have n3_ := Aside0.mk (blk_drew BK109.out)
                                  have n4_ := Aside0.mk (below_drew1 HB.out)
                                  clear BK103
                                  clear BK104
                                  clear BK105
                                  clear BK109
                                  clear HB
                                  have BK103 := n0_
                                  have BK104 := n1_
                                  have BK105 := n2_
                                  have BK109 := n3_
                                  have HB := n4_
                                  clear n0_ n1_ n2_ n3_ n4_
                                  refine start_ (n := 13) (S := fun w' => w'.cell? ⟨gb103, 0, none⟩ = some (.int .i64 a2_0) ∧ w'.cell? ⟨gb103, 1, none⟩ = some (.int .i64 a2_1)) (ds := []) #[false, false, false, false, false, false, false, false, false, false, false, false, false] (by kernel_rfl) rfl rfl ⟨(blk_cell BK103.out 0).trans rfl, (blk_cell BK103.out 1).trans rfl⟩ (fun hHeld => ?_); refine with_tabW getopts_option.tab15 getopts_option.bits15 (fun HT_ HW_ => ?_)
                                  generalize wc.drew = w54 at BK103 BK104 BK105 BK109 HB hHeld ⊢
                                  refine pure_ (i := 0) (N := some 84) (v := ?_) (a' := ?_) #[true, false, false, false, false, false, false, false, false, false, false, false, false] rfl rfl (any_of HT_.out (by kernel_rfl)) (fun _ _ _ h => h) (Or.inl ⟨by rfl, ?_⟩) ?_ ?_
                                  rotate_left
                                  · intro w'
                                    go_simp
                                    with_reducible rfl
                                  rotate_left
                                  · simp only [Act.put, List.setIfInBounds_toArray, List.set_cons_zero, List.set_cons_succ, i64_w, i32_w]
                                    rfl
                                  refine pure_ (i := 1) (N := some 85) (v := ?_) (a' := ?_) #[true, true, false, false, false, false, false, false, false, false, false, false, false] rfl rfl (any_of HT_.out (by kernel_rfl)) (fun _ _ _ h => h) (Or.inl ⟨by rfl, ?_⟩) ?_ ?_
                                  rotate_left
                                  · intro w'
                                    go_simp
                                    with_reducible rfl
                                  rotate_left
                                  · simp only [Act.put, List.setIfInBounds_toArray, List.set_cons_zero, List.set_cons_succ, i64_w, i32_w]
                                    rfl
                                  refine pure_ (i := 2) (N := some 86) (v := ?_) (a' := ?_) #[true, true, true, false, false, false, false, false, false, false, false, false, false] rfl rfl (any_of HT_.out (by kernel_rfl)) (fun _ _ _ h => h) (Or.inl ⟨by rfl, ?_⟩) ?_ ?_
                                  rotate_left
                                  · intro w'
                                    go_simp
                                    with_reducible rfl
                                  rotate_left
                                  · simp only [Act.put, List.setIfInBounds_toArray, List.set_cons_zero, List.set_cons_succ, i64_w, i32_w]
                                    rfl
                                  refine pure_ (i := 7) (N := some 91) (v := ?_) (a' := ?_) #[true, true, true, false, false, false, false, true, false, false, false, false, false] rfl rfl (any_of HT_.out (by kernel_rfl)) (fun _ _ _ h => h) (Or.inl ⟨by rfl, ?_⟩) ?_ ?_
                                  rotate_left
                                  · intro w'
                                    go_simp
                                    with_reducible rfl
                                  rotate_left
                                  · simp only [Act.put, List.setIfInBounds_toArray, List.set_cons_zero, List.set_cons_succ, i64_w, i32_w]
                                    rfl
                                  refine take_ (i := 3) (N := some 87) (v := ?_) (a' := ?_) #[true, true, true, true, false, false, false, true, false, false, false, false, false] rfl rfl (take_ofW HT_.out HW_.out (by kernel_rfl)) (fun _ _ _ h => h) (Or.inl ⟨by rfl, ?_⟩) hHeld ?_ ?_
                                  rotate_left
                                  · rintro w' ⟨s0, s1⟩
                                    go_simp
                                    with_reducible rfl
                                  rotate_left
                                  · simp only [Act.put, List.setIfInBounds_toArray, List.set_cons_zero, List.set_cons_succ, i64_w, i32_w]
                                    rfl
                                  refine pure_ (i := 4) (N := some 88) (v := ?_) (a' := ?_) #[true, true, true, true, true, false, false, true, false, false, false, false, false] rfl rfl (any_of HT_.out (by kernel_rfl)) (fun _ _ _ h => h) (Or.inl ⟨by rfl, ?_⟩) ?_ ?_
                                  rotate_left
                                  · intro w'
                                    go_simp
                                    with_reducible rfl
                                  rotate_left
                                  · simp only [Act.put, List.setIfInBounds_toArray, List.set_cons_zero, List.set_cons_succ, i64_w, i32_w]
                                    rfl
                                  refine pure_ (i := 5) (N := some 89) (v := ?_) (a' := ?_) #[true, true, true, true, true, true, false, true, false, false, false, false, false] rfl rfl (any_of HT_.out (by kernel_rfl)) (fun _ _ _ h => h) (Or.inl ⟨by rfl, ?_⟩) ?_ ?_
                                  rotate_left
                                  · intro w'
                                    go_simp
                                    with_reducible rfl
                                  rotate_left
                                  · simp only [Act.put, List.setIfInBounds_toArray, List.set_cons_zero, List.set_cons_succ, i64_w, i32_w]
                                    rfl
                                  refine pure_ (i := 6) (N := some 90) (v := ?_) (a' := ?_) #[true, true, true, true, true, true, true, true, false, false, false, false, false] rfl rfl (any_of HT_.out (by kernel_rfl)) (fun _ _ _ h => h) (Or.inl ⟨by rfl, ?_⟩) ?_ ?_
                                  rotate_left
                                  · intro w'
                                    go_simp
                                    with_reducible rfl
                                  rotate_left
                                  · simp only [Act.put, List.setIfInBounds_toArray, List.set_cons_zero, List.set_cons_succ, i64_w, i32_w]
                                    rfl
                                  refine take_ (i := 8) (N := some 92) (v := ?_) (a' := ?_) #[true, true, true, true, true, true, true, true, true, false, false, false, false] rfl rfl (take_ofW HT_.out HW_.out (by kernel_rfl)) (fun _ _ _ h => h) (Or.inl ⟨by rfl, ?_⟩) hHeld ?_ ?_
                                  rotate_left
                                  · rintro w' ⟨s0, s1⟩
                                    go_simp
                                    with_reducible rfl
                                  rotate_left
                                  · simp only [Act.put, List.setIfInBounds_toArray, List.set_cons_zero, List.set_cons_succ, i64_w, i32_w]
                                    rfl
                                  refine pure_ (i := 9) (N := some 93) (v := ?_) (a' := ?_) #[true, true, true, true, true, true, true, true, true, true, false, false, false] rfl rfl (any_of HT_.out (by kernel_rfl)) (fun _ _ _ h => h) (Or.inl ⟨by rfl, ?_⟩) ?_ ?_
                                  rotate_left
                                  · intro w'
                                    go_simp
                                    with_reducible rfl
                                  rotate_left
                                  · simp only [Act.put, List.setIfInBounds_toArray, List.set_cons_zero, List.set_cons_succ, i64_w, i32_w]
                                    rfl
                                  refine pure_ (i := 10) (N := some 94) (v := ?_) (a' := ?_) #[true, true, true, true, true, true, true, true, true, true, true, false, false] rfl rfl (any_of HT_.out (by kernel_rfl)) (fun _ _ _ h => h) (Or.inl ⟨by rfl, ?_⟩) ?_ ?_
                                  rotate_left
                                  · intro w'
                                    go_simp
                                    with_reducible rfl
                                  rotate_left
                                  · simp only [Act.put, List.setIfInBounds_toArray, List.set_cons_zero, List.set_cons_succ, i64_w, i32_w]
                                    rfl
                                  refine one_ (i := 11) (N := none) #[true, true, true, true, true, true, true, true, true, true, true, true, false] rfl rfl (one_of HT_.out (by kernel_rfl)) (by decide) (fun K hK => ?_)
                                  have hs55 : w54.cell? ⟨gb104, 0, none⟩ = some (.string (⟨#[]⟩ : ByteArray)) := (blk_cell BK104.out 0).trans rfl
                                  have hfs55 := blk_frozen BK104.out 0
                                  have hns55_0 := NB103_104.out
                                  have hns55_2 := NB105_104.out
                                  have hns55_3 := NB109_104.out
                                  have hms55_0 := NB104_103.out
                                  have hms55_2 := NB104_105.out
                                  have hms55_3 := NB104_109.out
                                  have hs56 : w54.cell? ⟨gb104, 1, none⟩ = some (.string (⟨#[]⟩ : ByteArray)) := (blk_cell BK104.out 1).trans rfl
                                  have hfs56 := blk_frozen BK104.out 1
                                  have hns56_0 := NB103_104.out
                                  have hns56_2 := NB105_104.out
                                  have hns56_3 := NB109_104.out
                                  have hms56_0 := NB104_103.out
                                  have hms56_2 := NB104_105.out
                                  have hms56_3 := NB104_109.out
                                  have hs57 : w54.cell? ⟨gb104, 2, none⟩ = some (.int .i64 0) := (blk_cell BK104.out 2).trans rfl
                                  have hfs57 := blk_frozen BK104.out 2
                                  have hns57_0 := NB103_104.out
                                  have hns57_2 := NB105_104.out
                                  have hns57_3 := NB109_104.out
                                  have hms57_0 := NB104_103.out
                                  have hms57_2 := NB104_105.out
                                  have hms57_3 := NB104_109.out
                                  have hs58 : w54.cell? ⟨gb104, 3, none⟩ = some (.string (⟨#[]⟩ : ByteArray)) := (blk_cell BK104.out 3).trans rfl
                                  have hfs58 := blk_frozen BK104.out 3
                                  have hns58_0 := NB103_104.out
                                  have hns58_2 := NB105_104.out
                                  have hns58_3 := NB109_104.out
                                  have hms58_0 := NB104_103.out
                                  have hms58_2 := NB104_105.out
                                  have hms58_3 := NB104_109.out
                                  refine skip_ (w1 := ?_) (by rfl) rfl ?_ ?_
                                  rotate_left
                                  · go_simp
                                    rfl
                                  refine hK.out _ _ ⟨((cell_far (p := ⟨gb104, _, none⟩) NB103_104.out _).trans (((cell_far (p := ⟨gb104, _, none⟩) NB103_104.out _).trans (((cell_far (p := ⟨gb104, _, none⟩) NB103_104.out _).trans (((cell_far (p := ⟨gb104, _, none⟩) NB103_104.out _).trans (hHeld.1)))))))), ((cell_far (p := ⟨gb104, _, none⟩) NB103_104.out _).trans (((cell_far (p := ⟨gb104, _, none⟩) NB103_104.out _).trans (((cell_far (p := ⟨gb104, _, none⟩) NB103_104.out _).trans (((cell_far (p := ⟨gb104, _, none⟩) NB103_104.out _).trans (hHeld.2))))))))⟩ (fun hHeld => ?_)
                                  clear hK K
                                  refine one_ (i := 12) (N := none) #[true, true, true, true, true, true, true, true, true, true, true, true, true] rfl rfl (one_of HT_.out (by kernel_rfl)) (by decide) (fun K hK => ?_)
                                  have hs59 : w54.cell? ⟨gb105, 0, none⟩ = some (.int .i64 0) := (blk_cell BK105.out 0).trans rfl
                                  have hfs59 := blk_frozen BK105.out 0
                                  have hns59_0 := NB103_105.out
                                  have hns59_1 := NB104_105.out
                                  have hns59_3 := NB109_105.out
                                  have hms59_0 := NB105_103.out
                                  have hms59_1 := NB105_104.out
                                  have hms59_3 := NB105_109.out
                                  have hs60 : w54.cell? ⟨gb105, 1, none⟩ = some (.int .i64 0) := (blk_cell BK105.out 1).trans rfl
                                  have hfs60 := blk_frozen BK105.out 1
                                  have hns60_0 := NB103_105.out
                                  have hns60_1 := NB104_105.out
                                  have hns60_3 := NB109_105.out
                                  have hms60_0 := NB105_103.out
                                  have hms60_1 := NB105_104.out
                                  have hms60_3 := NB105_109.out
                                  refine skip_ (w1 := ?_) (by rfl) rfl ?_ ?_
                                  rotate_left
                                  · go_simp
                                    rfl
                                  refine hK.out _ _ ⟨((cell_far (p := ⟨gb105, _, none⟩) NB103_105.out _).trans (((cell_far (p := ⟨gb105, _, none⟩) NB103_105.out _).trans (hHeld.1)))), ((cell_far (p := ⟨gb105, _, none⟩) NB103_105.out _).trans (((cell_far (p := ⟨gb105, _, none⟩) NB103_105.out _).trans (hHeld.2))))⟩ (fun hHeld => ?_)
                                  clear hK K
                                  refine done_ (done_of HT_.out (by kernel_rfl)) ?_
                                  try go_wp2
                                  refine bodyPost_ret (results_cc rfl _ _ gb104 gb105 32 29 #[.string ((rdOf ByteArray.empty l1 (ji5)).extract (a2_1 : Int).toNat ((ji47) : Int).toNat), .string ((rdOf ByteArray.empty l1 (ji5)).extract ((ji47) : Int).toNat (rdOf ByteArray.empty l1 (ji5)).size), .int .i64 0, .string (⟨#[]⟩ : ByteArray)] #[.int .i64 (wrap64 (a2_0 + 1)), .int .i64 0] (0, 0) (0, 0) _ _ rfl (by (with_reducible repeat (first | refine blk_drewN ?_ _ | refine blk_drew ?_ | refine blk_alloc ?_ _)); refine blk_far ?_ NB104_105.out _; (with_reducible repeat (first | refine blk_drewN ?_ _ | refine blk_drew ?_ | refine blk_alloc ?_ _)); refine blk_far ?_ NB104_105.out _; (with_reducible repeat (first | refine blk_drewN ?_ _ | refine blk_drew ?_ | refine blk_alloc ?_ _)); refine blk_put (cs := #[.string ((rdOf ByteArray.empty l1 (ji5)).extract (a2_1 : Int).toNat ((ji47) : Int).toNat), .string ((rdOf ByteArray.empty l1 (ji5)).extract ((ji47) : Int).toNat (rdOf ByteArray.empty l1 (ji5)).size), .int .i64 0, .string (⟨#[]⟩ : ByteArray)]) ?_ 3 _ rfl; (with_reducible repeat (first | refine blk_drewN ?_ _ | refine blk_drew ?_ | refine blk_alloc ?_ _)); refine blk_put (cs := #[.string ((rdOf ByteArray.empty l1 (ji5)).extract (a2_1 : Int).toNat ((ji47) : Int).toNat), .string ((rdOf ByteArray.empty l1 (ji5)).extract ((ji47) : Int).toNat (rdOf ByteArray.empty l1 (ji5)).size), .int .i64 0, .string (⟨#[]⟩ : ByteArray)]) ?_ 2 _ rfl; (with_reducible repeat (first | refine blk_drewN ?_ _ | refine blk_drew ?_ | refine blk_alloc ?_ _)); refine blk_put (cs := #[.string ((rdOf ByteArray.empty l1 (ji5)).extract (a2_1 : Int).toNat ((ji47) : Int).toNat), .string (⟨#[]⟩ : ByteArray), .int .i64 0, .string (⟨#[]⟩ : ByteArray)]) ?_ 1 _ rfl; (with_reducible repeat (first | refine blk_drewN ?_ _ | refine blk_drew ?_ | refine blk_alloc ?_ _)); refine blk_put (cs := #[.string (⟨#[]⟩ : ByteArray), .string (⟨#[]⟩ : ByteArray), .int .i64 0, .string (⟨#[]⟩ : ByteArray)]) ?_ 0 _ rfl; (with_reducible repeat (first | refine blk_drewN ?_ _ | refine blk_drew ?_ | refine blk_alloc ?_ _)); exact BK104.out) Try.underlying32 rfl (by kernel_rfl) rfl (by (with_reducible repeat (first | refine blk_drewN ?_ _ | refine blk_drew ?_ | refine blk_alloc ?_ _)); refine blk_put (cs := #[.int .i64 (wrap64 (a2_0 + 1)), .int .i64 0]) ?_ 1 _ rfl; (with_reducible repeat (first | refine blk_drewN ?_ _ | refine blk_drew ?_ | refine blk_alloc ?_ _)); refine blk_put (cs := #[.int .i64 0, .int .i64 0]) ?_ 0 _ rfl; (with_reducible repeat (first | refine blk_drewN ?_ _ | refine blk_drew ?_ | refine blk_alloc ?_ _)); refine blk_far ?_ NB105_104.out _; (with_reducible repeat (first | refine blk_drewN ?_ _ | refine blk_drew ?_ | refine blk_alloc ?_ _)); refine blk_far ?_ NB105_104.out _; (with_reducible repeat (first | refine blk_drewN ?_ _ | refine blk_drew ?_ | refine blk_alloc ?_ _)); refine blk_far ?_ NB105_104.out _; (with_reducible repeat (first | refine blk_drewN ?_ _ | refine blk_drew ?_ | refine blk_alloc ?_ _)); refine blk_far ?_ NB105_104.out _; (with_reducible repeat (first | refine blk_drewN ?_ _ | refine blk_drew ?_ | refine blk_alloc ?_ _)); exact BK105.out) Try.underlying29 rfl (by kernel_rfl)) rfl ?_
                                  exact ⟨by first | rfl | (simp [errW_none, errW_some] <;> rfl) | (simp only [← hji5, ← hji47]; first | rfl | (simp [errW_none, errW_some] <;> rfl)) | (simp [*, errW_none, errW_some] <;> rfl), by repeat (first | (with_reducible first | exact HB.out | apply below_alloc | apply pw_below_drewN | apply below_drew1 | refine below_set ?_ GE103.out | refine below_set ?_ GE104.out | refine below_set ?_ GE105.out | refine below_set ?_ GE109.out) | exact HB.out)⟩
                                rw [if_neg c49] at H
                                exact absurd H (by simp)
                              rw [if_neg c48] at H
                              exact absurd H (by simp)
                            rw [if_neg c46] at H
                            have c46b0 : decide ((wrap64 (a2_1 + 1)) < ((rdOf ByteArray.empty l1 (ji5)).size : Int)) = false := decide_eq_false c46
                            clear c46
                            by_cases c61 : a2_0 < (l1.length : Int)
                            · rw [if_pos c61] at H
                              have c61b0 : decide (a2_0 < (l1.length : Int)) = true := decide_eq_true c61
                              clear c61
                              by_cases c62 : 0 ≤ a2_0
                              · rw [if_pos c62] at H
                                have c62b0 : decide (0 ≤ a2_0) = true := decide_eq_true c62
                                clear c62
                                simp only [Option.some.injEq, Prod.mk.injEq] at H
                                obtain ⟨rfl, rfl, rfl, rfl, rfl, rfl⟩ := H
                                have hnb63 := NB103_104.out
                                have hnc63 := NB104_103.out
                                have hnb64 := NB103_105.out
                                have hnc64 := NB105_103.out
                                have hnb65 := NB103_109.out
                                have hnc65 := NB109_103.out
                                have hcz66_0 : wc.cell? ⟨gb103, 0, none⟩ = some (.int .i64 a2_0) := (blk_cell BK103.out 0).trans rfl
                                have hcz66_1 : wc.cell? ⟨gb103, 1, none⟩ = some (.int .i64 a2_1) := (blk_cell BK103.out 1).trans rfl
                                have hfz66_0 := blk_frozen BK103.out 0
                                have hfz66_1 := blk_frozen BK103.out 1
                                try go_wp2
                                have n0_ := Aside0.mk (blk_drew BK103.out)
                                have n1_ := Aside0.mk (blk_drew BK104.out)
                                have n2_ := Aside0.mk (blk_drew BK105.out)
                                have n3_ := Aside0.mk (blk_drew BK109.out)
                                have n4_ := Aside0.mk (below_drew1 HB.out)
                                clear BK103
                                clear BK104
                                clear BK105
                                clear BK109
                                clear HB
                                have BK103 := n0_
                                have BK104 := n1_
                                have BK105 := n2_
                                have BK109 := n3_
                                have HB := n4_
                                clear n0_ n1_ n2_ n3_ n4_
                                have p112 : 0 ≤ (a2_0 : Int) := of_decide_eq_true (by first | (with_reducible assumption) | assumption)
                                have q112 : a2_0 < (l1.length : Int) := of_decide_eq_true (by first | (with_reducible assumption) | assumption)
                                obtain ⟨ad112, e112, hx112_0⟩ := Kd.at_string HR1.out a2_0 p112 q112
                                have hw112_0 := hx112_0
                                obtain rfl : ad108 = ad112 := (by injection e112)
                                replace hx112_0 := (HB.out.cell (World.block_lt_of_cell? w _ hx112_0)).trans hx112_0
                                replace p112 := eq_true p112
                                replace q112 := eq_true q112
                                refine start_ (n := 13) (S := fun w' => w'.cell? ⟨gb103, 0, none⟩ = some (.int .i64 a2_0) ∧ w'.cell? ⟨gb103, 1, none⟩ = some (.int .i64 a2_1) ∧ w'.cell? (ad108.add (a2_0).toNat) = some (.string (rdOf ByteArray.empty l1 a2_0))) (ds := []) #[false, false, false, false, false, false, false, false, false, false, false, false, false] (by kernel_rfl) rfl rfl ⟨(blk_cell BK103.out 0).trans rfl, (blk_cell BK103.out 1).trans rfl, ((HB.out.cell (World.block_lt_of_cell? w _ hw112_0)).trans hw112_0)⟩ (fun hHeld => ?_); refine with_tabW getopts_option.tab17 getopts_option.bits17 (fun HT_ HW_ => ?_)
                                generalize wc.drew = w67 at BK103 BK104 BK105 BK109 HB hx112_0 hHeld ⊢
                                refine pure_ (i := 0) (N := some 101) (v := ?_) (a' := ?_) #[true, false, false, false, false, false, false, false, false, false, false, false, false] rfl rfl (any_of HT_.out (by kernel_rfl)) (fun _ _ _ h => h) (Or.inl ⟨by rfl, ?_⟩) ?_ ?_
                                rotate_left
                                · intro w'
                                  go_simp
                                  with_reducible rfl
                                rotate_left
                                · simp only [Act.put, List.setIfInBounds_toArray, List.set_cons_zero, List.set_cons_succ, i64_w, i32_w]
                                  rfl
                                refine pure_ (i := 1) (N := some 102) (v := ?_) (a' := ?_) #[true, true, false, false, false, false, false, false, false, false, false, false, false] rfl rfl (any_of HT_.out (by kernel_rfl)) (fun _ _ _ h => h) (Or.inl ⟨by rfl, ?_⟩) ?_ ?_
                                rotate_left
                                · intro w'
                                  go_simp
                                  with_reducible rfl
                                rotate_left
                                · simp only [Act.put, List.setIfInBounds_toArray, List.set_cons_zero, List.set_cons_succ, i64_w, i32_w]
                                  rfl
                                refine pure_ (i := 2) (N := some 103) (v := ?_) (a' := ?_) #[true, true, true, false, false, false, false, false, false, false, false, false, false] rfl rfl (any_of HT_.out (by kernel_rfl)) (fun _ _ _ h => h) (Or.inl ⟨by rfl, ?_⟩) ?_ ?_
                                rotate_left
                                · intro w'
                                  go_simp
                                  with_reducible rfl
                                rotate_left
                                · simp only [Act.put, List.setIfInBounds_toArray, List.set_cons_zero, List.set_cons_succ, i64_w, i32_w]
                                  rfl
                                refine pure_ (i := 7) (N := some 108) (v := ?_) (a' := ?_) #[true, true, true, false, false, false, false, true, false, false, false, false, false] rfl rfl (any_of HT_.out (by kernel_rfl)) (fun _ _ _ h => h) (Or.inl ⟨by rfl, ?_⟩) ?_ ?_
                                rotate_left
                                · intro w'
                                  go_simp
                                  with_reducible rfl
                                rotate_left
                                · simp only [Act.put, List.setIfInBounds_toArray, List.set_cons_zero, List.set_cons_succ, i64_w, i32_w]
                                  rfl
                                refine take_ (i := 3) (N := some 104) (v := ?_) (a' := ?_) #[true, true, true, true, false, false, false, true, false, false, false, false, false] rfl rfl (take_ofW HT_.out HW_.out (by kernel_rfl)) (fun _ _ _ h => h) (Or.inl ⟨by rfl, ?_⟩) hHeld ?_ ?_
                                rotate_left
                                · rintro w' ⟨s0, s1, s2⟩
                                  go_simp
                                  with_reducible rfl
                                rotate_left
                                · simp only [Act.put, List.setIfInBounds_toArray, List.set_cons_zero, List.set_cons_succ, i64_w, i32_w]
                                  rfl
                                refine pure_ (i := 4) (N := some 105) (v := ?_) (a' := ?_) #[true, true, true, true, true, false, false, true, false, false, false, false, false] rfl rfl (any_of HT_.out (by kernel_rfl)) (fun _ _ _ h => h) (Or.inl ⟨by rfl, ?_⟩) ?_ ?_
                                rotate_left
                                · intro w'
                                  go_simp
                                  with_reducible rfl
                                rotate_left
                                · simp only [Act.put, List.setIfInBounds_toArray, List.set_cons_zero, List.set_cons_succ, i64_w, i32_w]
                                  rfl
                                refine take_ (i := 5) (N := some 106) (v := ?_) (a' := ?_) #[true, true, true, true, true, true, false, true, false, false, false, false, false] rfl rfl (take_ofW HT_.out HW_.out (by kernel_rfl)) (fun _ _ _ h => h) (Or.inl ⟨by rfl, ?_⟩) hHeld ?_ ?_
                                rotate_left
                                · rintro w' ⟨s0, s1, s2⟩
                                  go_simp
                                  with_reducible rfl
                                rotate_left
                                · simp only [Act.put, List.setIfInBounds_toArray, List.set_cons_zero, List.set_cons_succ, i64_w, i32_w]
                                  rfl
                                refine pure_ (i := 6) (N := some 107) (v := ?_) (a' := ?_) #[true, true, true, true, true, true, true, true, false, false, false, false, false] rfl rfl (any_of HT_.out (by kernel_rfl)) (fun _ _ _ h => h) (Or.inl ⟨by rfl, ?_⟩) ?_ ?_
                                rotate_left
                                · intro w'
                                  go_simp
                                  with_reducible rfl
                                rotate_left
                                · simp only [Act.put, List.setIfInBounds_toArray, List.set_cons_zero, List.set_cons_succ, i64_w, i32_w]
                                  rfl
                                refine take_ (i := 8) (N := some 109) (v := ?_) (a' := ?_) #[true, true, true, true, true, true, true, true, true, false, false, false, false] rfl rfl (take_ofW HT_.out HW_.out (by kernel_rfl)) (fun _ _ _ h => h) (Or.inl ⟨by rfl, ?_⟩) hHeld ?_ ?_
                                rotate_left
                                · rintro w' ⟨s0, s1, s2⟩
                                  go_simp
                                  with_reducible rfl
                                rotate_left
                                · simp only [Act.put, List.setIfInBounds_toArray, List.set_cons_zero, List.set_cons_succ, i64_w, i32_w]
                                  rfl
                                refine pure_ (i := 9) (N := some 110) (v := ?_) (a' := ?_) #[true, true, true, true, true, true, true, true, true, true, false, false, false] rfl rfl (any_of HT_.out (by kernel_rfl)) (fun _ _ _ h => h) (Or.inl ⟨by rfl, ?_⟩) ?_ ?_
                                rotate_left
                                · intro w'
                                  go_simp
                                  with_reducible rfl
                                rotate_left
                                · simp only [Act.put, List.setIfInBounds_toArray, List.set_cons_zero, List.set_cons_succ, i64_w, i32_w]
                                  rfl
                                refine pure_ (i := 10) (N := some 111) (v := ?_) (a' := ?_) #[true, true, true, true, true, true, true, true, true, true, true, false, false] rfl rfl (any_of HT_.out (by kernel_rfl)) (fun _ _ _ h => h) (Or.inl ⟨by rfl, ?_⟩) ?_ ?_
                                rotate_left
                                · intro w'
                                  go_simp
                                  with_reducible rfl
                                rotate_left
                                · simp only [Act.put, List.setIfInBounds_toArray, List.set_cons_zero, List.set_cons_succ, i64_w, i32_w]
                                  rfl
                                refine one_ (i := 11) (N := none) #[true, true, true, true, true, true, true, true, true, true, true, true, false] rfl rfl (one_of HT_.out (by kernel_rfl)) (by decide) (fun K hK => ?_)
                                have hs68 : w67.cell? ⟨gb104, 0, none⟩ = some (.string (⟨#[]⟩ : ByteArray)) := (blk_cell BK104.out 0).trans rfl
                                have hfs68 := blk_frozen BK104.out 0
                                have hns68_0 := NB103_104.out
                                have hns68_2 := NB105_104.out
                                have hns68_3 := NB109_104.out
                                have hms68_0 := NB104_103.out
                                have hms68_2 := NB104_105.out
                                have hms68_3 := NB104_109.out
                                have hs69 : w67.cell? ⟨gb104, 1, none⟩ = some (.string (⟨#[]⟩ : ByteArray)) := (blk_cell BK104.out 1).trans rfl
                                have hfs69 := blk_frozen BK104.out 1
                                have hns69_0 := NB103_104.out
                                have hns69_2 := NB105_104.out
                                have hns69_3 := NB109_104.out
                                have hms69_0 := NB104_103.out
                                have hms69_2 := NB104_105.out
                                have hms69_3 := NB104_109.out
                                have hs70 : w67.cell? ⟨gb104, 2, none⟩ = some (.int .i64 0) := (blk_cell BK104.out 2).trans rfl
                                have hfs70 := blk_frozen BK104.out 2
                                have hns70_0 := NB103_104.out
                                have hns70_2 := NB105_104.out
                                have hns70_3 := NB109_104.out
                                have hms70_0 := NB104_103.out
                                have hms70_2 := NB104_105.out
                                have hms70_3 := NB104_109.out
                                have hs71 : w67.cell? ⟨gb104, 3, none⟩ = some (.string (⟨#[]⟩ : ByteArray)) := (blk_cell BK104.out 3).trans rfl
                                have hfs71 := blk_frozen BK104.out 3
                                have hns71_0 := NB103_104.out
                                have hns71_2 := NB105_104.out
                                have hns71_3 := NB109_104.out
                                have hms71_0 := NB104_103.out
                                have hms71_2 := NB104_105.out
                                have hms71_3 := NB104_109.out
                                refine skip_ (w1 := ?_) (by rfl) rfl ?_ ?_
                                rotate_left
                                · go_simp
                                  rfl
                                refine hK.out _ _ ⟨((cell_far (p := ⟨gb104, _, none⟩) NB103_104.out _).trans (((cell_far (p := ⟨gb104, _, none⟩) NB103_104.out _).trans (((cell_far (p := ⟨gb104, _, none⟩) NB103_104.out _).trans (((cell_far (p := ⟨gb104, _, none⟩) NB103_104.out _).trans (hHeld.1)))))))), ((cell_far (p := ⟨gb104, _, none⟩) NB103_104.out _).trans (((cell_far (p := ⟨gb104, _, none⟩) NB103_104.out _).trans (((cell_far (p := ⟨gb104, _, none⟩) NB103_104.out _).trans (((cell_far (p := ⟨gb104, _, none⟩) NB103_104.out _).trans (hHeld.2.1)))))))), ((cell_far (p := ⟨gb104, _, none⟩) (by first | exact Nat.ne_of_lt (Nat.lt_of_lt_of_le (by have := World.block_lt_of_cell? _ _ hw112_0; first | rwa [add_block] at this | exact this) GW104.out) | (rw [add_block]; exact Nat.ne_of_lt (Nat.lt_of_lt_of_le (by have := World.block_lt_of_cell? _ _ hw112_0; first | rwa [add_block] at this | exact this) GW104.out)) | (show (Addr.add _ _).block ≠ _; rw [add_block]; exact Nat.ne_of_lt (Nat.lt_of_lt_of_le (by have := World.block_lt_of_cell? _ _ hw112_0; first | rwa [add_block] at this | exact this) GW104.out)) | (dsimp only; exact Nat.ne_of_lt (Nat.lt_of_lt_of_le (by have := World.block_lt_of_cell? _ _ hw112_0; first | rwa [add_block] at this | exact this) GW104.out))) _).trans (((cell_far (p := ⟨gb104, _, none⟩) (by first | exact Nat.ne_of_lt (Nat.lt_of_lt_of_le (by have := World.block_lt_of_cell? _ _ hw112_0; first | rwa [add_block] at this | exact this) GW104.out) | (rw [add_block]; exact Nat.ne_of_lt (Nat.lt_of_lt_of_le (by have := World.block_lt_of_cell? _ _ hw112_0; first | rwa [add_block] at this | exact this) GW104.out)) | (show (Addr.add _ _).block ≠ _; rw [add_block]; exact Nat.ne_of_lt (Nat.lt_of_lt_of_le (by have := World.block_lt_of_cell? _ _ hw112_0; first | rwa [add_block] at this | exact this) GW104.out)) | (dsimp only; exact Nat.ne_of_lt (Nat.lt_of_lt_of_le (by have := World.block_lt_of_cell? _ _ hw112_0; first | rwa [add_block] at this | exact this) GW104.out))) _).trans (((cell_far (p := ⟨gb104, _, none⟩) (by first | exact Nat.ne_of_lt (Nat.lt_of_lt_of_le (by have := World.block_lt_of_cell? _ _ hw112_0; first | rwa [add_block] at this | exact this) GW104.out) | (rw [add_block]; exact Nat.ne_of_lt (Nat.lt_of_lt_of_le (by have := World.block_lt_of_cell? _ _ hw112_0; first | rwa [add_block] at this | exact this) GW104.out)) | (show (Addr.add _ _).block ≠ _; rw [add_block]; exact Nat.ne_of_lt (Nat.lt_of_lt_of_le (by have := World.block_lt_of_cell? _ _ hw112_0; first | rwa [add_block] at this | exact this) GW104.out)) | (dsimp only; exact Nat.ne_of_lt (Nat.lt_of_lt_of_le (by have := World.block_lt_of_cell? _ _ hw112_0; first | rwa [add_block] at this | exact this) GW104.out))) _).trans (((cell_far (p := ⟨gb104, _, none⟩) (by first | exact Nat.ne_of_lt (Nat.lt_of_lt_of_le (by have := World.block_lt_of_cell? _ _ hw112_0; first | rwa [add_block] at this | exact this) GW104.out) | (rw [add_block]; exact Nat.ne_of_lt (Nat.lt_of_lt_of_le (by have := World.block_lt_of_cell? _ _ hw112_0; first | rwa [add_block] at this | exact this) GW104.out)) | (show (Addr.add _ _).block ≠ _; rw [add_block]; exact Nat.ne_of_lt (Nat.lt_of_lt_of_le (by have := World.block_lt_of_cell? _ _ hw112_0; first | rwa [add_block] at this | exact this) GW104.out)) | (dsimp only; exact Nat.ne_of_lt (Nat.lt_of_lt_of_le (by have := World.block_lt_of_cell? _ _ hw112_0; first | rwa [add_block] at this | exact this) GW104.out))) _).trans (hHeld.2.2))))))))⟩ (fun hHeld => ?_)
                                clear hK K
                                refine one_ (i := 12) (N := none) #[true, true, true, true, true, true, true, true, true, true, true, true, true] rfl rfl (one_of HT_.out (by kernel_rfl)) (by decide) (fun K hK => ?_)
                                have hs72 : w67.cell? ⟨gb105, 0, none⟩ = some (.int .i64 0) := (blk_cell BK105.out 0).trans rfl
                                have hfs72 := blk_frozen BK105.out 0
                                have hns72_0 := NB103_105.out
                                have hns72_1 := NB104_105.out
                                have hns72_3 := NB109_105.out
                                have hms72_0 := NB105_103.out
                                have hms72_1 := NB105_104.out
                                have hms72_3 := NB105_109.out
                                have hs73 : w67.cell? ⟨gb105, 1, none⟩ = some (.int .i64 0) := (blk_cell BK105.out 1).trans rfl
                                have hfs73 := blk_frozen BK105.out 1
                                have hns73_0 := NB103_105.out
                                have hns73_1 := NB104_105.out
                                have hns73_3 := NB109_105.out
                                have hms73_0 := NB105_103.out
                                have hms73_1 := NB105_104.out
                                have hms73_3 := NB105_109.out
                                refine skip_ (w1 := ?_) (by rfl) rfl ?_ ?_
                                rotate_left
                                · go_simp
                                  rfl
                                refine hK.out _ _ ⟨((cell_far (p := ⟨gb105, _, none⟩) NB103_105.out _).trans (((cell_far (p := ⟨gb105, _, none⟩) NB103_105.out _).trans (hHeld.1)))), ((cell_far (p := ⟨gb105, _, none⟩) NB103_105.out _).trans (((cell_far (p := ⟨gb105, _, none⟩) NB103_105.out _).trans (hHeld.2.1)))), ((cell_far (p := ⟨gb105, _, none⟩) (by first | exact Nat.ne_of_lt (Nat.lt_of_lt_of_le (by have := World.block_lt_of_cell? _ _ hw112_0; first | rwa [add_block] at this | exact this) GW105.out) | (rw [add_block]; exact Nat.ne_of_lt (Nat.lt_of_lt_of_le (by have := World.block_lt_of_cell? _ _ hw112_0; first | rwa [add_block] at this | exact this) GW105.out)) | (show (Addr.add _ _).block ≠ _; rw [add_block]; exact Nat.ne_of_lt (Nat.lt_of_lt_of_le (by have := World.block_lt_of_cell? _ _ hw112_0; first | rwa [add_block] at this | exact this) GW105.out)) | (dsimp only; exact Nat.ne_of_lt (Nat.lt_of_lt_of_le (by have := World.block_lt_of_cell? _ _ hw112_0; first | rwa [add_block] at this | exact this) GW105.out))) _).trans (((cell_far (p := ⟨gb105, _, none⟩) (by first | exact Nat.ne_of_lt (Nat.lt_of_lt_of_le (by have := World.block_lt_of_cell? _ _ hw112_0; first | rwa [add_block] at this | exact this) GW105.out) | (rw [add_block]; exact Nat.ne_of_lt (Nat.lt_of_lt_of_le (by have := World.block_lt_of_cell? _ _ hw112_0; first | rwa [add_block] at this | exact this) GW105.out)) | (show (Addr.add _ _).block ≠ _; rw [add_block]; exact Nat.ne_of_lt (Nat.lt_of_lt_of_le (by have := World.block_lt_of_cell? _ _ hw112_0; first | rwa [add_block] at this | exact this) GW105.out)) | (dsimp only; exact Nat.ne_of_lt (Nat.lt_of_lt_of_le (by have := World.block_lt_of_cell? _ _ hw112_0; first | rwa [add_block] at this | exact this) GW105.out))) _).trans (hHeld.2.2))))⟩ (fun hHeld => ?_)
                                clear hK K
                                refine done_ (done_of HT_.out (by kernel_rfl)) ?_
                                try go_wp2
                                refine bodyPost_ret (results_cc rfl _ _ gb104 gb105 32 29 #[.string ((rdOf ByteArray.empty l1 (ji5)).extract (a2_1 : Int).toNat ((wrap64 (a2_1 + 1)) : Int).toNat), .string (rdOf ByteArray.empty l1 a2_0), .int .i64 0, .string (⟨#[]⟩ : ByteArray)] #[.int .i64 (wrap64 (a2_0 + 2)), .int .i64 0] (0, 0) (0, 0) _ _ rfl (by (with_reducible repeat (first | refine blk_drewN ?_ _ | refine blk_drew ?_ | refine blk_alloc ?_ _)); refine blk_far ?_ NB104_105.out _; (with_reducible repeat (first | refine blk_drewN ?_ _ | refine blk_drew ?_ | refine blk_alloc ?_ _)); refine blk_far ?_ NB104_105.out _; (with_reducible repeat (first | refine blk_drewN ?_ _ | refine blk_drew ?_ | refine blk_alloc ?_ _)); refine blk_put (cs := #[.string ((rdOf ByteArray.empty l1 (ji5)).extract (a2_1 : Int).toNat ((wrap64 (a2_1 + 1)) : Int).toNat), .string (rdOf ByteArray.empty l1 a2_0), .int .i64 0, .string (⟨#[]⟩ : ByteArray)]) ?_ 3 _ rfl; (with_reducible repeat (first | refine blk_drewN ?_ _ | refine blk_drew ?_ | refine blk_alloc ?_ _)); refine blk_put (cs := #[.string ((rdOf ByteArray.empty l1 (ji5)).extract (a2_1 : Int).toNat ((wrap64 (a2_1 + 1)) : Int).toNat), .string (rdOf ByteArray.empty l1 a2_0), .int .i64 0, .string (⟨#[]⟩ : ByteArray)]) ?_ 2 _ rfl; (with_reducible repeat (first | refine blk_drewN ?_ _ | refine blk_drew ?_ | refine blk_alloc ?_ _)); refine blk_put (cs := #[.string ((rdOf ByteArray.empty l1 (ji5)).extract (a2_1 : Int).toNat ((wrap64 (a2_1 + 1)) : Int).toNat), .string (⟨#[]⟩ : ByteArray), .int .i64 0, .string (⟨#[]⟩ : ByteArray)]) ?_ 1 _ rfl; (with_reducible repeat (first | refine blk_drewN ?_ _ | refine blk_drew ?_ | refine blk_alloc ?_ _)); refine blk_put (cs := #[.string (⟨#[]⟩ : ByteArray), .string (⟨#[]⟩ : ByteArray), .int .i64 0, .string (⟨#[]⟩ : ByteArray)]) ?_ 0 _ rfl; (with_reducible repeat (first | refine blk_drewN ?_ _ | refine blk_drew ?_ | refine blk_alloc ?_ _)); exact BK104.out) Try.underlying32 rfl (by kernel_rfl) rfl (by (with_reducible repeat (first | refine blk_drewN ?_ _ | refine blk_drew ?_ | refine blk_alloc ?_ _)); refine blk_put (cs := #[.int .i64 (wrap64 (a2_0 + 2)), .int .i64 0]) ?_ 1 _ rfl; (with_reducible repeat (first | refine blk_drewN ?_ _ | refine blk_drew ?_ | refine blk_alloc ?_ _)); refine blk_put (cs := #[.int .i64 0, .int .i64 0]) ?_ 0 _ rfl; (with_reducible repeat (first | refine blk_drewN ?_ _ | refine blk_drew ?_ | refine blk_alloc ?_ _)); refine blk_far ?_ NB105_104.out _; (with_reducible repeat (first | refine blk_drewN ?_ _ | refine blk_drew ?_ | refine blk_alloc ?_ _)); refine blk_far ?_ NB105_104.out _; (with_reducible repeat (first | refine blk_drewN ?_ _ | refine blk_drew ?_ | refine blk_alloc ?_ _)); refine blk_far ?_ NB105_104.out _; (with_reducible repeat (first | refine blk_drewN ?_ _ | refine blk_drew ?_ | refine blk_alloc ?_ _)); refine blk_far ?_ NB105_104.out _; (with_reducible repeat (first | refine blk_drewN ?_ _ | refine blk_drew ?_ | refine blk_alloc ?_ _)); exact BK105.out) Try.underlying29 rfl (by kernel_rfl)) rfl ?_
                                exact ⟨by first | rfl | (simp [errW_none, errW_some] <;> rfl) | (simp only [← hji5]; first | rfl | (simp [errW_none, errW_some] <;> rfl)) | (simp [*, errW_none, errW_some] <;> rfl), by repeat (first | (with_reducible first | exact HB.out | apply below_alloc | apply pw_below_drewN | apply below_drew1 | refine below_set ?_ GE103.out | refine below_set ?_ GE104.out | refine below_set ?_ GE105.out | refine below_set ?_ GE109.out) | exact HB.out)⟩
                              rw [if_neg c62] at H
                              exact absurd H (by simp)
                            rw [if_neg c61] at H
                            have c61b0 : decide (a2_0 < (l1.length : Int)) = false := decide_eq_false c61
                            clear c61
                            by_cases c74 : t107 = true
                            · subst c74
                              have H1 : (some ((⟨#[58]⟩ : ByteArray), ((rdOf ByteArray.empty l1 (ji5)).extract (a2_1 : Int).toNat ((wrap64 (a2_1 + 1)) : Int).toNat), 2, (⟨#[]⟩ : ByteArray), x110000_10, x110001_10)) = some (r1, r2, r3, r4, r5, r6) := by rw [if_pos rfl] at H; exact H
                              clear H
                              have H := H1
                              clear H1
                              simp only [Option.some.injEq, Prod.mk.injEq] at H
                              obtain ⟨rfl, rfl, rfl, rfl, rfl, rfl⟩ := H
                              have hnb75 := NB103_104.out
                              have hnc75 := NB104_103.out
                              have hnb76 := NB103_105.out
                              have hnc76 := NB105_103.out
                              have hnb77 := NB103_109.out
                              have hnc77 := NB109_103.out
                              have hcz78_0 : wc.cell? ⟨gb103, 0, none⟩ = some (.int .i64 a2_0) := (blk_cell BK103.out 0).trans rfl
                              have hcz78_1 : wc.cell? ⟨gb103, 1, none⟩ = some (.int .i64 a2_1) := (blk_cell BK103.out 1).trans rfl
                              have hfz78_0 := blk_frozen BK103.out 0
                              have hfz78_1 := blk_frozen BK103.out 1
                              try go_wp2
                              have n0_ := Aside0.mk (blk_drew BK103.out)
                              have n1_ := Aside0.mk (blk_drew BK104.out)
                              have n2_ := Aside0.mk (blk_drew BK105.out)
                              have n3_ := Aside0.mk (blk_drew BK109.out)
                              have n4_ := Aside0.mk (below_drew1 HB.out)
                              clear BK103
                              clear BK104
                              clear BK105
                              clear BK109
                              clear HB
                              have BK103 := n0_
                              have BK104 := n1_
                              have BK105 := n2_
                              have BK109 := n3_
                              have HB := n4_
                              clear n0_ n1_ n2_ n3_ n4_
                              refine start_ (n := 5) (S := fun w' => w'.cell? ⟨gb109, 0, none⟩ = some (.int .i64 x110000_10) ∧ w'.cell? ⟨gb109, 1, none⟩ = some (.int .i64 x110001_10)) (ds := []) #[false, false, false, false, false] (by kernel_rfl) rfl rfl ⟨(blk_cell BK109.out 0).trans rfl, (blk_cell BK109.out 1).trans rfl⟩ (fun hHeld => ?_)
                              generalize wc.drew = w79 at BK103 BK104 BK105 BK109 HB hHeld ⊢
                              refine pure_ (i := 0) (N := some 114) (v := ?_) (a' := ?_) #[true, false, false, false, false] rfl rfl (by kernel_rfl) (fun _ _ _ h => h) (Or.inl ⟨by rfl, ?_⟩) ?_ ?_
                              rotate_left
                              · intro w'
                                go_simp
                                with_reducible rfl
                              rotate_left
                              · simp only [Act.put, List.setIfInBounds_toArray, List.set_cons_zero, List.set_cons_succ, i64_w, i32_w]
                                rfl
                              refine pure_ (i := 1) (N := some 115) (v := ?_) (a' := ?_) #[true, true, false, false, false] rfl rfl (by kernel_rfl) (fun _ _ _ h => h) (Or.inl ⟨by rfl, ?_⟩) ?_ ?_
                              rotate_left
                              · intro w'
                                go_simp
                                with_reducible rfl
                              rotate_left
                              · simp only [Act.put, List.setIfInBounds_toArray, List.set_cons_zero, List.set_cons_succ, i64_w, i32_w]
                                rfl
                              refine take_ (i := 2) (N := some 116) (v := ?_) (a' := ?_) #[true, true, true, false, false] rfl rfl (by kernel_rfl) (fun _ _ _ h => h) (Or.inl ⟨by rfl, ?_⟩) hHeld ?_ ?_
                              rotate_left
                              · rintro w' ⟨s0, s1⟩
                                go_simp
                                with_reducible rfl
                              rotate_left
                              · simp only [Act.put, List.setIfInBounds_toArray, List.set_cons_zero, List.set_cons_succ, i64_w, i32_w]
                                rfl
                              refine one_ (i := 3) (N := none) #[true, true, true, true, false] rfl rfl (by kernel_rfl) (by decide) (fun K hK => ?_)
                              have hs80 : w79.cell? ⟨gb104, 0, none⟩ = some (.string (⟨#[]⟩ : ByteArray)) := (blk_cell BK104.out 0).trans rfl
                              have hfs80 := blk_frozen BK104.out 0
                              have hns80_0 := NB103_104.out
                              have hns80_2 := NB105_104.out
                              have hns80_3 := NB109_104.out
                              have hms80_0 := NB104_103.out
                              have hms80_2 := NB104_105.out
                              have hms80_3 := NB104_109.out
                              have hs81 : w79.cell? ⟨gb104, 1, none⟩ = some (.string (⟨#[]⟩ : ByteArray)) := (blk_cell BK104.out 1).trans rfl
                              have hfs81 := blk_frozen BK104.out 1
                              have hns81_0 := NB103_104.out
                              have hns81_2 := NB105_104.out
                              have hns81_3 := NB109_104.out
                              have hms81_0 := NB104_103.out
                              have hms81_2 := NB104_105.out
                              have hms81_3 := NB104_109.out
                              have hs82 : w79.cell? ⟨gb104, 2, none⟩ = some (.int .i64 0) := (blk_cell BK104.out 2).trans rfl
                              have hfs82 := blk_frozen BK104.out 2
                              have hns82_0 := NB103_104.out
                              have hns82_2 := NB105_104.out
                              have hns82_3 := NB109_104.out
                              have hms82_0 := NB104_103.out
                              have hms82_2 := NB104_105.out
                              have hms82_3 := NB104_109.out
                              have hs83 : w79.cell? ⟨gb104, 3, none⟩ = some (.string (⟨#[]⟩ : ByteArray)) := (blk_cell BK104.out 3).trans rfl
                              have hfs83 := blk_frozen BK104.out 3
                              have hns83_0 := NB103_104.out
                              have hns83_2 := NB105_104.out
                              have hns83_3 := NB109_104.out
                              have hms83_0 := NB104_103.out
                              have hms83_2 := NB104_105.out
                              have hms83_3 := NB104_109.out
                              refine skip_ (w1 := ?_) (by rfl) rfl ?_ ?_
                              rotate_left
                              · go_simp
                                rfl
                              refine hK.out _ _ ⟨((cell_far (p := ⟨gb104, _, none⟩) NB109_104.out _).trans (((cell_far (p := ⟨gb104, _, none⟩) NB109_104.out _).trans (((cell_far (p := ⟨gb104, _, none⟩) NB109_104.out _).trans (((cell_far (p := ⟨gb104, _, none⟩) NB109_104.out _).trans (hHeld.1)))))))), ((cell_far (p := ⟨gb104, _, none⟩) NB109_104.out _).trans (((cell_far (p := ⟨gb104, _, none⟩) NB109_104.out _).trans (((cell_far (p := ⟨gb104, _, none⟩) NB109_104.out _).trans (((cell_far (p := ⟨gb104, _, none⟩) NB109_104.out _).trans (hHeld.2))))))))⟩ (fun hHeld => ?_)
                              clear hK K
                              refine one_ (i := 4) (N := none) #[true, true, true, true, true] rfl rfl (by kernel_rfl) (by decide) (fun K hK => ?_)
                              have hs84 : w79.cell? ⟨gb105, 0, none⟩ = some (.int .i64 0) := (blk_cell BK105.out 0).trans rfl
                              have hfs84 := blk_frozen BK105.out 0
                              have hns84_0 := NB103_105.out
                              have hns84_1 := NB104_105.out
                              have hns84_3 := NB109_105.out
                              have hms84_0 := NB105_103.out
                              have hms84_1 := NB105_104.out
                              have hms84_3 := NB105_109.out
                              have hs85 : w79.cell? ⟨gb105, 1, none⟩ = some (.int .i64 0) := (blk_cell BK105.out 1).trans rfl
                              have hfs85 := blk_frozen BK105.out 1
                              have hns85_0 := NB103_105.out
                              have hns85_1 := NB104_105.out
                              have hns85_3 := NB109_105.out
                              have hms85_0 := NB105_103.out
                              have hms85_1 := NB105_104.out
                              have hms85_3 := NB105_109.out
                              refine skip_ (w1 := ?_) (by rfl) rfl ?_ ?_
                              rotate_left
                              · go_simp
                                rfl
                              refine hK.out _ _ ⟨((cell_far (p := ⟨gb105, _, none⟩) NB109_105.out _).trans (((cell_far (p := ⟨gb105, _, none⟩) NB109_105.out _).trans (hHeld.1)))), ((cell_far (p := ⟨gb105, _, none⟩) NB109_105.out _).trans (((cell_far (p := ⟨gb105, _, none⟩) NB109_105.out _).trans (hHeld.2))))⟩ (fun hHeld => ?_)
                              clear hK K
                              refine done_ (by kernel_rfl) ?_
                              try go_wp2
                              refine bodyPost_ret (results_cc rfl _ _ gb104 gb105 32 29 #[.string (⟨#[58]⟩ : ByteArray), .string ((rdOf ByteArray.empty l1 (ji5)).extract (a2_1 : Int).toNat ((wrap64 (a2_1 + 1)) : Int).toNat), .int .i64 2, .string (⟨#[]⟩ : ByteArray)] #[.int .i64 x110000_10, .int .i64 x110001_10] (0, 0) (0, 0) _ _ rfl (by (with_reducible repeat (first | refine blk_drewN ?_ _ | refine blk_drew ?_ | refine blk_alloc ?_ _)); refine blk_far ?_ NB104_105.out _; (with_reducible repeat (first | refine blk_drewN ?_ _ | refine blk_drew ?_ | refine blk_alloc ?_ _)); refine blk_far ?_ NB104_105.out _; (with_reducible repeat (first | refine blk_drewN ?_ _ | refine blk_drew ?_ | refine blk_alloc ?_ _)); refine blk_put (cs := #[.string (⟨#[58]⟩ : ByteArray), .string ((rdOf ByteArray.empty l1 (ji5)).extract (a2_1 : Int).toNat ((wrap64 (a2_1 + 1)) : Int).toNat), .int .i64 2, .string (⟨#[]⟩ : ByteArray)]) ?_ 3 _ rfl; (with_reducible repeat (first | refine blk_drewN ?_ _ | refine blk_drew ?_ | refine blk_alloc ?_ _)); refine blk_put (cs := #[.string (⟨#[58]⟩ : ByteArray), .string ((rdOf ByteArray.empty l1 (ji5)).extract (a2_1 : Int).toNat ((wrap64 (a2_1 + 1)) : Int).toNat), .int .i64 0, .string (⟨#[]⟩ : ByteArray)]) ?_ 2 _ rfl; (with_reducible repeat (first | refine blk_drewN ?_ _ | refine blk_drew ?_ | refine blk_alloc ?_ _)); refine blk_put (cs := #[.string (⟨#[58]⟩ : ByteArray), .string (⟨#[]⟩ : ByteArray), .int .i64 0, .string (⟨#[]⟩ : ByteArray)]) ?_ 1 _ rfl; (with_reducible repeat (first | refine blk_drewN ?_ _ | refine blk_drew ?_ | refine blk_alloc ?_ _)); refine blk_put (cs := #[.string (⟨#[]⟩ : ByteArray), .string (⟨#[]⟩ : ByteArray), .int .i64 0, .string (⟨#[]⟩ : ByteArray)]) ?_ 0 _ rfl; (with_reducible repeat (first | refine blk_drewN ?_ _ | refine blk_drew ?_ | refine blk_alloc ?_ _)); exact BK104.out) Try.underlying32 rfl (by kernel_rfl) rfl (by (with_reducible repeat (first | refine blk_drewN ?_ _ | refine blk_drew ?_ | refine blk_alloc ?_ _)); refine blk_put (cs := #[.int .i64 x110000_10, .int .i64 0]) ?_ 1 _ rfl; (with_reducible repeat (first | refine blk_drewN ?_ _ | refine blk_drew ?_ | refine blk_alloc ?_ _)); refine blk_put (cs := #[.int .i64 0, .int .i64 0]) ?_ 0 _ rfl; (with_reducible repeat (first | refine blk_drewN ?_ _ | refine blk_drew ?_ | refine blk_alloc ?_ _)); refine blk_far ?_ NB105_104.out _; (with_reducible repeat (first | refine blk_drewN ?_ _ | refine blk_drew ?_ | refine blk_alloc ?_ _)); refine blk_far ?_ NB105_104.out _; (with_reducible repeat (first | refine blk_drewN ?_ _ | refine blk_drew ?_ | refine blk_alloc ?_ _)); refine blk_far ?_ NB105_104.out _; (with_reducible repeat (first | refine blk_drewN ?_ _ | refine blk_drew ?_ | refine blk_alloc ?_ _)); refine blk_far ?_ NB105_104.out _; (with_reducible repeat (first | refine blk_drewN ?_ _ | refine blk_drew ?_ | refine blk_alloc ?_ _)); exact BK105.out) Try.underlying29 rfl (by kernel_rfl)) rfl ?_
                              exact ⟨by first | rfl | (simp [errW_none, errW_some] <;> rfl) | (simp only [← hji5]; first | rfl | (simp [errW_none, errW_some] <;> rfl)) | (simp [*, errW_none, errW_some] <;> rfl), by repeat (first | (with_reducible first | exact HB.out | apply below_alloc | apply pw_below_drewN | apply below_drew1 | refine below_set ?_ GE103.out | refine below_set ?_ GE104.out | refine below_set ?_ GE105.out | refine below_set ?_ GE109.out) | exact HB.out)⟩
                            · replace c74 := Bool.eq_false_iff.mpr c74
                              subst c74
                              have H1 : (if 31 + ((rdOf ByteArray.empty l1 (ji5)).extract (a2_1 : Int).toNat ((wrap64 (a2_1 + 1)) : Int).toNat).size ≤ 9223372036854775807 then (some ((⟨#[63]⟩ : ByteArray), (⟨#[]⟩ : ByteArray), 2, (⟨#[111, 112, 116, 105, 111, 110, 32, 114, 101, 113, 117, 105, 114, 101, 115, 32, 97, 110, 32, 97, 114, 103, 117, 109, 101, 110, 116, 32, 45, 45, 32]⟩ : ByteArray) ++ ((rdOf ByteArray.empty l1 (ji5)).extract (a2_1 : Int).toNat ((wrap64 (a2_1 + 1)) : Int).toNat), x110000_10, x110001_10)) else (none)) = some (r1, r2, r3, r4, r5, r6) := by rw [if_neg (show ¬ (false = true) by decide)] at H; exact H
                              clear H
                              have H := H1
                              clear H1
                              by_cases c86 : 31 + ((rdOf ByteArray.empty l1 (ji5)).extract (a2_1 : Int).toNat ((wrap64 (a2_1 + 1)) : Int).toNat).size ≤ 9223372036854775807
                              · rw [if_pos c86] at H
                                have c86b0 := eq_true c86
                                have c86b1 : decide (31 + ((rdOf ByteArray.empty l1 (ji5)).extract (a2_1 : Int).toNat ((wrap64 (a2_1 + 1)) : Int).toNat).size ≤ 9223372036854775807) = true := decide_eq_true c86
                                try have c86b2 : (9223372036854775807 < 31 + ((rdOf ByteArray.empty l1 (ji5)).extract (a2_1 : Int).toNat ((wrap64 (a2_1 + 1)) : Int).toNat).size) = False := eq_false (Nat.not_lt.2 c86)
                                try (have c86b3 := c86b2; simp only [ByteArray.size_extract] at c86b3)
                                simp only [Option.some.injEq, Prod.mk.injEq] at H
                                obtain ⟨rfl, rfl, rfl, rfl, rfl, rfl⟩ := H
                                have hnb87 := NB103_104.out
                                have hnc87 := NB104_103.out
                                have hnb88 := NB103_105.out
                                have hnc88 := NB105_103.out
                                have hnb89 := NB103_109.out
                                have hnc89 := NB109_103.out
                                have hcz90_0 : wc.cell? ⟨gb103, 0, none⟩ = some (.int .i64 a2_0) := (blk_cell BK103.out 0).trans rfl
                                have hcz90_1 : wc.cell? ⟨gb103, 1, none⟩ = some (.int .i64 a2_1) := (blk_cell BK103.out 1).trans rfl
                                have hfz90_0 := blk_frozen BK103.out 0
                                have hfz90_1 := blk_frozen BK103.out 1
                                try go_wp2
                                have n0_ := Aside0.mk (blk_drew BK103.out)
                                have n1_ := Aside0.mk (blk_drew BK104.out)
                                have n2_ := Aside0.mk (blk_drew BK105.out)
                                have n3_ := Aside0.mk (blk_drew BK109.out)
                                have n4_ := Aside0.mk (below_drew1 HB.out)
                                clear BK103
                                clear BK104
                                clear BK105
                                clear BK109
                                clear HB
                                have BK103 := n0_
                                have BK104 := n1_
                                have BK105 := n2_
                                have BK109 := n3_
                                have HB := n4_
                                clear n0_ n1_ n2_ n3_ n4_
                                refine start_ (n := 6) (S := fun w' => w'.cell? ⟨gb109, 0, none⟩ = some (.int .i64 x110000_10) ∧ w'.cell? ⟨gb109, 1, none⟩ = some (.int .i64 x110001_10)) (ds := []) #[false, false, false, false, false, false] (by kernel_rfl) rfl rfl ⟨(blk_cell BK109.out 0).trans rfl, (blk_cell BK109.out 1).trans rfl⟩ (fun hHeld => ?_)
                                generalize wc.drew = w91 at BK103 BK104 BK105 BK109 HB hHeld ⊢
                                refine pure_ (i := 0) (N := some 117) (v := ?_) (a' := ?_) #[true, false, false, false, false, false] rfl rfl (by kernel_rfl) (fun _ _ _ h => h) (Or.inl ⟨by rfl, ?_⟩) ?_ ?_
                                rotate_left
                                · intro w'
                                  go_simp
                                  with_reducible rfl
                                rotate_left
                                · simp only [Act.put, List.setIfInBounds_toArray, List.set_cons_zero, List.set_cons_succ, i64_w, i32_w]
                                  rfl
                                refine pure_ (i := 1) (N := some 118) (v := ?_) (a' := ?_) #[true, true, false, false, false, false] rfl rfl (by kernel_rfl) (fun _ _ _ h => h) (Or.inl ⟨by rfl, ?_⟩) ?_ ?_
                                rotate_left
                                · intro w'
                                  go_simp
                                  with_reducible rfl
                                rotate_left
                                · simp only [Act.put, List.setIfInBounds_toArray, List.set_cons_zero, List.set_cons_succ, i64_w, i32_w]
                                  rfl
                                refine pure_ (i := 2) (N := some 119) (v := ?_) (a' := ?_) #[true, true, true, false, false, false] rfl rfl (by kernel_rfl) (fun _ _ _ h => h) (Or.inl ⟨by rfl, ?_⟩) ?_ ?_
                                rotate_left
                                · intro w'
                                  go_simp
                                  with_reducible rfl
                                rotate_left
                                · simp only [Act.put, List.setIfInBounds_toArray, List.set_cons_zero, List.set_cons_succ, i64_w, i32_w]
                                  rfl
                                refine take_ (i := 3) (N := some 120) (v := ?_) (a' := ?_) #[true, true, true, true, false, false] rfl rfl (by kernel_rfl) (fun _ _ _ h => h) (Or.inl ⟨by rfl, ?_⟩) hHeld ?_ ?_
                                rotate_left
                                · rintro w' ⟨s0, s1⟩
                                  go_simp
                                  with_reducible rfl
                                rotate_left
                                · simp only [Act.put, List.setIfInBounds_toArray, List.set_cons_zero, List.set_cons_succ, i64_w, i32_w]
                                  rfl
                                refine one_ (i := 4) (N := none) #[true, true, true, true, true, false] rfl rfl (by kernel_rfl) (by decide) (fun K hK => ?_)
                                have hs92 : w91.cell? ⟨gb104, 0, none⟩ = some (.string (⟨#[]⟩ : ByteArray)) := (blk_cell BK104.out 0).trans rfl
                                have hfs92 := blk_frozen BK104.out 0
                                have hns92_0 := NB103_104.out
                                have hns92_2 := NB105_104.out
                                have hns92_3 := NB109_104.out
                                have hms92_0 := NB104_103.out
                                have hms92_2 := NB104_105.out
                                have hms92_3 := NB104_109.out
                                have hs93 : w91.cell? ⟨gb104, 1, none⟩ = some (.string (⟨#[]⟩ : ByteArray)) := (blk_cell BK104.out 1).trans rfl
                                have hfs93 := blk_frozen BK104.out 1
                                have hns93_0 := NB103_104.out
                                have hns93_2 := NB105_104.out
                                have hns93_3 := NB109_104.out
                                have hms93_0 := NB104_103.out
                                have hms93_2 := NB104_105.out
                                have hms93_3 := NB104_109.out
                                have hs94 : w91.cell? ⟨gb104, 2, none⟩ = some (.int .i64 0) := (blk_cell BK104.out 2).trans rfl
                                have hfs94 := blk_frozen BK104.out 2
                                have hns94_0 := NB103_104.out
                                have hns94_2 := NB105_104.out
                                have hns94_3 := NB109_104.out
                                have hms94_0 := NB104_103.out
                                have hms94_2 := NB104_105.out
                                have hms94_3 := NB104_109.out
                                have hs95 : w91.cell? ⟨gb104, 3, none⟩ = some (.string (⟨#[]⟩ : ByteArray)) := (blk_cell BK104.out 3).trans rfl
                                have hfs95 := blk_frozen BK104.out 3
                                have hns95_0 := NB103_104.out
                                have hns95_2 := NB105_104.out
                                have hns95_3 := NB109_104.out
                                have hms95_0 := NB104_103.out
                                have hms95_2 := NB104_105.out
                                have hms95_3 := NB104_109.out
                                refine skip_ (w1 := ?_) (by rfl) rfl ?_ ?_
                                rotate_left
                                · go_simp
                                  rfl
                                refine hK.out _ _ ⟨((cell_far (p := ⟨gb104, _, none⟩) NB109_104.out _).trans (((cell_far (p := ⟨gb104, _, none⟩) NB109_104.out _).trans (((cell_far (p := ⟨gb104, _, none⟩) NB109_104.out _).trans (((cell_far (p := ⟨gb104, _, none⟩) NB109_104.out _).trans (hHeld.1)))))))), ((cell_far (p := ⟨gb104, _, none⟩) NB109_104.out _).trans (((cell_far (p := ⟨gb104, _, none⟩) NB109_104.out _).trans (((cell_far (p := ⟨gb104, _, none⟩) NB109_104.out _).trans (((cell_far (p := ⟨gb104, _, none⟩) NB109_104.out _).trans (hHeld.2))))))))⟩ (fun hHeld => ?_)
                                clear hK K
                                refine one_ (i := 5) (N := none) #[true, true, true, true, true, true] rfl rfl (by kernel_rfl) (by decide) (fun K hK => ?_)
                                have hs96 : w91.cell? ⟨gb105, 0, none⟩ = some (.int .i64 0) := (blk_cell BK105.out 0).trans rfl
                                have hfs96 := blk_frozen BK105.out 0
                                have hns96_0 := NB103_105.out
                                have hns96_1 := NB104_105.out
                                have hns96_3 := NB109_105.out
                                have hms96_0 := NB105_103.out
                                have hms96_1 := NB105_104.out
                                have hms96_3 := NB105_109.out
                                have hs97 : w91.cell? ⟨gb105, 1, none⟩ = some (.int .i64 0) := (blk_cell BK105.out 1).trans rfl
                                have hfs97 := blk_frozen BK105.out 1
                                have hns97_0 := NB103_105.out
                                have hns97_1 := NB104_105.out
                                have hns97_3 := NB109_105.out
                                have hms97_0 := NB105_103.out
                                have hms97_1 := NB105_104.out
                                have hms97_3 := NB105_109.out
                                refine skip_ (w1 := ?_) (by rfl) rfl ?_ ?_
                                rotate_left
                                · go_simp
                                  rfl
                                refine hK.out _ _ ⟨((cell_far (p := ⟨gb105, _, none⟩) NB109_105.out _).trans (((cell_far (p := ⟨gb105, _, none⟩) NB109_105.out _).trans (hHeld.1)))), ((cell_far (p := ⟨gb105, _, none⟩) NB109_105.out _).trans (((cell_far (p := ⟨gb105, _, none⟩) NB109_105.out _).trans (hHeld.2))))⟩ (fun hHeld => ?_)
                                clear hK K
                                refine done_ (by kernel_rfl) ?_
                                try go_wp2
                                refine bodyPost_ret (results_cc rfl _ _ gb104 gb105 32 29 #[.string (⟨#[63]⟩ : ByteArray), .string (⟨#[]⟩ : ByteArray), .int .i64 2, .string ((⟨#[111, 112, 116, 105, 111, 110, 32, 114, 101, 113, 117, 105, 114, 101, 115, 32, 97, 110, 32, 97, 114, 103, 117, 109, 101, 110, 116, 32, 45, 45, 32]⟩ : ByteArray) ++ ((rdOf ByteArray.empty l1 (ji5)).extract (a2_1 : Int).toNat ((wrap64 (a2_1 + 1)) : Int).toNat))] #[.int .i64 x110000_10, .int .i64 x110001_10] (0, 0) (0, 0) _ _ rfl (by (with_reducible repeat (first | refine blk_drewN ?_ _ | refine blk_drew ?_ | refine blk_alloc ?_ _)); refine blk_far ?_ NB104_105.out _; (with_reducible repeat (first | refine blk_drewN ?_ _ | refine blk_drew ?_ | refine blk_alloc ?_ _)); refine blk_far ?_ NB104_105.out _; (with_reducible repeat (first | refine blk_drewN ?_ _ | refine blk_drew ?_ | refine blk_alloc ?_ _)); refine blk_put (cs := #[.string (⟨#[63]⟩ : ByteArray), .string (⟨#[]⟩ : ByteArray), .int .i64 2, .string (⟨#[]⟩ : ByteArray)]) ?_ 3 _ rfl; (with_reducible repeat (first | refine blk_drewN ?_ _ | refine blk_drew ?_ | refine blk_alloc ?_ _)); refine blk_put (cs := #[.string (⟨#[63]⟩ : ByteArray), .string (⟨#[]⟩ : ByteArray), .int .i64 0, .string (⟨#[]⟩ : ByteArray)]) ?_ 2 _ rfl; (with_reducible repeat (first | refine blk_drewN ?_ _ | refine blk_drew ?_ | refine blk_alloc ?_ _)); refine blk_put (cs := #[.string (⟨#[63]⟩ : ByteArray), .string (⟨#[]⟩ : ByteArray), .int .i64 0, .string (⟨#[]⟩ : ByteArray)]) ?_ 1 _ rfl; (with_reducible repeat (first | refine blk_drewN ?_ _ | refine blk_drew ?_ | refine blk_alloc ?_ _)); refine blk_put (cs := #[.string (⟨#[]⟩ : ByteArray), .string (⟨#[]⟩ : ByteArray), .int .i64 0, .string (⟨#[]⟩ : ByteArray)]) ?_ 0 _ rfl; (with_reducible repeat (first | refine blk_drewN ?_ _ | refine blk_drew ?_ | refine blk_alloc ?_ _)); exact BK104.out) Try.underlying32 rfl (by kernel_rfl) rfl (by (with_reducible repeat (first | refine blk_drewN ?_ _ | refine blk_drew ?_ | refine blk_alloc ?_ _)); refine blk_put (cs := #[.int .i64 x110000_10, .int .i64 0]) ?_ 1 _ rfl; (with_reducible repeat (first | refine blk_drewN ?_ _ | refine blk_drew ?_ | refine blk_alloc ?_ _)); refine blk_put (cs := #[.int .i64 0, .int .i64 0]) ?_ 0 _ rfl; (with_reducible repeat (first | refine blk_drewN ?_ _ | refine blk_drew ?_ | refine blk_alloc ?_ _)); refine blk_far ?_ NB105_104.out _; (with_reducible repeat (first | refine blk_drewN ?_ _ | refine blk_drew ?_ | refine blk_alloc ?_ _)); refine blk_far ?_ NB105_104.out _; (with_reducible repeat (first | refine blk_drewN ?_ _ | refine blk_drew ?_ | refine blk_alloc ?_ _)); refine blk_far ?_ NB105_104.out _; (with_reducible repeat (first | refine blk_drewN ?_ _ | refine blk_drew ?_ | refine blk_alloc ?_ _)); refine blk_far ?_ NB105_104.out _; (with_reducible repeat (first | refine blk_drewN ?_ _ | refine blk_drew ?_ | refine blk_alloc ?_ _)); exact BK105.out) Try.underlying29 rfl (by kernel_rfl)) rfl ?_
                                exact ⟨by first | rfl | (simp [errW_none, errW_some] <;> rfl) | (simp only [← hji5]; first | rfl | (simp [errW_none, errW_some] <;> rfl)) | (simp [*, errW_none, errW_some] <;> rfl), by repeat (first | (with_reducible first | exact HB.out | apply below_alloc | apply pw_below_drewN | apply below_drew1 | refine below_set ?_ GE103.out | refine below_set ?_ GE104.out | refine below_set ?_ GE105.out | refine below_set ?_ GE109.out) | exact HB.out)⟩
                              rw [if_neg c86] at H
                              exact absurd H (by simp)
                          · replace c45 := Bool.eq_false_iff.mpr c45
                            subst c45
                            have H1 : (some (((rdOf ByteArray.empty l1 (ji5)).extract (a2_1 : Int).toNat ((wrap64 (a2_1 + 1)) : Int).toNat), (⟨#[]⟩ : ByteArray), 0, (⟨#[]⟩ : ByteArray), x110000_10, x110001_10)) = some (r1, r2, r3, r4, r5, r6) := by rw [if_neg (show ¬ (false = true) by decide)] at H; exact H
                            clear H
                            have H := H1
                            clear H1
                            simp only [Option.some.injEq, Prod.mk.injEq] at H
                            obtain ⟨rfl, rfl, rfl, rfl, rfl, rfl⟩ := H
                            try go_wp2
                            have n0_ := Aside0.mk (blk_drew BK103.out)
                            have n1_ := Aside0.mk (blk_drew BK104.out)
                            have n2_ := Aside0.mk (blk_drew BK105.out)
                            have n3_ := Aside0.mk (blk_drew BK109.out)
                            have n4_ := Aside0.mk (below_drew1 HB.out)
                            clear BK103
                            clear BK104
                            clear BK105
                            clear BK109
                            clear HB
                            have BK103 := n0_
                            have BK104 := n1_
                            have BK105 := n2_
                            have BK109 := n3_
                            have HB := n4_
                            clear n0_ n1_ n2_ n3_ n4_
                            refine start_ (n := 5) (S := fun w' => w'.cell? ⟨gb109, 0, none⟩ = some (.int .i64 x110000_10) ∧ w'.cell? ⟨gb109, 1, none⟩ = some (.int .i64 x110001_10)) (ds := []) #[false, false, false, false, false] (by kernel_rfl) rfl rfl ⟨(blk_cell BK109.out 0).trans rfl, (blk_cell BK109.out 1).trans rfl⟩ (fun hHeld => ?_)
                            generalize wc.drew = w98 at BK103 BK104 BK105 BK109 HB hHeld ⊢
                            refine pure_ (i := 0) (N := some 74) (v := ?_) (a' := ?_) #[true, false, false, false, false] rfl rfl (by kernel_rfl) (fun _ _ _ h => h) (Or.inl ⟨by rfl, ?_⟩) ?_ ?_
                            rotate_left
                            · intro w'
                              go_simp
                              with_reducible rfl
                            rotate_left
                            · simp only [Act.put, List.setIfInBounds_toArray, List.set_cons_zero, List.set_cons_succ, i64_w, i32_w]
                              rfl
                            refine pure_ (i := 1) (N := some 75) (v := ?_) (a' := ?_) #[true, true, false, false, false] rfl rfl (by kernel_rfl) (fun _ _ _ h => h) (Or.inl ⟨by rfl, ?_⟩) ?_ ?_
                            rotate_left
                            · intro w'
                              go_simp
                              with_reducible rfl
                            rotate_left
                            · simp only [Act.put, List.setIfInBounds_toArray, List.set_cons_zero, List.set_cons_succ, i64_w, i32_w]
                              rfl
                            refine take_ (i := 2) (N := some 76) (v := ?_) (a' := ?_) #[true, true, true, false, false] rfl rfl (by kernel_rfl) (fun _ _ _ h => h) (Or.inl ⟨by rfl, ?_⟩) hHeld ?_ ?_
                            rotate_left
                            · rintro w' ⟨s0, s1⟩
                              go_simp
                              with_reducible rfl
                            rotate_left
                            · simp only [Act.put, List.setIfInBounds_toArray, List.set_cons_zero, List.set_cons_succ, i64_w, i32_w]
                              rfl
                            refine one_ (i := 3) (N := none) #[true, true, true, true, false] rfl rfl (by kernel_rfl) (by decide) (fun K hK => ?_)
                            have hs99 : w98.cell? ⟨gb104, 0, none⟩ = some (.string (⟨#[]⟩ : ByteArray)) := (blk_cell BK104.out 0).trans rfl
                            have hfs99 := blk_frozen BK104.out 0
                            have hns99_0 := NB103_104.out
                            have hns99_2 := NB105_104.out
                            have hns99_3 := NB109_104.out
                            have hms99_0 := NB104_103.out
                            have hms99_2 := NB104_105.out
                            have hms99_3 := NB104_109.out
                            have hs100 : w98.cell? ⟨gb104, 1, none⟩ = some (.string (⟨#[]⟩ : ByteArray)) := (blk_cell BK104.out 1).trans rfl
                            have hfs100 := blk_frozen BK104.out 1
                            have hns100_0 := NB103_104.out
                            have hns100_2 := NB105_104.out
                            have hns100_3 := NB109_104.out
                            have hms100_0 := NB104_103.out
                            have hms100_2 := NB104_105.out
                            have hms100_3 := NB104_109.out
                            have hs101 : w98.cell? ⟨gb104, 2, none⟩ = some (.int .i64 0) := (blk_cell BK104.out 2).trans rfl
                            have hfs101 := blk_frozen BK104.out 2
                            have hns101_0 := NB103_104.out
                            have hns101_2 := NB105_104.out
                            have hns101_3 := NB109_104.out
                            have hms101_0 := NB104_103.out
                            have hms101_2 := NB104_105.out
                            have hms101_3 := NB104_109.out
                            have hs102 : w98.cell? ⟨gb104, 3, none⟩ = some (.string (⟨#[]⟩ : ByteArray)) := (blk_cell BK104.out 3).trans rfl
                            have hfs102 := blk_frozen BK104.out 3
                            have hns102_0 := NB103_104.out
                            have hns102_2 := NB105_104.out
                            have hns102_3 := NB109_104.out
                            have hms102_0 := NB104_103.out
                            have hms102_2 := NB104_105.out
                            have hms102_3 := NB104_109.out
                            refine skip_ (w1 := ?_) (by rfl) rfl ?_ ?_
                            rotate_left
                            · go_simp
                              rfl
                            refine hK.out _ _ ⟨((cell_far (p := ⟨gb104, _, none⟩) NB109_104.out _).trans (((cell_far (p := ⟨gb104, _, none⟩) NB109_104.out _).trans (((cell_far (p := ⟨gb104, _, none⟩) NB109_104.out _).trans (((cell_far (p := ⟨gb104, _, none⟩) NB109_104.out _).trans (hHeld.1)))))))), ((cell_far (p := ⟨gb104, _, none⟩) NB109_104.out _).trans (((cell_far (p := ⟨gb104, _, none⟩) NB109_104.out _).trans (((cell_far (p := ⟨gb104, _, none⟩) NB109_104.out _).trans (((cell_far (p := ⟨gb104, _, none⟩) NB109_104.out _).trans (hHeld.2))))))))⟩ (fun hHeld => ?_)
                            clear hK K
                            refine one_ (i := 4) (N := none) #[true, true, true, true, true] rfl rfl (by kernel_rfl) (by decide) (fun K hK => ?_)
                            have hs103 : w98.cell? ⟨gb105, 0, none⟩ = some (.int .i64 0) := (blk_cell BK105.out 0).trans rfl
                            have hfs103 := blk_frozen BK105.out 0
                            have hns103_0 := NB103_105.out
                            have hns103_1 := NB104_105.out
                            have hns103_3 := NB109_105.out
                            have hms103_0 := NB105_103.out
                            have hms103_1 := NB105_104.out
                            have hms103_3 := NB105_109.out
                            have hs104 : w98.cell? ⟨gb105, 1, none⟩ = some (.int .i64 0) := (blk_cell BK105.out 1).trans rfl
                            have hfs104 := blk_frozen BK105.out 1
                            have hns104_0 := NB103_105.out
                            have hns104_1 := NB104_105.out
                            have hns104_3 := NB109_105.out
                            have hms104_0 := NB105_103.out
                            have hms104_1 := NB105_104.out
                            have hms104_3 := NB105_109.out
                            refine skip_ (w1 := ?_) (by rfl) rfl ?_ ?_
                            rotate_left
                            · go_simp
                              rfl
                            refine hK.out _ _ ⟨((cell_far (p := ⟨gb105, _, none⟩) NB109_105.out _).trans (((cell_far (p := ⟨gb105, _, none⟩) NB109_105.out _).trans (hHeld.1)))), ((cell_far (p := ⟨gb105, _, none⟩) NB109_105.out _).trans (((cell_far (p := ⟨gb105, _, none⟩) NB109_105.out _).trans (hHeld.2))))⟩ (fun hHeld => ?_)
                            clear hK K
                            refine done_ (by kernel_rfl) ?_
                            try go_wp2
                            refine bodyPost_ret (results_cc rfl _ _ gb104 gb105 32 29 #[.string ((rdOf ByteArray.empty l1 (ji5)).extract (a2_1 : Int).toNat ((wrap64 (a2_1 + 1)) : Int).toNat), .string (⟨#[]⟩ : ByteArray), .int .i64 0, .string (⟨#[]⟩ : ByteArray)] #[.int .i64 x110000_10, .int .i64 x110001_10] (0, 0) (0, 0) _ _ rfl (by (with_reducible repeat (first | refine blk_drewN ?_ _ | refine blk_drew ?_ | refine blk_alloc ?_ _)); refine blk_far ?_ NB104_105.out _; (with_reducible repeat (first | refine blk_drewN ?_ _ | refine blk_drew ?_ | refine blk_alloc ?_ _)); refine blk_far ?_ NB104_105.out _; (with_reducible repeat (first | refine blk_drewN ?_ _ | refine blk_drew ?_ | refine blk_alloc ?_ _)); refine blk_put (cs := #[.string ((rdOf ByteArray.empty l1 (ji5)).extract (a2_1 : Int).toNat ((wrap64 (a2_1 + 1)) : Int).toNat), .string (⟨#[]⟩ : ByteArray), .int .i64 0, .string (⟨#[]⟩ : ByteArray)]) ?_ 3 _ rfl; (with_reducible repeat (first | refine blk_drewN ?_ _ | refine blk_drew ?_ | refine blk_alloc ?_ _)); refine blk_put (cs := #[.string ((rdOf ByteArray.empty l1 (ji5)).extract (a2_1 : Int).toNat ((wrap64 (a2_1 + 1)) : Int).toNat), .string (⟨#[]⟩ : ByteArray), .int .i64 0, .string (⟨#[]⟩ : ByteArray)]) ?_ 2 _ rfl; (with_reducible repeat (first | refine blk_drewN ?_ _ | refine blk_drew ?_ | refine blk_alloc ?_ _)); refine blk_put (cs := #[.string ((rdOf ByteArray.empty l1 (ji5)).extract (a2_1 : Int).toNat ((wrap64 (a2_1 + 1)) : Int).toNat), .string (⟨#[]⟩ : ByteArray), .int .i64 0, .string (⟨#[]⟩ : ByteArray)]) ?_ 1 _ rfl; (with_reducible repeat (first | refine blk_drewN ?_ _ | refine blk_drew ?_ | refine blk_alloc ?_ _)); refine blk_put (cs := #[.string (⟨#[]⟩ : ByteArray), .string (⟨#[]⟩ : ByteArray), .int .i64 0, .string (⟨#[]⟩ : ByteArray)]) ?_ 0 _ rfl; (with_reducible repeat (first | refine blk_drewN ?_ _ | refine blk_drew ?_ | refine blk_alloc ?_ _)); exact BK104.out) Try.underlying32 rfl (by kernel_rfl) rfl (by (with_reducible repeat (first | refine blk_drewN ?_ _ | refine blk_drew ?_ | refine blk_alloc ?_ _)); refine blk_put (cs := #[.int .i64 x110000_10, .int .i64 0]) ?_ 1 _ rfl; (with_reducible repeat (first | refine blk_drewN ?_ _ | refine blk_drew ?_ | refine blk_alloc ?_ _)); refine blk_put (cs := #[.int .i64 0, .int .i64 0]) ?_ 0 _ rfl; (with_reducible repeat (first | refine blk_drewN ?_ _ | refine blk_drew ?_ | refine blk_alloc ?_ _)); refine blk_far ?_ NB105_104.out _; (with_reducible repeat (first | refine blk_drewN ?_ _ | refine blk_drew ?_ | refine blk_alloc ?_ _)); refine blk_far ?_ NB105_104.out _; (with_reducible repeat (first | refine blk_drewN ?_ _ | refine blk_drew ?_ | refine blk_alloc ?_ _)); refine blk_far ?_ NB105_104.out _; (with_reducible repeat (first | refine blk_drewN ?_ _ | refine blk_drew ?_ | refine blk_alloc ?_ _)); refine blk_far ?_ NB105_104.out _; (with_reducible repeat (first | refine blk_drewN ?_ _ | refine blk_drew ?_ | refine blk_alloc ?_ _)); exact BK105.out) Try.underlying29 rfl (by kernel_rfl)) rfl ?_
                            exact ⟨by first | rfl | (simp [errW_none, errW_some] <;> rfl) | (simp only [← hji5]; first | rfl | (simp [errW_none, errW_some] <;> rfl)) | (simp [*, errW_none, errW_some] <;> rfl), by repeat (first | (with_reducible first | exact HB.out | apply below_alloc | apply pw_below_drewN | apply below_drew1 | refine below_set ?_ GE103.out | refine below_set ?_ GE104.out | refine below_set ?_ GE105.out | refine below_set ?_ GE109.out) | exact HB.out)⟩
                        · replace c44 := Bool.eq_false_iff.mpr c44
                          subst c44
                          have H1 : (if 18 + ((rdOf ByteArray.empty l1 (ji5)).extract (a2_1 : Int).toNat ((wrap64 (a2_1 + 1)) : Int).toNat).size ≤ 9223372036854775807 then (some ((⟨#[63]⟩ : ByteArray), (⟨#[]⟩ : ByteArray), 2, (⟨#[105, 108, 108, 101, 103, 97, 108, 32, 111, 112, 116, 105, 111, 110, 32, 45, 45, 32]⟩ : ByteArray) ++ ((rdOf ByteArray.empty l1 (ji5)).extract (a2_1 : Int).toNat ((wrap64 (a2_1 + 1)) : Int).toNat), x110000_10, x110001_10)) else (none)) = some (r1, r2, r3, r4, r5, r6) := by rw [if_neg (show ¬ (false = true) by decide)] at H; exact H
                          clear H
                          have H := H1
                          clear H1
                          by_cases c105 : 18 + ((rdOf ByteArray.empty l1 (ji5)).extract (a2_1 : Int).toNat ((wrap64 (a2_1 + 1)) : Int).toNat).size ≤ 9223372036854775807
                          · rw [if_pos c105] at H
                            have c105b0 := eq_true c105
                            have c105b1 : decide (18 + ((rdOf ByteArray.empty l1 (ji5)).extract (a2_1 : Int).toNat ((wrap64 (a2_1 + 1)) : Int).toNat).size ≤ 9223372036854775807) = true := decide_eq_true c105
                            try have c105b2 : (9223372036854775807 < 18 + ((rdOf ByteArray.empty l1 (ji5)).extract (a2_1 : Int).toNat ((wrap64 (a2_1 + 1)) : Int).toNat).size) = False := eq_false (Nat.not_lt.2 c105)
                            try (have c105b3 := c105b2; simp only [ByteArray.size_extract] at c105b3)
                            simp only [Option.some.injEq, Prod.mk.injEq] at H
                            obtain ⟨rfl, rfl, rfl, rfl, rfl, rfl⟩ := H
                            try go_wp2
                            have n0_ := Aside0.mk (blk_drew BK103.out)
                            have n1_ := Aside0.mk (blk_drew BK104.out)
                            have n2_ := Aside0.mk (blk_drew BK105.out)
                            have n3_ := Aside0.mk (blk_drew BK109.out)
                            have n4_ := Aside0.mk (below_drew1 HB.out)
                            clear BK103
                            clear BK104
                            clear BK105
                            clear BK109
                            clear HB
                            have BK103 := n0_
                            have BK104 := n1_
                            have BK105 := n2_
                            have BK109 := n3_
                            have HB := n4_
                            clear n0_ n1_ n2_ n3_ n4_
                            refine start_ (n := 6) (S := fun w' => w'.cell? ⟨gb109, 0, none⟩ = some (.int .i64 x110000_10) ∧ w'.cell? ⟨gb109, 1, none⟩ = some (.int .i64 x110001_10)) (ds := []) #[false, false, false, false, false, false] (by kernel_rfl) rfl rfl ⟨(blk_cell BK109.out 0).trans rfl, (blk_cell BK109.out 1).trans rfl⟩ (fun hHeld => ?_)
                            generalize wc.drew = w106 at BK103 BK104 BK105 BK109 HB hHeld ⊢
                            refine pure_ (i := 0) (N := some 67) (v := ?_) (a' := ?_) #[true, false, false, false, false, false] rfl rfl (by kernel_rfl) (fun _ _ _ h => h) (Or.inl ⟨by rfl, ?_⟩) ?_ ?_
                            rotate_left
                            · intro w'
                              go_simp
                              with_reducible rfl
                            rotate_left
                            · simp only [Act.put, List.setIfInBounds_toArray, List.set_cons_zero, List.set_cons_succ, i64_w, i32_w]
                              rfl
                            refine pure_ (i := 1) (N := some 68) (v := ?_) (a' := ?_) #[true, true, false, false, false, false] rfl rfl (by kernel_rfl) (fun _ _ _ h => h) (Or.inl ⟨by rfl, ?_⟩) ?_ ?_
                            rotate_left
                            · intro w'
                              go_simp
                              with_reducible rfl
                            rotate_left
                            · simp only [Act.put, List.setIfInBounds_toArray, List.set_cons_zero, List.set_cons_succ, i64_w, i32_w]
                              rfl
                            refine pure_ (i := 2) (N := some 69) (v := ?_) (a' := ?_) #[true, true, true, false, false, false] rfl rfl (by kernel_rfl) (fun _ _ _ h => h) (Or.inl ⟨by rfl, ?_⟩) ?_ ?_
                            rotate_left
                            · intro w'
                              go_simp
                              with_reducible rfl
                            rotate_left
                            · simp only [Act.put, List.setIfInBounds_toArray, List.set_cons_zero, List.set_cons_succ, i64_w, i32_w]
                              rfl
                            refine take_ (i := 3) (N := some 70) (v := ?_) (a' := ?_) #[true, true, true, true, false, false] rfl rfl (by kernel_rfl) (fun _ _ _ h => h) (Or.inl ⟨by rfl, ?_⟩) hHeld ?_ ?_
                            rotate_left
                            · rintro w' ⟨s0, s1⟩
                              go_simp
                              with_reducible rfl
                            rotate_left
                            · simp only [Act.put, List.setIfInBounds_toArray, List.set_cons_zero, List.set_cons_succ, i64_w, i32_w]
                              rfl
                            refine one_ (i := 4) (N := none) #[true, true, true, true, true, false] rfl rfl (by kernel_rfl) (by decide) (fun K hK => ?_)
                            have hs107 : w106.cell? ⟨gb104, 0, none⟩ = some (.string (⟨#[]⟩ : ByteArray)) := (blk_cell BK104.out 0).trans rfl
                            have hfs107 := blk_frozen BK104.out 0
                            have hns107_0 := NB103_104.out
                            have hns107_2 := NB105_104.out
                            have hns107_3 := NB109_104.out
                            have hms107_0 := NB104_103.out
                            have hms107_2 := NB104_105.out
                            have hms107_3 := NB104_109.out
                            have hs108 : w106.cell? ⟨gb104, 1, none⟩ = some (.string (⟨#[]⟩ : ByteArray)) := (blk_cell BK104.out 1).trans rfl
                            have hfs108 := blk_frozen BK104.out 1
                            have hns108_0 := NB103_104.out
                            have hns108_2 := NB105_104.out
                            have hns108_3 := NB109_104.out
                            have hms108_0 := NB104_103.out
                            have hms108_2 := NB104_105.out
                            have hms108_3 := NB104_109.out
                            have hs109 : w106.cell? ⟨gb104, 2, none⟩ = some (.int .i64 0) := (blk_cell BK104.out 2).trans rfl
                            have hfs109 := blk_frozen BK104.out 2
                            have hns109_0 := NB103_104.out
                            have hns109_2 := NB105_104.out
                            have hns109_3 := NB109_104.out
                            have hms109_0 := NB104_103.out
                            have hms109_2 := NB104_105.out
                            have hms109_3 := NB104_109.out
                            have hs110 : w106.cell? ⟨gb104, 3, none⟩ = some (.string (⟨#[]⟩ : ByteArray)) := (blk_cell BK104.out 3).trans rfl
                            have hfs110 := blk_frozen BK104.out 3
                            have hns110_0 := NB103_104.out
                            have hns110_2 := NB105_104.out
                            have hns110_3 := NB109_104.out
                            have hms110_0 := NB104_103.out
                            have hms110_2 := NB104_105.out
                            have hms110_3 := NB104_109.out
                            refine skip_ (w1 := ?_) (by rfl) rfl ?_ ?_
                            rotate_left
                            · go_simp
                              rfl
                            refine hK.out _ _ ⟨((cell_far (p := ⟨gb104, _, none⟩) NB109_104.out _).trans (((cell_far (p := ⟨gb104, _, none⟩) NB109_104.out _).trans (((cell_far (p := ⟨gb104, _, none⟩) NB109_104.out _).trans (((cell_far (p := ⟨gb104, _, none⟩) NB109_104.out _).trans (hHeld.1)))))))), ((cell_far (p := ⟨gb104, _, none⟩) NB109_104.out _).trans (((cell_far (p := ⟨gb104, _, none⟩) NB109_104.out _).trans (((cell_far (p := ⟨gb104, _, none⟩) NB109_104.out _).trans (((cell_far (p := ⟨gb104, _, none⟩) NB109_104.out _).trans (hHeld.2))))))))⟩ (fun hHeld => ?_)
                            clear hK K
                            refine one_ (i := 5) (N := none) #[true, true, true, true, true, true] rfl rfl (by kernel_rfl) (by decide) (fun K hK => ?_)
                            have hs111 : w106.cell? ⟨gb105, 0, none⟩ = some (.int .i64 0) := (blk_cell BK105.out 0).trans rfl
                            have hfs111 := blk_frozen BK105.out 0
                            have hns111_0 := NB103_105.out
                            have hns111_1 := NB104_105.out
                            have hns111_3 := NB109_105.out
                            have hms111_0 := NB105_103.out
                            have hms111_1 := NB105_104.out
                            have hms111_3 := NB105_109.out
                            have hs112 : w106.cell? ⟨gb105, 1, none⟩ = some (.int .i64 0) := (blk_cell BK105.out 1).trans rfl
                            have hfs112 := blk_frozen BK105.out 1
                            have hns112_0 := NB103_105.out
                            have hns112_1 := NB104_105.out
                            have hns112_3 := NB109_105.out
                            have hms112_0 := NB105_103.out
                            have hms112_1 := NB105_104.out
                            have hms112_3 := NB105_109.out
                            refine skip_ (w1 := ?_) (by rfl) rfl ?_ ?_
                            rotate_left
                            · go_simp
                              rfl
                            refine hK.out _ _ ⟨((cell_far (p := ⟨gb105, _, none⟩) NB109_105.out _).trans (((cell_far (p := ⟨gb105, _, none⟩) NB109_105.out _).trans (hHeld.1)))), ((cell_far (p := ⟨gb105, _, none⟩) NB109_105.out _).trans (((cell_far (p := ⟨gb105, _, none⟩) NB109_105.out _).trans (hHeld.2))))⟩ (fun hHeld => ?_)
                            clear hK K
                            refine done_ (by kernel_rfl) ?_
                            try go_wp2
                            refine bodyPost_ret (results_cc rfl _ _ gb104 gb105 32 29 #[.string (⟨#[63]⟩ : ByteArray), .string (⟨#[]⟩ : ByteArray), .int .i64 2, .string ((⟨#[105, 108, 108, 101, 103, 97, 108, 32, 111, 112, 116, 105, 111, 110, 32, 45, 45, 32]⟩ : ByteArray) ++ ((rdOf ByteArray.empty l1 (ji5)).extract (a2_1 : Int).toNat ((wrap64 (a2_1 + 1)) : Int).toNat))] #[.int .i64 x110000_10, .int .i64 x110001_10] (0, 0) (0, 0) _ _ rfl (by (with_reducible repeat (first | refine blk_drewN ?_ _ | refine blk_drew ?_ | refine blk_alloc ?_ _)); refine blk_far ?_ NB104_105.out _; (with_reducible repeat (first | refine blk_drewN ?_ _ | refine blk_drew ?_ | refine blk_alloc ?_ _)); refine blk_far ?_ NB104_105.out _; (with_reducible repeat (first | refine blk_drewN ?_ _ | refine blk_drew ?_ | refine blk_alloc ?_ _)); refine blk_put (cs := #[.string (⟨#[63]⟩ : ByteArray), .string (⟨#[]⟩ : ByteArray), .int .i64 2, .string (⟨#[]⟩ : ByteArray)]) ?_ 3 _ rfl; (with_reducible repeat (first | refine blk_drewN ?_ _ | refine blk_drew ?_ | refine blk_alloc ?_ _)); refine blk_put (cs := #[.string (⟨#[63]⟩ : ByteArray), .string (⟨#[]⟩ : ByteArray), .int .i64 0, .string (⟨#[]⟩ : ByteArray)]) ?_ 2 _ rfl; (with_reducible repeat (first | refine blk_drewN ?_ _ | refine blk_drew ?_ | refine blk_alloc ?_ _)); refine blk_put (cs := #[.string (⟨#[63]⟩ : ByteArray), .string (⟨#[]⟩ : ByteArray), .int .i64 0, .string (⟨#[]⟩ : ByteArray)]) ?_ 1 _ rfl; (with_reducible repeat (first | refine blk_drewN ?_ _ | refine blk_drew ?_ | refine blk_alloc ?_ _)); refine blk_put (cs := #[.string (⟨#[]⟩ : ByteArray), .string (⟨#[]⟩ : ByteArray), .int .i64 0, .string (⟨#[]⟩ : ByteArray)]) ?_ 0 _ rfl; (with_reducible repeat (first | refine blk_drewN ?_ _ | refine blk_drew ?_ | refine blk_alloc ?_ _)); exact BK104.out) Try.underlying32 rfl (by kernel_rfl) rfl (by (with_reducible repeat (first | refine blk_drewN ?_ _ | refine blk_drew ?_ | refine blk_alloc ?_ _)); refine blk_put (cs := #[.int .i64 x110000_10, .int .i64 0]) ?_ 1 _ rfl; (with_reducible repeat (first | refine blk_drewN ?_ _ | refine blk_drew ?_ | refine blk_alloc ?_ _)); refine blk_put (cs := #[.int .i64 0, .int .i64 0]) ?_ 0 _ rfl; (with_reducible repeat (first | refine blk_drewN ?_ _ | refine blk_drew ?_ | refine blk_alloc ?_ _)); refine blk_far ?_ NB105_104.out _; (with_reducible repeat (first | refine blk_drewN ?_ _ | refine blk_drew ?_ | refine blk_alloc ?_ _)); refine blk_far ?_ NB105_104.out _; (with_reducible repeat (first | refine blk_drewN ?_ _ | refine blk_drew ?_ | refine blk_alloc ?_ _)); refine blk_far ?_ NB105_104.out _; (with_reducible repeat (first | refine blk_drewN ?_ _ | refine blk_drew ?_ | refine blk_alloc ?_ _)); refine blk_far ?_ NB105_104.out _; (with_reducible repeat (first | refine blk_drewN ?_ _ | refine blk_drew ?_ | refine blk_alloc ?_ _)); exact BK105.out) Try.underlying29 rfl (by kernel_rfl)) rfl ?_
                            exact ⟨by first | rfl | (simp [errW_none, errW_some] <;> rfl) | (simp only [← hji5]; first | rfl | (simp [errW_none, errW_some] <;> rfl)) | (simp [*, errW_none, errW_some] <;> rfl), by repeat (first | (with_reducible first | exact HB.out | apply below_alloc | apply pw_below_drewN | apply below_drew1 | refine below_set ?_ GE103.out | refine below_set ?_ GE104.out | refine below_set ?_ GE105.out | refine below_set ?_ GE109.out) | exact HB.out)⟩
                          rw [if_neg c105] at H
                          exact absurd H (by simp)
                rw [if_neg c31] at H
                exact absurd H (by simp)
          rw [if_neg c10] at H
          exact absurd H (by simp)
        rw [if_neg c9] at H
        exact absurd H (by simp)
      rw [if_neg c8] at H
      exact absurd H (by simp)
    rw [if_neg c7] at H
    exact absurd H (by simp)
  rw [if_neg c6] at H
  exact absurd H (by simp)

end Go.Proofs.Ytgplhdgimckfjaa.Q
