import Derived.Test.YtbekhjcnmifnnaaQ0
set_option linter.unusedVariables false
set_option linter.unusedSimpArgs false
namespace Go.Proofs.Ytbekhjcnmifnnaa.Q
open Go.RowKit Go.Proofs.YtbekhjcnmifnnaaW.PrintWords Go.Proofs.YtbekhjcnmifnnaaW.PrintLast Go.Proofs.YtbekhjcnmifnnaaW.PrintMore
mutual
def pattern_setRuns.j0 : Nat → ByteArray → Int → ByteArray → Bool → List (S58) → Option ((List (S47)))
 | 0, _, _, _, _, _ => none
 | k + 1, x3, x205000, x205001, x205002, x205003 => (some (([(⟨x3, 0⟩ : S47)] : List (S47)) : List (S47))).bind fun y205 => (if (x205003.length : Int) = 0 then ((some (([(⟨(⟨#[98]⟩ : ByteArray), 1⟩ : S47), (⟨(⟨#[45]⟩ : ByteArray), 0⟩ : S47), (⟨(⟨#[97]⟩ : ByteArray), 1⟩ : S47)] : List (S47)) : List (S47))).bind fun y208 => (if y205.length + y208.length < 5864062014805 then (pattern_setRuns.j1 k (y205 ++ y208) x205000 x205001 x205002 x205003) else (none))) else (pattern_setRuns.j1 k y205 x205000 x205001 x205002 x205003))
def pattern_setRuns.j1 : Nat → List (S47) → Int → ByteArray → Bool → List (S58) → Option ((List (S47)))
 | 0, _, _, _, _, _ => none
 | k + 1, x4, x205000, x205001, x205002, x205003 => pattern_setRuns.l0 k x4 x205003 (x205003.length : Int) 0
def pattern_setRuns.l0 : Nat → List (S47) → List (S58) → Int → Int → Option ((List (S47)))
 | 0, _, _, _, _ => none
 | k + 1, x4, x23, x24, x25 => if x25 < x24 then (if 0 ≤ x25 then (if x25 < (x23.length : Int) then (if x4.length < 5864062014805 then ((some (x4 ++ [(⟨strOfNums (([(rd_T58 x23 x25).f0] : List Int)), 1⟩ : S47)] : List (S47))).bind fun y219 => (if ((rd_T58 x23 x25).f1) > ((rd_T58 x23 x25).f0) then ((some (([(⟨(⟨#[45]⟩ : ByteArray), 0⟩ : S47), (⟨strOfNums (([(rd_T58 x23 x25).f1] : List Int)), 1⟩ : S47)] : List (S47)) : List (S47))).bind fun y225 => (if y219.length + y225.length < 5864062014805 then (pattern_setRuns.l0 k (y219 ++ y225) x23 x24 (wrap64 (x25 + 1))) else (none))) else (pattern_setRuns.l0 k y219 x23 x24 (wrap64 (x25 + 1))))) else (none)) else (none)) else (none)) else (if x4.length < 5864062014805 then (some (x4 ++ [(⟨(⟨#[93]⟩ : ByteArray), 0⟩ : S47)])) else (none))
end
def pattern_setRuns.f (k : Nat) (a0_0 : Int) (a0_1 : ByteArray) (a0_2 : Bool) (l0_3 : List (S58)) : Option ((List (S47))) := if a0_2 = true then (pattern_setRuns.j0 k (⟨#[91, 33]⟩ : ByteArray) a0_0 a0_1 a0_2 l0_3) else (pattern_setRuns.j0 k (⟨#[91]⟩ : ByteArray) a0_0 a0_1 a0_2 l0_3)
theorem pattern_setRuns.mono_l : ∀ k, (∀ y0 y1 y2 y3 y4, LeO (pattern_setRuns.j0 k y0 y1 y2 y3 y4) (pattern_setRuns.j0 (k + 1) y0 y1 y2 y3 y4)) ∧ (∀ y0 y1 y2 y3 y4, LeO (pattern_setRuns.j1 k y0 y1 y2 y3 y4) (pattern_setRuns.j1 (k + 1) y0 y1 y2 y3 y4)) ∧ (∀ y0 y1 y2 y3, LeO (pattern_setRuns.l0 k y0 y1 y2 y3) (pattern_setRuns.l0 (k + 1) y0 y1 y2 y3))
 | 0 => ⟨fun _ _ _ _ _ r h => by simp [pattern_setRuns.j0] at h, fun _ _ _ _ _ r h => by simp [pattern_setRuns.j1] at h, fun _ _ _ _ r h => by simp [pattern_setRuns.l0] at h⟩
 | k + 1 => by
  obtain ⟨ih0, ih1, ih2⟩ := pattern_setRuns.mono_l k
  refine ⟨?_, ?_, ?_⟩
  all_goals (intros; first | unfold pattern_setRuns.j0 | unfold pattern_setRuns.j1 | unfold pattern_setRuns.l0)
  all_goals repeat' first
   | (with_reducible exact ih0 _ _ _ _ _)
   | (with_reducible exact ih1 _ _ _ _ _)
   | (with_reducible exact ih2 _ _ _ _)
   | (with_reducible exact LeO.refl _)
   | (with_reducible exact LeO.none _)
   | (with_reducible refine LeO.ite ?_ ?_)
   | (with_reducible refine LeO.bind ?_ (fun _ => ?_))
theorem pattern_setRuns.mono : ∀ a0 a1 a2 a3 k, LeO (pattern_setRuns.f k a0 a1 a2 a3) (pattern_setRuns.f (k + 1) a0 a1 a2 a3) := by
 intro a0 a1 a2 a3 k
 obtain ⟨ih0, ih1, ih2⟩ := pattern_setRuns.mono_l k
 unfold pattern_setRuns.f
 repeat' first
  | (with_reducible exact ih0 _ _ _ _ _)
  | (with_reducible exact ih1 _ _ _ _ _)
  | (with_reducible exact ih2 _ _ _ _)
  | (with_reducible exact LeO.refl _)
  | (with_reducible exact LeO.none _)
  | (with_reducible refine LeO.ite ?_ ?_)
  | (with_reducible refine LeO.bind ?_ (fun _ => ?_))
set_option maxHeartbeats 8000000 in
set_option maxRecDepth 100000 in
theorem pattern_setRuns.calls (k : Nat) (a0_0 : Int) (a0_1 : ByteArray) (a0_2 : Bool) (A0_3 : Option Addr) (c0_3 : Nat) (l0_3 : List (S58)) (r : List (S47)) (w : World) (hr0_3 : Kd.C k58 w A0_3 l0_3.length l0_3) (hc0_3 : l0_3.length ≤ c0_3) (h : pattern_setRuns.f k a0_0 a0_1 a0_2 l0_3 = some r) :
 Calls Try.prog 41 #[.agg #[.int .i64 a0_0, .string a0_1, .bool a0_2, .slice A0_3 l0_3.length c0_3]] w fun e w' => ∃ v0_ : Value, e = .returned (v0_) ∧ Kd.R k47 47 w' w.heap.size (fun _ => True) v0_ r ∧ Below w.heap.size w w' := by
 have hu35 := Try.underlying35
 have hu47 := Try.underlying47
 have hu58 := Try.underlying58
 have HR0_3 := m_ hr0_3
 have HC0_3 := m_ hc0_3
 clear hr0_3 hc0_3
 have HB := m_ (Below.refl w.heap.size w)
 have H : (if a0_2 = true then (pattern_setRuns.j0 k (⟨#[91, 33]⟩ : ByteArray) a0_0 a0_1 a0_2 l0_3) else (pattern_setRuns.j0 k (⟨#[91]⟩ : ByteArray) a0_0 a0_1 a0_2 l0_3)) = some r := h
 clear h
 have HC2 := m_ H
 clear H
 go_enter Try.func41, Try.ntmps41
 go_upto_if 8 with (first | ((with_reducible refine gate_dst (N := 1) rfl ?_); refine box_event ?hg (N := 1) ?hd (cs := #[.int .i64 a0_0, .string a0_1, .bool a0_2, .slice A0_3 l0_3.length c0_3]) (t := 35) ?hr ?_; (case hd => rfl); (case hg => rfl); (case hr => first | (go_simp; done) | (go_simp; rfl)); intro gb204 hg w3 hbox hb; have BK204 := m_ (hbox); have GW204 := m_ ((by rw [hg]; exact (l6_ (by repeat (with_reducible first | exact HB.out | apply l1_ | apply l2_ | apply l3_))) : w.heap.size ≤ gb204)); have GE204 := m_ ((by rw [hg]; exact (l6_ (by repeat (with_reducible first | exact HB.out | apply l1_ | apply l2_ | apply l3_))) : w.heap.size ≤ gb204)); replace HB := m_ (l5_ (by repeat (with_reducible first | exact HB.out | apply l1_ | apply l2_ | apply l3_)) hb); clear hb hbox hg; have hcz4_0 : w3.cell? ⟨gb204, 0, none⟩ = some (.int .i64 a0_0) := (b5_ BK204.out 0).trans rfl; have hcz4_1 : w3.cell? ⟨gb204, 1, none⟩ = some (.string a0_1) := (b5_ BK204.out 1).trans rfl; have hcz4_2 : w3.cell? ⟨gb204, 2, none⟩ = some (.bool a0_2) := (b5_ BK204.out 2).trans rfl; have hcz4_3 : w3.cell? ⟨gb204, 3, none⟩ = some (.slice A0_3 l0_3.length c0_3) := (b5_ BK204.out 3).trans rfl; have hfz4_0 := f1_ BK204.out 0; have hfz4_1 := f1_ BK204.out 1; have hfz4_2 := f1_ BK204.out 2; have hfz4_3 := f1_ BK204.out 3))
 (try simp only [Act.put, List.setIfInBounds_toArray, List.set_cons_zero, List.set_cons_succ])
 go_cut [3] (fun v3 wc => ∃ (kq : Nat) (x3_1 : ByteArray), v3 = .string x3_1 ∧ Aside0 (pattern_setRuns.j0 kq x3_1 a0_0 a0_1 a0_2 l0_3 = some r) ∧ Aside0 (kq ≤ k) ∧ Aside0 (wc.heap[gb204]? = some (.cells #[.int .i64 a0_0, .string a0_1, .bool a0_2, (.slice A0_3 l0_3.length c0_3)] 35 (0, 0))) ∧ Aside0 (Below w.heap.size w wc))
 case first =>
  have H := HC2.out
  clear HC2
  by_cases c5 : a0_2 = true
  ·
   subst c5
   rw [if_pos rfl] at H
   have H' := m_ H
   clear H
   go_wp2
   go_meet
   case rel => exact ⟨_, ((⟨#[91, 33]⟩ : ByteArray)), (by first | rfl | (simp; done) | (simp [*]; done)), H', ⟨by first | omega | exact Nat.le_refl _⟩, ⟨by (with_reducible repeat (first | refine b1_ ?_ _ | refine b2_ ?_ | refine b3_ ?_ _)); exact BK204.out⟩, ⟨by repeat (with_reducible first | exact HB.out | apply l1_ | apply l2_ | apply l3_ | refine l4_ ?_ GE204.out)⟩⟩
  ·
   replace c5 := Bool.eq_false_iff.mpr c5
   subst c5
   rw [if_neg (show ¬ (false = true) by decide)] at H
   have H' := m_ H
   clear H
   go_wp2
   go_meet
   case rel => exact ⟨_, ((⟨#[91]⟩ : ByteArray)), (by first | rfl | (simp; done) | (simp [*]; done)), H', ⟨by first | omega | exact Nat.le_refl _⟩, ⟨by (with_reducible repeat (first | refine b1_ ?_ _ | refine b2_ ?_ | refine b3_ ?_ _)); exact BK204.out⟩, ⟨by repeat (with_reducible first | exact HB.out | apply l1_ | apply l2_ | apply l3_ | refine l4_ ?_ GE204.out)⟩⟩
 case rest =>
  clear HC2
  (try clear p2); (try clear c4); (try clear c5); (try clear hcz4_0); (try clear hcz4_1); (try clear hcz4_2); (try clear hcz4_3); (try clear hfz4_0); (try clear hfz4_1); (try clear hfz4_2); (try clear hfz4_3)
  obtain ⟨kq, x3_1, rfl, HA, HJ1, BK204, HB⟩ := hcut
  cases kq with
  | zero => exact absurd HA.out (by simp [pattern_setRuns.j0])
  | succ kj1 =>
   have H := HA.out
   clear HA
   simp only [pattern_setRuns.j0] at H
   obtain ⟨y205, hy205⟩ : ∃ y_ : List (S47), y_ = (([(⟨x3_1, 0⟩ : S47)] : List (S47))) := ⟨_, rfl⟩
   replace H : (if (l0_3.length : Int) = 0 then ((some (([(⟨(⟨#[98]⟩ : ByteArray), 1⟩ : S47), (⟨(⟨#[45]⟩ : ByteArray), 0⟩ : S47), (⟨(⟨#[97]⟩ : ByteArray), 1⟩ : S47)] : List (S47)) : List (S47))).bind fun y208 => (if y205.length + y208.length < 5864062014805 then (pattern_setRuns.j1 kj1 (y205 ++ y208) a0_0 a0_1 a0_2 l0_3) else (none))) else (pattern_setRuns.j1 kj1 y205 a0_0 a0_1 a0_2 l0_3)) = some r := by subst hy205; exact H
   have Ny205 := m_ hy205
   clear hy205
   have HC6 := m_ H
   clear H
   go_upto_if 15 with (first | ((with_reducible refine gate_dst (N := 11) rfl ?_); refine Kd.R_lit k47 _ 47 ?hg (N := 11) ?hd (xs := ([(⟨x3_1, 0⟩ : S47)] : List (S47))) (inner := [.string x3_1, .int .i64 0]) (ok := fun _ => True) (okp := fun _ => True) ?hr ?hp (fun _ hk => hk) trivial (Below.refl _ _) (Nat.le_refl _) (by simp) ?_; (case hd => rfl); (case hg => rfl); (case hr => first | (go_simp; done) | (go_simp; rfl)); (case hp => exact (Reps.c2 (show Kd.M k47 _ _ _ (⟨x3_1, 0⟩ : S47) [.string x3_1, .int .i64 0] from (k47_mkM _ _ _ (⟨x3_1, 0⟩ : S47) )) (Reps.none _ _))); intro v206 w7 ho8 hb hg_ hnew_; clear hg_ hnew_; (first | rw [← Ny205.out] at ho8 | (simp only [Int.reduceToNat] at ho8; rw [← Ny205.out] at ho8)); have HO207 := m_ (Kd.R_lower ho8 (l6_ (by repeat (with_reducible first | exact HB.out | apply l1_ | apply l2_ | apply l3_ | refine l4_ ?_ GE204.out)))); replace BK204 := m_ (b4_ (g := gb204) (o := .cells #[.int .i64 a0_0, .string a0_1, .bool a0_2, .slice A0_3 l0_3.length c0_3] 35 (0, 0)) (by (with_reducible repeat (first | refine b1_ ?_ _ | refine b2_ ?_ | refine b3_ ?_ _)); exact BK204.out) hb); replace HB := m_ (l5_ (by repeat (with_reducible first | exact HB.out | apply l1_ | apply l2_ | apply l3_ | refine l4_ ?_ GE204.out)) hb); clear hb ho8; have hcz9_0 : w7.cell? ⟨gb204, 0, none⟩ = some (.int .i64 a0_0) := (b5_ BK204.out 0).trans rfl; have hcz9_1 : w7.cell? ⟨gb204, 1, none⟩ = some (.string a0_1) := (b5_ BK204.out 1).trans rfl; have hcz9_2 : w7.cell? ⟨gb204, 2, none⟩ = some (.bool a0_2) := (b5_ BK204.out 2).trans rfl; have hcz9_3 : w7.cell? ⟨gb204, 3, none⟩ = some (.slice A0_3 l0_3.length c0_3) := (b5_ BK204.out 3).trans rfl; have hfz9_0 := f1_ BK204.out 0; have hfz9_1 := f1_ BK204.out 1; have hfz9_2 := f1_ BK204.out 2; have hfz9_3 := f1_ BK204.out 3))
   (try simp only [Act.put, List.setIfInBounds_toArray, List.set_cons_zero, List.set_cons_succ])
   go_cut [4] (fun v4 wc => ∃ (kq : Nat) (x4_5 : List (S47)), Aside0 (pattern_setRuns.j1 kq x4_5 a0_0 a0_1 a0_2 l0_3 = some r) ∧ Aside0 (kq ≤ kj1) ∧ Aside0 (Kd.R k47 47 wc w.heap.size (fun _ => True) v4 x4_5) ∧ Aside0 (wc.heap[gb204]? = some (.cells #[.int .i64 a0_0, .string a0_1, .bool a0_2, (.slice A0_3 l0_3.length c0_3)] 35 (0, 0))) ∧ Aside0 (Below w.heap.size w wc))
   case first =>
    have H := HC6.out
    clear HC6
    by_cases c10 : (l0_3.length : Int) = 0
    ·
     rw [if_pos c10] at H
     have c10b0 : ((l0_3.length : Int) == 0) = true := beq_iff_eq.mpr c10
     have c10b1 : ((l0_3.length : Int) != 0) = false := bne_eq_false_iff_eq.mpr c10
     clear c10
     (first | rw [c10b0] | (simp only [i64_w, i32_w]; rw [c10b0]) | skip)
     obtain ⟨y208, hy208⟩ : ∃ y_ : List (S47), y_ = (([(⟨(⟨#[98]⟩ : ByteArray), 1⟩ : S47), (⟨(⟨#[45]⟩ : ByteArray), 0⟩ : S47), (⟨(⟨#[97]⟩ : ByteArray), 1⟩ : S47)] : List (S47))) := ⟨_, rfl⟩
     replace H : (if y205.length + y208.length < 5864062014805 then (pattern_setRuns.j1 kj1 (y205 ++ y208) a0_0 a0_1 a0_2 l0_3) else (none)) = some r := by subst hy208; exact H
     have Ny208 := m_ hy208
     clear hy208
     by_cases c11 : y205.length + y208.length < 5864062014805
     ·
      rw [if_pos c11] at H
      have LMc11 := m_ c11
      clear c11
      obtain ⟨y211, hy211⟩ : ∃ y_ : List (S47), y_ = (y205 ++ y208) := ⟨_, rfl⟩
      replace H : (pattern_setRuns.j1 kj1 y211 a0_0 a0_1 a0_2 l0_3) = some r := by subst hy211; exact H
      have Ny211 := m_ hy211
      clear hy211
      have H' := m_ H
      clear H
      go_wp2_with (first | ((with_reducible refine gate_dst (N := 20) rfl ?_); refine Kd.R_lit k47 _ 47 ?hg (N := 20) ?hd (xs := ([(⟨(⟨#[98]⟩ : ByteArray), 1⟩ : S47), (⟨(⟨#[45]⟩ : ByteArray), 0⟩ : S47), (⟨(⟨#[97]⟩ : ByteArray), 1⟩ : S47)] : List (S47))) (inner := [.string (⟨#[98]⟩ : ByteArray), .int .i64 1, .string (⟨#[45]⟩ : ByteArray), .int .i64 0, .string (⟨#[97]⟩ : ByteArray), .int .i64 1]) (ok := fun _ => True) (okp := fun _ => True) ?hr ?hp (fun _ hk => hk) trivial (Below.refl _ _) (Nat.le_refl _) (by simp) ?_; (case hd => rfl); (case hg => rfl); (case hr => first | (go_simp; done) | (go_simp; rfl)); (case hp => exact (Reps.c2 (show Kd.M k47 _ _ _ (⟨(⟨#[98]⟩ : ByteArray), 1⟩ : S47) [.string (⟨#[98]⟩ : ByteArray), .int .i64 1] from (k47_mkM _ _ _ (⟨(⟨#[98]⟩ : ByteArray), 1⟩ : S47) )) (Reps.c2 (show Kd.M k47 _ _ _ (⟨(⟨#[45]⟩ : ByteArray), 0⟩ : S47) [.string (⟨#[45]⟩ : ByteArray), .int .i64 0] from (k47_mkM _ _ _ (⟨(⟨#[45]⟩ : ByteArray), 0⟩ : S47) )) (Reps.c2 (show Kd.M k47 _ _ _ (⟨(⟨#[97]⟩ : ByteArray), 1⟩ : S47) [.string (⟨#[97]⟩ : ByteArray), .int .i64 1] from (k47_mkM _ _ _ (⟨(⟨#[97]⟩ : ByteArray), 1⟩ : S47) )) (Reps.none _ _))))); intro v209 w12 ho13 hb hg_ hnew_; clear hg_ hnew_; (first | rw [← Ny208.out] at ho13 | (simp only [Int.reduceToNat] at ho13; rw [← Ny208.out] at ho13)); have HO210 := m_ (Kd.R_lower (Kd.R_new' ho13 (Kd.R_lt (by (with_reducible repeat (first | apply r1_ | apply r2_ | apply r3_)); exact HO207.out))) (l6_ (by repeat (with_reducible first | exact HB.out | apply l1_ | apply l2_ | apply l3_ | refine l4_ ?_ GE204.out)))); replace HO207 := m_ (Kd.R_elder' (by (with_reducible repeat (first | apply r1_ | apply r2_ | apply r3_)); exact HO207.out) (Kd.R_base ho13) hb); replace BK204 := m_ (b4_ (g := gb204) (o := .cells #[.int .i64 a0_0, .string a0_1, .bool a0_2, .slice A0_3 l0_3.length c0_3] 35 (0, 0)) (by (with_reducible repeat (first | refine b1_ ?_ _ | refine b2_ ?_ | refine b3_ ?_ _)); exact BK204.out) hb); replace HB := m_ (l5_ (by repeat (with_reducible first | exact HB.out | apply l1_ | apply l2_ | apply l3_ | refine l4_ ?_ GE204.out)) hb); clear hb ho13; obtain ⟨Ao15, co15, eo15⟩ := Kd.R_slice HO210.out; subst eo15) | ((with_reducible refine gate_builtin (b := .append) (xs := #[.tmp 16, .tmp 20]) rfl ?_); at_builtin; refine Kd.R_append_rows k47 (w0 := w) w.heap.size rfl (.tmp 16) (.tmp 20) 22 47 (.agg #[(.string ⟨#[]⟩), (.int .i64 0)]) 24 rfl Try.underlying22 info47 rfl (by decide) (by omega) v206 y205 y208 _ _ _ (fun k_ => some k_ ≠ (.slice Ao15 y208.length co15 : Value).ownBlock) (fun _ => False) rfl rfl ?aO ?aR (fun _ _ h => h) (fun _ h => h.elim) ?aF ?aB ?aS ?aL ?_; (case aR => repeat (first | exact (Kd.R_reads' HO210.out).2.2 | (with_reducible refine Kd.C_alloc ?_ _) | (with_reducible refine Kd.C_drewN ?_ _) | (with_reducible refine Kd.C_drew ?_))); (case aB => exact (by repeat (with_reducible first | exact HB.out | apply l1_ | apply l2_ | apply l3_ | refine l4_ ?_ GE204.out))); (case aF => exact (fun k_ hk => Kd.fresh' (Kd.R_lt (by (with_reducible repeat (first | apply r1_ | apply r2_ | apply r3_)); exact HO210.out)) k_ hk)); (case aO => exact (by (with_reducible repeat (first | apply r1_ | apply r2_ | apply r3_)); exact Kd.R_mono HO207.out (fun _ hk => hk.2))); (case aS => exact (l6_ (by repeat (with_reducible first | exact HB.out | apply l1_ | apply l2_ | apply l3_ | refine l4_ ?_ GE204.out)))); (case aL => have := LMc11.out; omega); intro v212 w14 ho hb hg hat; rw [← Ny211.out] at ho; replace BK204 := m_ (blk_grown (g := gb204) (o := .cells #[.int .i64 a0_0, .string a0_1, .bool a0_2, .slice A0_3 l0_3.length c0_3] 35 (0, 0)) (by (with_reducible repeat (first | refine b1_ ?_ _ | refine b2_ ?_ | refine b3_ ?_ _)); exact BK204.out) hg (Kd.R_ne HO207.out BK204.out (by decide))); replace HO210 := m_ (Kd.R_after (ok := (fun _ => True)) (by (with_reducible repeat (first | apply r1_ | apply r2_ | apply r3_)); exact HO210.out) hg hat); replace HB := m_ (hb); have HO213 := m_ (ho); clear HO207; clear ho hb hg hat))
      go_meet
      case rel => exact ⟨_, (y211), H', ⟨by have := HJ1.out; first | omega | exact Nat.le_refl _⟩, ⟨by (with_reducible repeat (first | apply r1_ | apply r2_ | apply r3_)); exact Kd.R_mono HO213.out (fun _ hk => trivial)⟩, ⟨by (with_reducible repeat (first | refine b1_ ?_ _ | refine b2_ ?_ | refine b3_ ?_ _)); exact BK204.out⟩, ⟨by repeat (with_reducible first | exact HB.out | apply l1_ | apply l2_ | apply l3_ | refine l4_ ?_ GE204.out)⟩⟩
     rw [if_neg c11] at H
     exact absurd H (by simp)
    rw [if_neg c10] at H
    have c10b0 : ((l0_3.length : Int) == 0) = false := beq_eq_false_iff_ne.mpr c10
    have c10b1 : ((l0_3.length : Int) != 0) = true := bne_iff_ne.mpr c10
    have c10b2 : ¬ (l0_3 = []) := fun h_ => c10 (by rw [h_]; rfl)
    (first | rw [c10b0] | (simp only [i64_w, i32_w]; rw [c10b0]) | skip)
    have H' := m_ H
    clear H
    go_wp2
    go_meet
    case rel => exact ⟨_, (y205), H', ⟨by have := HJ1.out; first | omega | exact Nat.le_refl _⟩, ⟨by (with_reducible repeat (first | apply r1_ | apply r2_ | apply r3_)); exact HO207.out⟩, ⟨by (with_reducible repeat (first | refine b1_ ?_ _ | refine b2_ ?_ | refine b3_ ?_ _)); exact BK204.out⟩, ⟨by repeat (with_reducible first | exact HB.out | apply l1_ | apply l2_ | apply l3_ | refine l4_ ?_ GE204.out)⟩⟩
   case rest =>
    clear HC6
    (try clear c1); (try clear c2); (try clear p2); (try clear c4); (try clear c5); (try clear c10); (try clear c10b0); (try clear c10b1); (try clear c10b2); (try clear c11); (try clear hcz4_0); (try clear hcz4_1); (try clear hcz4_2); (try clear hcz4_3); (try clear hcz9_0); (try clear hcz9_1); (try clear hcz9_2); (try clear hcz9_3); (try clear hfz4_0); (try clear hfz4_1); (try clear hfz4_2); (try clear hfz4_3); (try clear hfz9_0); (try clear hfz9_1); (try clear hfz9_2); (try clear hfz9_3); (try clear p2)
    obtain ⟨kq, x4_5, HA, HJ5, HO_4, BK204, HB⟩ := hcut
    cases kq with
    | zero => exact absurd HA.out (by simp [pattern_setRuns.j1])
    | succ kj5 =>
     have H := HA.out
     clear HA
     simp only [pattern_setRuns.j1] at H
     have H' := m_ H
     clear H
     have hcz16_0 : wc.cell? ⟨gb204, 0, none⟩ = some (.int .i64 a0_0) := (b5_ BK204.out 0).trans rfl
     have hcz16_1 : wc.cell? ⟨gb204, 1, none⟩ = some (.string a0_1) := (b5_ BK204.out 1).trans rfl
     have hcz16_2 : wc.cell? ⟨gb204, 2, none⟩ = some (.bool a0_2) := (b5_ BK204.out 2).trans rfl
     have hcz16_3 : wc.cell? ⟨gb204, 3, none⟩ = some (.slice A0_3 l0_3.length c0_3) := (b5_ BK204.out 3).trans rfl
     have hfz16_0 := f1_ BK204.out 0
     have hfz16_1 := f1_ BK204.out 1
     have hfz16_2 := f1_ BK204.out 2
     have hfz16_3 := f1_ BK204.out 3
     go_wp2
     go_loopg [4, 25] kj5 (fun kq v4 v25 w' => ∃ (x4_3 : List (S47)) (x25_3 : Int), v25 = .int .i64 x25_3 ∧ Aside0 (pattern_setRuns.l0 kq x4_3 l0_3 (l0_3.length : Int) x25_3 = some r) ∧ Aside0 (kq ≤ kj5) ∧ Aside0 (Kd.R k47 47 w' w.heap.size (fun _ => True) v4 x4_3) ∧ Aside0 (w'.heap[gb204]? = some (.cells #[.int .i64 a0_0, .string a0_1, .bool a0_2, (.slice A0_3 l0_3.length c0_3)] 35 (0, 0))) ∧ Aside0 (Below w.heap.size w w'))
     case atStart => exact ⟨(x4_5), (0), (by first | rfl | (simp; done) | (simp [*]; done)), H', ⟨Nat.le_refl _⟩, ⟨by (with_reducible repeat (first | apply r1_ | apply r2_ | apply r3_)); exact HO_4.out⟩, ⟨by (with_reducible repeat (first | refine b1_ ?_ _ | refine b2_ ?_ | refine b3_ ?_ _)); exact BK204.out⟩, ⟨by repeat (with_reducible first | exact HB.out | apply l1_ | apply l2_ | apply l3_ | refine l4_ ?_ GE204.out)⟩⟩
     case round =>
      clear H'
      (try clear c1); (try clear c2); (try clear p2); (try clear c4); (try clear c5); (try clear c10); (try clear c10b0); (try clear c10b1); (try clear c10b2); (try clear c11); (try clear hcz16_0); (try clear hcz16_1); (try clear hcz16_2); (try clear hcz16_3); (try clear hcz4_0); (try clear hcz4_1); (try clear hcz4_2); (try clear hcz4_3); (try clear hcz9_0); (try clear hcz9_1); (try clear hcz9_2); (try clear hcz9_3); (try clear hfz16_0); (try clear hfz16_1); (try clear hfz16_2); (try clear hfz16_3); (try clear hfz4_0); (try clear hfz4_1); (try clear hfz4_2); (try clear hfz4_3); (try clear hfz9_0); (try clear hfz9_1); (try clear hfz9_2); (try clear hfz9_3); (try clear p2)
      obtain ⟨x4_3, x25_3, rfl, HA, HK3, HO_4, BK204, HB⟩ := hrel
      cases gk with
      | zero => exact absurd HA.out (by simp [pattern_setRuns.l0])
      | succ k3 =>
       have H := HA.out
       clear HA
       simp only [pattern_setRuns.l0] at H
       by_cases c17 : x25_3 < (l0_3.length : Int)
       ·
        rw [if_pos c17] at H
        have c17b0 : decide (x25_3 < (l0_3.length : Int)) = true := decide_eq_true c17
        clear c17
        by_cases c18 : 0 ≤ x25_3
        ·
         rw [if_pos c18] at H
         have c18b0 : decide (0 ≤ x25_3) = true := decide_eq_true c18
         clear c18
         by_cases c19 : x25_3 < (l0_3.length : Int)
         ·
          rw [if_pos c19] at H
          have c19b0 : decide (x25_3 < (l0_3.length : Int)) = true := decide_eq_true c19
          clear c19
          obtain ⟨y216, hy216⟩ : ∃ y_ : List Int, y_ = (([(rd_T58 l0_3 x25_3).f0] : List Int)) := ⟨_, rfl⟩
          replace H : (if x4_3.length < 5864062014805 then ((some (x4_3 ++ [(⟨strOfNums y216, 1⟩ : S47)] : List (S47))).bind fun y219 => (if ((rd_T58 l0_3 x25_3).f1) > ((rd_T58 l0_3 x25_3).f0) then ((some (([(⟨(⟨#[45]⟩ : ByteArray), 0⟩ : S47), (⟨strOfNums (([(rd_T58 l0_3 x25_3).f1] : List Int)), 1⟩ : S47)] : List (S47)) : List (S47))).bind fun y225 => (if y219.length + y225.length < 5864062014805 then (pattern_setRuns.l0 k3 (y219 ++ y225) l0_3 (l0_3.length : Int) (wrap64 (x25_3 + 1))) else (none))) else (pattern_setRuns.l0 k3 y219 l0_3 (l0_3.length : Int) (wrap64 (x25_3 + 1))))) else (none)) = some r := by subst hy216; exact H
          have Ny216 := m_ hy216
          clear hy216
          by_cases c20 : x4_3.length < 5864062014805
          ·
           rw [if_pos c20] at H
           have LMc20 := m_ c20
           clear c20
           obtain ⟨y219, hy219⟩ : ∃ y_ : List (S47), y_ = (x4_3 ++ [(⟨strOfNums y216, 1⟩ : S47)]) := ⟨_, rfl⟩
           replace H : (if ((rd_T58 l0_3 x25_3).f1) > ((rd_T58 l0_3 x25_3).f0) then ((some (([(⟨(⟨#[45]⟩ : ByteArray), 0⟩ : S47), (⟨strOfNums (([(rd_T58 l0_3 x25_3).f1] : List Int)), 1⟩ : S47)] : List (S47)) : List (S47))).bind fun y225 => (if y219.length + y225.length < 5864062014805 then (pattern_setRuns.l0 k3 (y219 ++ y225) l0_3 (l0_3.length : Int) (wrap64 (x25_3 + 1))) else (none))) else (pattern_setRuns.l0 k3 y219 l0_3 (l0_3.length : Int) (wrap64 (x25_3 + 1)))) = some r := by subst hy219; exact H
           have Ny219 := m_ hy219
           clear hy219
           by_cases c21 : ((rd_T58 l0_3 x25_3).f1) > ((rd_T58 l0_3 x25_3).f0)
           ·
            rw [if_pos c21] at H
            have c21b0 : decide (((rd_T58 l0_3 x25_3).f0) < ((rd_T58 l0_3 x25_3).f1)) = true := decide_eq_true c21
            clear c21
            obtain ⟨y222, hy222⟩ : ∃ y_ : List Int, y_ = (([(rd_T58 l0_3 x25_3).f1] : List Int)) := ⟨_, rfl⟩
            replace H : ((some (([(⟨(⟨#[45]⟩ : ByteArray), 0⟩ : S47), (⟨strOfNums y222, 1⟩ : S47)] : List (S47)) : List (S47))).bind fun y225 => (if y219.length + y225.length < 5864062014805 then (pattern_setRuns.l0 k3 (y219 ++ y225) l0_3 (l0_3.length : Int) (wrap64 (x25_3 + 1))) else (none))) = some r := by subst hy222; exact H
            have Ny222 := m_ hy222
            clear hy222
            obtain ⟨y225, hy225⟩ : ∃ y_ : List (S47), y_ = (([(⟨(⟨#[45]⟩ : ByteArray), 0⟩ : S47), (⟨strOfNums y222, 1⟩ : S47)] : List (S47))) := ⟨_, rfl⟩
            replace H : (if y219.length + y225.length < 5864062014805 then (pattern_setRuns.l0 k3 (y219 ++ y225) l0_3 (l0_3.length : Int) (wrap64 (x25_3 + 1))) else (none)) = some r := by subst hy225; exact H
            have Ny225 := m_ hy225
            clear hy225
            by_cases c22 : y219.length + y225.length < 5864062014805
            ·
             rw [if_pos c22] at H
             have LMc22 := m_ c22
             clear c22
             obtain ⟨y228, hy228⟩ : ∃ y_ : List (S47), y_ = (y219 ++ y225) := ⟨_, rfl⟩
             replace H : (pattern_setRuns.l0 k3 y228 l0_3 (l0_3.length : Int) (wrap64 (x25_3 + 1))) = some r := by subst hy228; exact H
             have Ny228 := m_ hy228
             clear hy228
             have H' := m_ H
             clear H
             have p214 : 0 ≤ (x25_3 : Int) := o1_ (by with_reducible assumption)
             have q214 : x25_3 < (l0_3.length : Int) := o1_ (by with_reducible assumption)
             obtain ⟨ad214, e214, hx214_0, hx214_1⟩ := at_T58 HR0_3.out x25_3 p214 q214
             cases e214
             replace hx214_0 := (HB.out.cell (c1_ w _ hx214_0)).trans hx214_0
             replace hx214_1 := (HB.out.cell (c1_ w _ hx214_1)).trans hx214_1
             replace p214 := eq_true p214
             replace q214 := eq_true q214
             go_wp2_with (first | ((with_reducible refine gate_dst (N := 6) rfl ?_); refine box_event ?hg (N := 6) ?hd (cs := #[.int .u8 0, .int .u8 0]) (t := 58) ?hr ?_; (case hd => rfl); (case hg => rfl); (case hr => first | (go_simp; done) | (go_simp; rfl)); intro gb215 hg w23 hbox hb; replace HO_4 := m_ (Kd.R_below (by (with_reducible repeat (first | apply r1_ | apply r2_ | apply r3_)); exact HO_4.out) hb); have BK215 := m_ (hbox); have GW215 := m_ ((by rw [hg]; exact (l6_ (by repeat (with_reducible first | exact HB.out | apply l1_ | apply l2_ | apply l3_ | refine l4_ ?_ GE204.out))) : w.heap.size ≤ gb215)); have GE215 := m_ ((by rw [hg]; exact (l6_ (by repeat (with_reducible first | exact HB.out | apply l1_ | apply l2_ | apply l3_ | refine l4_ ?_ GE204.out))) : w.heap.size ≤ gb215)); replace HB := m_ (l5_ (by repeat (with_reducible first | exact HB.out | apply l1_ | apply l2_ | apply l3_ | refine l4_ ?_ GE204.out)) hb); have NB204_215 := m_ ((by rw [hg]; exact Nat.ne_of_lt (blk_lt (g := gb204) (o := .cells #[.int .i64 a0_0, .string a0_1, .bool a0_2, .slice (some ad214) l0_3.length c0_3] 35 (0, 0)) (by (with_reducible repeat (first | refine b1_ ?_ _ | refine b2_ ?_ | refine b3_ ?_ _)); exact BK204.out)) : gb204 ≠ gb215)); have NB215_204 := m_ ((by rw [hg]; exact Nat.ne_of_gt (blk_lt (g := gb204) (o := .cells #[.int .i64 a0_0, .string a0_1, .bool a0_2, .slice (some ad214) l0_3.length c0_3] 35 (0, 0)) (by (with_reducible repeat (first | refine b1_ ?_ _ | refine b2_ ?_ | refine b3_ ?_ _)); exact BK204.out)) : gb215 ≠ gb204)); replace BK204 := m_ (b4_ (g := gb204) (o := .cells #[.int .i64 a0_0, .string a0_1, .bool a0_2, .slice (some ad214) l0_3.length c0_3] 35 (0, 0)) (by (with_reducible repeat (first | refine b1_ ?_ _ | refine b2_ ?_ | refine b3_ ?_ _)); exact BK204.out) hb); clear hb hbox hg; have hnb24 := NB215_204.out; have hnc24 := NB204_215.out; have hcz25_0 : w23.cell? ⟨gb215, 0, none⟩ = some (.int .u8 0) := (b5_ BK215.out 0).trans rfl; have hcz25_1 : w23.cell? ⟨gb215, 1, none⟩ = some (.int .u8 0) := (b5_ BK215.out 1).trans rfl; have hfz25_0 := f1_ BK215.out 0; have hfz25_1 := f1_ BK215.out 1) | ((with_reducible refine gate_dst (N := 32) rfl ?_); refine Kd.R_lit (Kd.int .u8) _ 5 ?hg (N := 32) ?hd (xs := ([(rd_T58 l0_3 x25_3).f0] : List Int)) (inner := [.int .u8 ((rd_T58 l0_3 x25_3).f0)]) (ok := fun _ => True) (okp := fun _ => True) ?hr ?hp (fun _ hk => hk) trivial (Below.refl _ _) (Nat.le_refl _) (by simp) ?_; (case hd => rfl); (case hg => rfl); (case hr => first | (go_simp; done) | (go_simp; rfl)); (case hp => exact (Reps.one (show Kd.M (Kd.int .u8) _ _ _ ((rd_T58 l0_3 x25_3).f0) [.int .u8 ((rd_T58 l0_3 x25_3).f0)] from rfl) (Reps.none _ _))); intro v217 w26 ho27 hb hg_ hnew_; clear hg_ hnew_; (first | rw [← Ny216.out] at ho27 | (simp only [Int.reduceToNat] at ho27; rw [← Ny216.out] at ho27)); replace HO_4 := m_ (Kd.R_below (by (with_reducible repeat (first | apply r1_ | apply r2_ | apply r3_)); exact (Kd.R_mono (Kd.R_far (p := ⟨gb215, 1, none⟩) (Kd.R_far (p := ⟨gb215, 0, none⟩) (Kd.R_types HO_4.out BK215.out (by decide)) (fun _ hk => hk.2) (.int .u8 ((rd_T58 l0_3 x25_3).f0))) (fun _ hk => hk.2) (.int .u8 ((rd_T58 l0_3 x25_3).f1))) (fun _ h_ => h_.1))) hb); have HO218 := m_ (Kd.R_lower ho27 (l6_ (by repeat (with_reducible first | exact HB.out | apply l1_ | apply l2_ | apply l3_ | refine l4_ ?_ GE204.out | refine l4_ ?_ GE215.out)))); replace BK204 := m_ (b4_ (g := gb204) (o := .cells #[.int .i64 a0_0, .string a0_1, .bool a0_2, .slice (some ad214) l0_3.length c0_3] 35 (0, 0)) (by (with_reducible repeat (first | refine b1_ ?_ _ | refine b2_ ?_ | refine b3_ ?_ _)); refine blk_far ?_ NB204_215.out _; (with_reducible repeat (first | refine b1_ ?_ _ | refine b2_ ?_ | refine b3_ ?_ _)); refine blk_far ?_ NB204_215.out _; (with_reducible repeat (first | refine b1_ ?_ _ | refine b2_ ?_ | refine b3_ ?_ _)); exact BK204.out) hb); replace BK215 := m_ (b4_ (g := gb215) (o := .cells #[.int .u8 ((rd_T58 l0_3 x25_3).f0), .int .u8 ((rd_T58 l0_3 x25_3).f1)] 58 (0, 0)) (by (with_reducible repeat (first | refine b1_ ?_ _ | refine b2_ ?_ | refine b3_ ?_ _)); refine blk_put (cs := #[.int .u8 ((rd_T58 l0_3 x25_3).f0), .int .u8 0]) ?_ 1 _ rfl; (with_reducible repeat (first | refine b1_ ?_ _ | refine b2_ ?_ | refine b3_ ?_ _)); refine blk_put (cs := #[.int .u8 0, .int .u8 0]) ?_ 0 _ rfl; (with_reducible repeat (first | refine b1_ ?_ _ | refine b2_ ?_ | refine b3_ ?_ _)); exact BK215.out) hb); replace HB := m_ (l5_ (by repeat (with_reducible first | exact HB.out | apply l1_ | apply l2_ | apply l3_ | refine l4_ ?_ GE204.out | refine l4_ ?_ GE215.out)) hb); clear hb ho27; have hcv28 := own_string (P := Try.prog) Try.underlying52 Try.underlying5 Try.underlying9 (Kd.own_of_R HO218.out)) | ((with_reducible refine gate_builtin (b := .append) (xs := #[.tmp 29, .tmp 35]) rfl ?_); at_builtin; refine Kd.R_append k47 (w0 := w) w.heap.size rfl (.tmp 29) (.tmp 35) 22 47 (.agg #[(.string ⟨#[]⟩), (.int .i64 0)]) 24 rfl Try.underlying22 info47 rfl (by decide) (by omega) u4 x4_3 (⟨strOfNums y216, 1⟩ : S47) [.string (strOfNums y216), .int .i64 1] (fun _ => True) (fun _ => False) rfl rfl ?aP (fun _ hk => hk.elim) ?aF ?aO ?aB ?aS ?aL ?_; (case aP => exact k47_mkM _ _ _ (⟨strOfNums y216, 1⟩ : S47)); (case aB => exact (by repeat (with_reducible first | exact HB.out | apply l1_ | apply l2_ | apply l3_ | refine l4_ ?_ GE204.out | refine l4_ ?_ GE215.out))); (case aF => exact (fun _ _ => trivial)); (case aO => exact (by (with_reducible repeat (first | apply r1_ | apply r2_ | apply r3_)); exact HO_4.out)); (case aS => exact (l6_ (by repeat (with_reducible first | exact HB.out | apply l1_ | apply l2_ | apply l3_ | refine l4_ ?_ GE204.out | refine l4_ ?_ GE215.out)))); (case aL => have := LMc20.out; omega); intro v220 w29 ho hb hg hat; rw [← Ny219.out] at ho; replace BK204 := m_ (blk_grown (g := gb204) (o := .cells #[.int .i64 a0_0, .string a0_1, .bool a0_2, .slice (some ad214) l0_3.length c0_3] 35 (0, 0)) (by (with_reducible repeat (first | refine b1_ ?_ _ | refine b2_ ?_ | refine b3_ ?_ _)); exact BK204.out) hg (Kd.R_ne HO_4.out BK204.out (by decide))); replace BK215 := m_ (blk_grown (g := gb215) (o := .cells #[.int .u8 ((rd_T58 l0_3 x25_3).f0), .int .u8 ((rd_T58 l0_3 x25_3).f1)] 58 (0, 0)) (by (with_reducible repeat (first | refine b1_ ?_ _ | refine b2_ ?_ | refine b3_ ?_ _)); exact BK215.out) hg (Kd.R_ne HO_4.out BK215.out (by decide))); replace HO218 := m_ (Kd.R_over' (by (with_reducible repeat (first | apply r1_ | apply r2_ | apply r3_)); exact HO218.out) (Kd.R_typed (by (with_reducible repeat (first | apply r1_ | apply r2_ | apply r3_)); exact HO_4.out)) (by decide) hg); replace HB := m_ (hb); have HO221 := m_ (ho); clear HO_4; clear ho hb hg hat; have hcz30_0 : w29.cell? ⟨gb215, 0, none⟩ = some (.int .u8 ((rd_T58 l0_3 x25_3).f0)) := (b5_ BK215.out 0).trans rfl; have hcz30_1 : w29.cell? ⟨gb215, 1, none⟩ = some (.int .u8 ((rd_T58 l0_3 x25_3).f1)) := (b5_ BK215.out 1).trans rfl; have hfz30_0 := f1_ BK215.out 0; have hfz30_1 := f1_ BK215.out 1) | ((with_reducible refine gate_dst (N := 46) rfl ?_); refine Kd.R_lit (Kd.int .u8) _ 5 ?hg (N := 46) ?hd (xs := ([(rd_T58 l0_3 x25_3).f1] : List Int)) (inner := [.int .u8 ((rd_T58 l0_3 x25_3).f1)]) (ok := fun _ => True) (okp := fun _ => True) ?hr ?hp (fun _ hk => hk) trivial (Below.refl _ _) (Nat.le_refl _) (by simp) ?_; (case hd => rfl); (case hg => rfl); (case hr => first | (go_simp; done) | (go_simp; rfl)); (case hp => exact (Reps.one (show Kd.M (Kd.int .u8) _ _ _ ((rd_T58 l0_3 x25_3).f1) [.int .u8 ((rd_T58 l0_3 x25_3).f1)] from rfl) (Reps.none _ _))); intro v223 w31 ho32 hb hg_ hnew_; clear hg_ hnew_; (first | rw [← Ny222.out] at ho32 | (simp only [Int.reduceToNat] at ho32; rw [← Ny222.out] at ho32)); replace HO221 := m_ (Kd.R_below (by (with_reducible repeat (first | apply r1_ | apply r2_ | apply r3_)); exact HO221.out) hb); have HO224 := m_ (Kd.R_lower (Kd.R_new' ho32 (Kd.R_lt (by (with_reducible repeat (first | apply r1_ | apply r2_ | apply r3_)); exact HO218.out))) (l6_ (by repeat (with_reducible first | exact HB.out | apply l1_ | apply l2_ | apply l3_ | refine l4_ ?_ GE204.out | refine l4_ ?_ GE215.out)))); replace HO218 := m_ (Kd.R_elder' (by (with_reducible repeat (first | apply r1_ | apply r2_ | apply r3_)); exact HO218.out) (Kd.R_base ho32) hb); replace BK204 := m_ (b4_ (g := gb204) (o := .cells #[.int .i64 a0_0, .string a0_1, .bool a0_2, .slice (some ad214) l0_3.length c0_3] 35 (0, 0)) (by (with_reducible repeat (first | refine b1_ ?_ _ | refine b2_ ?_ | refine b3_ ?_ _)); exact BK204.out) hb); replace BK215 := m_ (b4_ (g := gb215) (o := .cells #[.int .u8 ((rd_T58 l0_3 x25_3).f0), .int .u8 ((rd_T58 l0_3 x25_3).f1)] 58 (0, 0)) (by (with_reducible repeat (first | refine b1_ ?_ _ | refine b2_ ?_ | refine b3_ ?_ _)); exact BK215.out) hb); replace HB := m_ (l5_ (by repeat (with_reducible first | exact HB.out | apply l1_ | apply l2_ | apply l3_ | refine l4_ ?_ GE204.out | refine l4_ ?_ GE215.out)) hb); clear hb ho32; have hcv33 := own_string (P := Try.prog) Try.underlying52 Try.underlying5 Try.underlying9 (Kd.own_of_R HO224.out)) | ((with_reducible refine gate_dst (N := 49) rfl ?_); refine Kd.R_lit k47 _ 47 ?hg (N := 49) ?hd (xs := ([(⟨(⟨#[45]⟩ : ByteArray), 0⟩ : S47), (⟨strOfNums y222, 1⟩ : S47)] : List (S47))) (inner := [.string (⟨#[45]⟩ : ByteArray), .int .i64 0, .string (strOfNums y222), .int .i64 1]) (ok := fun _ => True) (okp := fun _ => True) ?hr ?hp (fun _ hk => hk) trivial (Below.refl _ _) (Nat.le_refl _) (by simp) ?_; (case hd => rfl); (case hg => rfl); (case hr => first | (go_simp; done) | (go_simp; rfl)); (case hp => exact (Reps.c2 (show Kd.M k47 _ _ _ (⟨(⟨#[45]⟩ : ByteArray), 0⟩ : S47) [.string (⟨#[45]⟩ : ByteArray), .int .i64 0] from (k47_mkM _ _ _ (⟨(⟨#[45]⟩ : ByteArray), 0⟩ : S47) )) (Reps.c2 (show Kd.M k47 _ _ _ (⟨strOfNums y222, 1⟩ : S47) [.string (strOfNums y222), .int .i64 1] from (k47_mkM _ _ _ (⟨strOfNums y222, 1⟩ : S47) )) (Reps.none _ _)))); intro v226 w34 ho35 hb hg_ hnew_; clear hg_ hnew_; (first | rw [← Ny225.out] at ho35 | (simp only [Int.reduceToNat] at ho35; rw [← Ny225.out] at ho35)); replace HO218 := m_ (Kd.R_below (by (with_reducible repeat (first | apply r1_ | apply r2_ | apply r3_)); exact HO218.out) hb); replace HO224 := m_ (Kd.R_below (by (with_reducible repeat (first | apply r1_ | apply r2_ | apply r3_)); exact HO224.out) hb); have HO227 := m_ (Kd.R_lower (Kd.R_new' ho35 (Kd.R_lt (by (with_reducible repeat (first | apply r1_ | apply r2_ | apply r3_)); exact HO221.out))) (l6_ (by repeat (with_reducible first | exact HB.out | apply l1_ | apply l2_ | apply l3_ | refine l4_ ?_ GE204.out | refine l4_ ?_ GE215.out)))); replace HO221 := m_ (Kd.R_elder' (by (with_reducible repeat (first | apply r1_ | apply r2_ | apply r3_)); exact HO221.out) (Kd.R_base ho35) hb); replace BK204 := m_ (b4_ (g := gb204) (o := .cells #[.int .i64 a0_0, .string a0_1, .bool a0_2, .slice (some ad214) l0_3.length c0_3] 35 (0, 0)) (by (with_reducible repeat (first | refine b1_ ?_ _ | refine b2_ ?_ | refine b3_ ?_ _)); exact BK204.out) hb); replace BK215 := m_ (b4_ (g := gb215) (o := .cells #[.int .u8 ((rd_T58 l0_3 x25_3).f0), .int .u8 ((rd_T58 l0_3 x25_3).f1)] 58 (0, 0)) (by (with_reducible repeat (first | refine b1_ ?_ _ | refine b2_ ?_ | refine b3_ ?_ _)); exact BK215.out) hb); replace HB := m_ (l5_ (by repeat (with_reducible first | exact HB.out | apply l1_ | apply l2_ | apply l3_ | refine l4_ ?_ GE204.out | refine l4_ ?_ GE215.out)) hb); clear hb ho35; obtain ⟨Ao37, co37, eo37⟩ := Kd.R_slice HO227.out; subst eo37) | ((with_reducible refine gate_builtin (b := .append) (xs := #[.tmp 42, .tmp 49]) rfl ?_); at_builtin; refine Kd.R_append_rows k47 (w0 := w) w.heap.size rfl (.tmp 42) (.tmp 49) 22 47 (.agg #[(.string ⟨#[]⟩), (.int .i64 0)]) 24 rfl Try.underlying22 info47 rfl (by decide) (by omega) v220 y219 y225 _ _ _ (fun k_ => some k_ ≠ (.slice Ao37 y225.length co37 : Value).ownBlock) (fun _ => False) rfl rfl ?aO ?aR (fun _ _ h => h) (fun _ h => h.elim) ?aF ?aB ?aS ?aL ?_; (case aR => repeat (first | exact (Kd.R_reads' HO227.out).2.2 | (with_reducible refine Kd.C_alloc ?_ _) | (with_reducible refine Kd.C_drewN ?_ _) | (with_reducible refine Kd.C_drew ?_))); (case aB => exact (by repeat (with_reducible first | exact HB.out | apply l1_ | apply l2_ | apply l3_ | refine l4_ ?_ GE204.out | refine l4_ ?_ GE215.out))); (case aF => exact (fun k_ hk => Kd.fresh' (Kd.R_lt (by (with_reducible repeat (first | apply r1_ | apply r2_ | apply r3_)); exact HO227.out)) k_ hk)); (case aO => exact (by (with_reducible repeat (first | apply r1_ | apply r2_ | apply r3_)); exact Kd.R_mono HO221.out (fun _ hk => hk.2))); (case aS => exact (l6_ (by repeat (with_reducible first | exact HB.out | apply l1_ | apply l2_ | apply l3_ | refine l4_ ?_ GE204.out | refine l4_ ?_ GE215.out)))); (case aL => have := LMc22.out; omega); intro v229 w36 ho hb hg hat; rw [← Ny228.out] at ho; replace BK204 := m_ (blk_grown (g := gb204) (o := .cells #[.int .i64 a0_0, .string a0_1, .bool a0_2, .slice (some ad214) l0_3.length c0_3] 35 (0, 0)) (by (with_reducible repeat (first | refine b1_ ?_ _ | refine b2_ ?_ | refine b3_ ?_ _)); exact BK204.out) hg (Kd.R_ne HO221.out BK204.out (by decide))); replace BK215 := m_ (blk_grown (g := gb215) (o := .cells #[.int .u8 ((rd_T58 l0_3 x25_3).f0), .int .u8 ((rd_T58 l0_3 x25_3).f1)] 58 (0, 0)) (by (with_reducible repeat (first | refine b1_ ?_ _ | refine b2_ ?_ | refine b3_ ?_ _)); exact BK215.out) hg (Kd.R_ne HO221.out BK215.out (by decide))); replace HO218 := m_ (Kd.R_over' (by (with_reducible repeat (first | apply r1_ | apply r2_ | apply r3_)); exact HO218.out) (Kd.R_typed (by (with_reducible repeat (first | apply r1_ | apply r2_ | apply r3_)); exact HO221.out)) (by decide) hg); replace HO224 := m_ (Kd.R_over' (by (with_reducible repeat (first | apply r1_ | apply r2_ | apply r3_)); exact HO224.out) (Kd.R_typed (by (with_reducible repeat (first | apply r1_ | apply r2_ | apply r3_)); exact HO221.out)) (by decide) hg); replace HO227 := m_ (Kd.R_after (ok := (fun _ => True)) (by (with_reducible repeat (first | apply r1_ | apply r2_ | apply r3_)); exact HO227.out) hg hat); replace HB := m_ (hb); have HO230 := m_ (ho); clear HO221; clear ho hb hg hat))
             go_roundg k3
             case measure => have := HJ1.out; have := HJ5.out; have := HK3.out; omega
             case rel => exact ⟨(y228), (wrap64 (x25_3 + 1)), (by first | rfl | (simp; done) | (simp [*]; done)), H', ⟨by have := HJ1.out; have := HJ5.out; have := HK3.out; omega⟩, ⟨by (with_reducible repeat (first | apply r1_ | apply r2_ | apply r3_)); exact Kd.R_mono HO230.out (fun _ hk => trivial)⟩, ⟨by (with_reducible repeat (first | refine b1_ ?_ _ | refine b2_ ?_ | refine b3_ ?_ _)); exact BK204.out⟩, ⟨by repeat (with_reducible first | exact HB.out | apply l1_ | apply l2_ | apply l3_ | refine l4_ ?_ GE204.out | refine l4_ ?_ GE215.out)⟩⟩
            rw [if_neg c22] at H
            exact absurd H (by simp)
           rw [if_neg c21] at H
           have c21b0 : decide (((rd_T58 l0_3 x25_3).f0) < ((rd_T58 l0_3 x25_3).f1)) = false := decide_eq_false c21
           clear c21
           have H' := m_ H
           clear H
           have p214 : 0 ≤ (x25_3 : Int) := o1_ (by with_reducible assumption)
           have q214 : x25_3 < (l0_3.length : Int) := o1_ (by with_reducible assumption)
           obtain ⟨ad214, e214, hx214_0, hx214_1⟩ := at_T58 HR0_3.out x25_3 p214 q214
           cases e214
           replace hx214_0 := (HB.out.cell (c1_ w _ hx214_0)).trans hx214_0
           replace hx214_1 := (HB.out.cell (c1_ w _ hx214_1)).trans hx214_1
           replace p214 := eq_true p214
           replace q214 := eq_true q214
           go_wp2_with (first | ((with_reducible refine gate_dst (N := 6) rfl ?_); refine box_event ?hg (N := 6) ?hd (cs := #[.int .u8 0, .int .u8 0]) (t := 58) ?hr ?_; (case hd => rfl); (case hg => rfl); (case hr => first | (go_simp; done) | (go_simp; rfl)); intro gb215 hg w38 hbox hb; replace HO_4 := m_ (Kd.R_below (by (with_reducible repeat (first | apply r1_ | apply r2_ | apply r3_)); exact HO_4.out) hb); have BK215 := m_ (hbox); have GW215 := m_ ((by rw [hg]; exact (l6_ (by repeat (with_reducible first | exact HB.out | apply l1_ | apply l2_ | apply l3_ | refine l4_ ?_ GE204.out))) : w.heap.size ≤ gb215)); have GE215 := m_ ((by rw [hg]; exact (l6_ (by repeat (with_reducible first | exact HB.out | apply l1_ | apply l2_ | apply l3_ | refine l4_ ?_ GE204.out))) : w.heap.size ≤ gb215)); replace HB := m_ (l5_ (by repeat (with_reducible first | exact HB.out | apply l1_ | apply l2_ | apply l3_ | refine l4_ ?_ GE204.out)) hb); have NB204_215 := m_ ((by rw [hg]; exact Nat.ne_of_lt (blk_lt (g := gb204) (o := .cells #[.int .i64 a0_0, .string a0_1, .bool a0_2, .slice (some ad214) l0_3.length c0_3] 35 (0, 0)) (by (with_reducible repeat (first | refine b1_ ?_ _ | refine b2_ ?_ | refine b3_ ?_ _)); exact BK204.out)) : gb204 ≠ gb215)); have NB215_204 := m_ ((by rw [hg]; exact Nat.ne_of_gt (blk_lt (g := gb204) (o := .cells #[.int .i64 a0_0, .string a0_1, .bool a0_2, .slice (some ad214) l0_3.length c0_3] 35 (0, 0)) (by (with_reducible repeat (first | refine b1_ ?_ _ | refine b2_ ?_ | refine b3_ ?_ _)); exact BK204.out)) : gb215 ≠ gb204)); replace BK204 := m_ (b4_ (g := gb204) (o := .cells #[.int .i64 a0_0, .string a0_1, .bool a0_2, .slice (some ad214) l0_3.length c0_3] 35 (0, 0)) (by (with_reducible repeat (first | refine b1_ ?_ _ | refine b2_ ?_ | refine b3_ ?_ _)); exact BK204.out) hb); clear hb hbox hg; have hnb39 := NB215_204.out; have hnc39 := NB204_215.out; have hcz40_0 : w38.cell? ⟨gb215, 0, none⟩ = some (.int .u8 0) := (b5_ BK215.out 0).trans rfl; have hcz40_1 : w38.cell? ⟨gb215, 1, none⟩ = some (.int .u8 0) := (b5_ BK215.out 1).trans rfl; have hfz40_0 := f1_ BK215.out 0; have hfz40_1 := f1_ BK215.out 1) | ((with_reducible refine gate_dst (N := 32) rfl ?_); refine Kd.R_lit (Kd.int .u8) _ 5 ?hg (N := 32) ?hd (xs := ([(rd_T58 l0_3 x25_3).f0] : List Int)) (inner := [.int .u8 ((rd_T58 l0_3 x25_3).f0)]) (ok := fun _ => True) (okp := fun _ => True) ?hr ?hp (fun _ hk => hk) trivial (Below.refl _ _) (Nat.le_refl _) (by simp) ?_; (case hd => rfl); (case hg => rfl); (case hr => first | (go_simp; done) | (go_simp; rfl)); (case hp => exact (Reps.one (show Kd.M (Kd.int .u8) _ _ _ ((rd_T58 l0_3 x25_3).f0) [.int .u8 ((rd_T58 l0_3 x25_3).f0)] from rfl) (Reps.none _ _))); intro v217 w41 ho42 hb hg_ hnew_; clear hg_ hnew_; (first | rw [← Ny216.out] at ho42 | (simp only [Int.reduceToNat] at ho42; rw [← Ny216.out] at ho42)); replace HO_4 := m_ (Kd.R_below (by (with_reducible repeat (first | apply r1_ | apply r2_ | apply r3_)); exact (Kd.R_mono (Kd.R_far (p := ⟨gb215, 1, none⟩) (Kd.R_far (p := ⟨gb215, 0, none⟩) (Kd.R_types HO_4.out BK215.out (by decide)) (fun _ hk => hk.2) (.int .u8 ((rd_T58 l0_3 x25_3).f0))) (fun _ hk => hk.2) (.int .u8 ((rd_T58 l0_3 x25_3).f1))) (fun _ h_ => h_.1))) hb); have HO218 := m_ (Kd.R_lower ho42 (l6_ (by repeat (with_reducible first | exact HB.out | apply l1_ | apply l2_ | apply l3_ | refine l4_ ?_ GE204.out | refine l4_ ?_ GE215.out)))); replace BK204 := m_ (b4_ (g := gb204) (o := .cells #[.int .i64 a0_0, .string a0_1, .bool a0_2, .slice (some ad214) l0_3.length c0_3] 35 (0, 0)) (by (with_reducible repeat (first | refine b1_ ?_ _ | refine b2_ ?_ | refine b3_ ?_ _)); refine blk_far ?_ NB204_215.out _; (with_reducible repeat (first | refine b1_ ?_ _ | refine b2_ ?_ | refine b3_ ?_ _)); refine blk_far ?_ NB204_215.out _; (with_reducible repeat (first | refine b1_ ?_ _ | refine b2_ ?_ | refine b3_ ?_ _)); exact BK204.out) hb); replace BK215 := m_ (b4_ (g := gb215) (o := .cells #[.int .u8 ((rd_T58 l0_3 x25_3).f0), .int .u8 ((rd_T58 l0_3 x25_3).f1)] 58 (0, 0)) (by (with_reducible repeat (first | refine b1_ ?_ _ | refine b2_ ?_ | refine b3_ ?_ _)); refine blk_put (cs := #[.int .u8 ((rd_T58 l0_3 x25_3).f0), .int .u8 0]) ?_ 1 _ rfl; (with_reducible repeat (first | refine b1_ ?_ _ | refine b2_ ?_ | refine b3_ ?_ _)); refine blk_put (cs := #[.int .u8 0, .int .u8 0]) ?_ 0 _ rfl; (with_reducible repeat (first | refine b1_ ?_ _ | refine b2_ ?_ | refine b3_ ?_ _)); exact BK215.out) hb); replace HB := m_ (l5_ (by repeat (with_reducible first | exact HB.out | apply l1_ | apply l2_ | apply l3_ | refine l4_ ?_ GE204.out | refine l4_ ?_ GE215.out)) hb); clear hb ho42; have hcv43 := own_string (P := Try.prog) Try.underlying52 Try.underlying5 Try.underlying9 (Kd.own_of_R HO218.out)) | ((with_reducible refine gate_builtin (b := .append) (xs := #[.tmp 29, .tmp 35]) rfl ?_); at_builtin; refine Kd.R_append k47 (w0 := w) w.heap.size rfl (.tmp 29) (.tmp 35) 22 47 (.agg #[(.string ⟨#[]⟩), (.int .i64 0)]) 24 rfl Try.underlying22 info47 rfl (by decide) (by omega) u4 x4_3 (⟨strOfNums y216, 1⟩ : S47) [.string (strOfNums y216), .int .i64 1] (fun _ => True) (fun _ => False) rfl rfl ?aP (fun _ hk => hk.elim) ?aF ?aO ?aB ?aS ?aL ?_; (case aP => exact k47_mkM _ _ _ (⟨strOfNums y216, 1⟩ : S47)); (case aB => exact (by repeat (with_reducible first | exact HB.out | apply l1_ | apply l2_ | apply l3_ | refine l4_ ?_ GE204.out | refine l4_ ?_ GE215.out))); (case aF => exact (fun _ _ => trivial)); (case aO => exact (by (with_reducible repeat (first | apply r1_ | apply r2_ | apply r3_)); exact HO_4.out)); (case aS => exact (l6_ (by repeat (with_reducible first | exact HB.out | apply l1_ | apply l2_ | apply l3_ | refine l4_ ?_ GE204.out | refine l4_ ?_ GE215.out)))); (case aL => have := LMc20.out; omega); intro v220 w44 ho hb hg hat; rw [← Ny219.out] at ho; replace BK204 := m_ (blk_grown (g := gb204) (o := .cells #[.int .i64 a0_0, .string a0_1, .bool a0_2, .slice (some ad214) l0_3.length c0_3] 35 (0, 0)) (by (with_reducible repeat (first | refine b1_ ?_ _ | refine b2_ ?_ | refine b3_ ?_ _)); exact BK204.out) hg (Kd.R_ne HO_4.out BK204.out (by decide))); replace BK215 := m_ (blk_grown (g := gb215) (o := .cells #[.int .u8 ((rd_T58 l0_3 x25_3).f0), .int .u8 ((rd_T58 l0_3 x25_3).f1)] 58 (0, 0)) (by (with_reducible repeat (first | refine b1_ ?_ _ | refine b2_ ?_ | refine b3_ ?_ _)); exact BK215.out) hg (Kd.R_ne HO_4.out BK215.out (by decide))); replace HO218 := m_ (Kd.R_over' (by (with_reducible repeat (first | apply r1_ | apply r2_ | apply r3_)); exact HO218.out) (Kd.R_typed (by (with_reducible repeat (first | apply r1_ | apply r2_ | apply r3_)); exact HO_4.out)) (by decide) hg); replace HB := m_ (hb); have HO221 := m_ (ho); clear HO_4; clear ho hb hg hat; have hcz45_0 : w44.cell? ⟨gb215, 0, none⟩ = some (.int .u8 ((rd_T58 l0_3 x25_3).f0)) := (b5_ BK215.out 0).trans rfl; have hcz45_1 : w44.cell? ⟨gb215, 1, none⟩ = some (.int .u8 ((rd_T58 l0_3 x25_3).f1)) := (b5_ BK215.out 1).trans rfl; have hfz45_0 := f1_ BK215.out 0; have hfz45_1 := f1_ BK215.out 1))
           go_roundg k3
           case measure => have := HJ1.out; have := HJ5.out; have := HK3.out; omega
           case rel => exact ⟨(y219), (wrap64 (x25_3 + 1)), (by first | rfl | (simp; done) | (simp [*]; done)), H', ⟨by have := HJ1.out; have := HJ5.out; have := HK3.out; omega⟩, ⟨by (with_reducible repeat (first | apply r1_ | apply r2_ | apply r3_)); exact HO221.out⟩, ⟨by (with_reducible repeat (first | refine b1_ ?_ _ | refine b2_ ?_ | refine b3_ ?_ _)); exact BK204.out⟩, ⟨by repeat (with_reducible first | exact HB.out | apply l1_ | apply l2_ | apply l3_ | refine l4_ ?_ GE204.out | refine l4_ ?_ GE215.out)⟩⟩
          rw [if_neg c20] at H
          exact absurd H (by simp)
         rw [if_neg c19] at H
         exact absurd H (by simp)
        rw [if_neg c18] at H
        exact absurd H (by simp)
       rw [if_neg c17] at H
       have c17b0 : decide (x25_3 < (l0_3.length : Int)) = false := decide_eq_false c17
       clear c17
       by_cases c46 : x4_3.length < 5864062014805
       ·
        rw [if_pos c46] at H
        have LMc46 := m_ c46
        clear c46
        obtain ⟨y231, hy231⟩ : ∃ y_ : List (S47), y_ = (x4_3 ++ [(⟨(⟨#[93]⟩ : ByteArray), 0⟩ : S47)]) := ⟨_, rfl⟩
        replace H : (some y231) = some r := by subst hy231; exact H
        have Ny231 := m_ hy231
        clear hy231
        obtain rfl := Option.some.inj H
        go_wp2_with (first | ((with_reducible refine gate_builtin (b := .append) (xs := #[.tmp 52, .tmp 54]) rfl ?_); at_builtin; refine Kd.R_append k47 (w0 := w) w.heap.size rfl (.tmp 52) (.tmp 54) 22 47 (.agg #[(.string ⟨#[]⟩), (.int .i64 0)]) 24 rfl Try.underlying22 info47 rfl (by decide) (by omega) u4 x4_3 (⟨(⟨#[93]⟩ : ByteArray), 0⟩ : S47) [.string (⟨#[93]⟩ : ByteArray), .int .i64 0] (fun _ => True) (fun _ => False) rfl rfl ?aP (fun _ hk => hk.elim) ?aF ?aO ?aB ?aS ?aL ?_; (case aP => exact k47_mkM _ _ _ (⟨(⟨#[93]⟩ : ByteArray), 0⟩ : S47)); (case aB => exact (by repeat (with_reducible first | exact HB.out | apply l1_ | apply l2_ | apply l3_ | refine l4_ ?_ GE204.out))); (case aF => exact (fun _ _ => trivial)); (case aO => exact (by (with_reducible repeat (first | apply r1_ | apply r2_ | apply r3_)); exact HO_4.out)); (case aS => exact (l6_ (by repeat (with_reducible first | exact HB.out | apply l1_ | apply l2_ | apply l3_ | refine l4_ ?_ GE204.out)))); (case aL => have := LMc46.out; omega); intro v232 w47 ho hb hg hat; rw [← Ny231.out] at ho; replace BK204 := m_ (blk_grown (g := gb204) (o := .cells #[.int .i64 a0_0, .string a0_1, .bool a0_2, .slice A0_3 l0_3.length c0_3] 35 (0, 0)) (by (with_reducible repeat (first | refine b1_ ?_ _ | refine b2_ ?_ | refine b3_ ?_ _)); exact BK204.out) hg (Kd.R_ne HO_4.out BK204.out (by decide))); replace HB := m_ (hb); have HO233 := m_ (ho); clear HO_4; clear ho hb hg hat))
        go_ret
        exact ⟨_, by first | rfl | (simp [errW_none, errW_some] <;> rfl) | (simp [*, errW_none, errW_some] <;> rfl), by (with_reducible repeat (first | apply r1_ | apply r2_ | apply r3_)); exact HO233.out, by repeat (with_reducible first | exact HB.out | apply l1_ | apply l2_ | apply l3_ | refine l4_ ?_ GE204.out)⟩
       rw [if_neg c46] at H
       exact absurd H (by simp)
end Go.Proofs.Ytbekhjcnmifnnaa.Q
