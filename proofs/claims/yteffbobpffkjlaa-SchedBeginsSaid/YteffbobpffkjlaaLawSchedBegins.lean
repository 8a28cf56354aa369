/- The law SchedBegins for every input: the row out of the printed function's contract and the pure statement (YteffbobpffkjlaaPureSchedBegins). Conditions: none beyond the row's own. Written by a program of this session's (wip/fork/rowgen.py). -/
import Derived.Test.YteffbobpffkjlaaRows
import Derived.Test.YteffbobpffkjlaaQ19
import Derived.Test.YteffbobpffkjlaaTold
import Derived.Test.YteffbobpffkjlaaPureSchedBegins
import Derived.WalkKit
import Derived.ProofKit
import Derived.OpenShut
import Derived.ShutString
import Derived.ChangeOld
import Derived.Below
import Derived.SizedLaws
namespace Go.Proofs.Yteffbobpffkjlaa.schedBegins
open Go.ChangeShapes Go.WideShapes Go.ChangeAt Go.RowKit Go.Proofs.YteffbobpffkjlaaW.PrintWords Go.Proofs.Yteffbobpffkjlaa.Told Go.Proofs.Yteffbobpffkjlaa.Q
open Go.ChangeMaps (open_string shut_string)
set_option linter.unusedVariables false
theorem own : ownKnob Try.prog.godebug = none := by kernel_rfl
theorem laidOut : laidOutB Try.prog = true := by kernel_rfl
set_option maxHeartbeats 1000000 in
set_option maxRecDepth 100000 in
theorem lifted (os : Os) (started : os.Started) (H : Type) (enc : TypeId × Value → H) :
    ReturnsInHanded {} Try.checked os 7 .any (Rows.schedBeginsSpec.pre6 enc Try.prog Try.f7 Rows.schedBeginsRow.domain false) (Rows.schedBeginsSpec.post enc Try.prog Try.f7 false true false false) := by
  refine returnsInHanded_of_change_sized (C := Try.checked) own started (by kernel_rfl) Try.func7
    (ChangeSpec.witness6 (enc := enc) (C := Try.checked) false ⟨#[], #[.slice none 0 0, .slice none 0 0, .slice none 0 0, .int .i64 0], []⟩ 8 (by kernel_rfl) (by kernel_rfl) (by kernel_rfl) (by kernel_rfl)) ?_
  intro W base args ds gs before hval0 hW hcnd hsz0 _
  have hsz : (DataW.weightsEach Try.prog (Try.f7.params.toList ++ Rows.schedBeginsSpec.plain.varTypes Try.prog) (ds ++ gs)).all (· ≤ reachBytes) = true := hsz0
  have hval : ∀ (j : Nat) t v, Try.f7.params[j]? = some t → args[j]? = some v → Value.okWide Try.prog W .any base t v := hval0
  have hW' := hW
  obtain ⟨p, q, hA0, hV, rfl, hfz, hnd⟩ := hW
  have hA : DataW.TrodAll enc Try.prog W 0 (fun _ => true) true Try.f7.params.toList args.toList ds p := hA0
  rw [Try.params7] at hA hval hsz
  obtain ⟨v0, vs0, d0, ds0, p0, q0, hargs, rfl, rfl, h0, r0⟩ := trodAll_cons hA
  obtain ⟨v1, vs1, d1, ds1, p1, q1, rfl, rfl, rfl, h1, r1⟩ := trodAll_cons r0
  obtain ⟨v2, vs2, d2, ds2, p2, q2, rfl, rfl, rfl, h2, r2⟩ := trodAll_cons r1
  obtain ⟨v3, vs3, d3, ds3, p3, q3, rfl, rfl, rfl, h3, r3⟩ := trodAll_cons r2
  obtain ⟨rfl, rfl, rfl⟩ := trodAll_nil r3
  obtain rfl : args = #[v0, v1, v2, v3] := by cases args; simp_all
  obtain ⟨rfl, rfl⟩ := trodVars_none hV
  have told0 : Go.Proofs.Yteffbobpffkjlaa.Told.Told Try.prog 23 _ _ := (told_slice 8 Try.underlying23 (by kernel_rfl) (by kernel_rfl) (told_int Try.underlying3))
  have k0 := h0
  have lt0 : ∀ x ∈ p0, x.block < W.heap.size := by obtain ⟨m, hm⟩ := k0; exact DataW.trod_lt m _ _ _ hm
  have wt0 : ∀ m ∈ d0.weights Try.prog 23, m ≤ reachBytes := fun m hm => by simpa using List.all_eq_true.1 hsz m (DataW.weights_mem_each (j := 0) (t := 23) (d := d0) rfl rfl m hm)
  obtain ⟨z0, len0, cap0, rfl⟩ := okWide_slice Try.underlying23 (hval 0 23 v0 rfl rfl)
  obtain ⟨fuel0, hf0⟩ := h0
  rw [show (Value.slice z0 len0 cap0).cells.toList = [.slice z0 len0 cap0] by simp [Value.cells]] at hf0
  obtain ⟨l0, ⟨A0, c0, e0, hc0, hr0⟩, G0⟩ := told0 H enc W _ _ fuel0 _ _ hf0 wt0
  obtain ⟨rfl, rfl, rfl⟩ : z0 = A0 ∧ len0 = l0.length ∧ cap0 = c0 := by simpa using e0
  clear hf0 e0
  have told1 : Go.Proofs.Yteffbobpffkjlaa.Told.Told Try.prog 23 _ _ := (told_slice 8 Try.underlying23 (by kernel_rfl) (by kernel_rfl) (told_int Try.underlying3))
  have k1 := h1
  have lt1 : ∀ x ∈ p1, x.block < W.heap.size := by obtain ⟨m, hm⟩ := k1; exact DataW.trod_lt m _ _ _ hm
  have wt1 : ∀ m ∈ d1.weights Try.prog 23, m ≤ reachBytes := fun m hm => by simpa using List.all_eq_true.1 hsz m (DataW.weights_mem_each (j := 1) (t := 23) (d := d1) rfl rfl m hm)
  obtain ⟨z1, len1, cap1, rfl⟩ := okWide_slice Try.underlying23 (hval 1 23 v1 rfl rfl)
  obtain ⟨fuel1, hf1⟩ := h1
  rw [show (Value.slice z1 len1 cap1).cells.toList = [.slice z1 len1 cap1] by simp [Value.cells]] at hf1
  obtain ⟨l1, ⟨A1, c1, e1, hc1, hr1⟩, G1⟩ := told1 H enc W _ _ fuel1 _ _ hf1 wt1
  obtain ⟨rfl, rfl, rfl⟩ : z1 = A1 ∧ len1 = l1.length ∧ cap1 = c1 := by simpa using e1
  clear hf1 e1
  have told2 : Go.Proofs.Yteffbobpffkjlaa.Told.Told Try.prog 23 _ _ := (told_slice 8 Try.underlying23 (by kernel_rfl) (by kernel_rfl) (told_int Try.underlying3))
  have k2 := h2
  have lt2 : ∀ x ∈ p2, x.block < W.heap.size := by obtain ⟨m, hm⟩ := k2; exact DataW.trod_lt m _ _ _ hm
  have wt2 : ∀ m ∈ d2.weights Try.prog 23, m ≤ reachBytes := fun m hm => by simpa using List.all_eq_true.1 hsz m (DataW.weights_mem_each (j := 2) (t := 23) (d := d2) rfl rfl m hm)
  obtain ⟨z2, len2, cap2, rfl⟩ := okWide_slice Try.underlying23 (hval 2 23 v2 rfl rfl)
  obtain ⟨fuel2, hf2⟩ := h2
  rw [show (Value.slice z2 len2 cap2).cells.toList = [.slice z2 len2 cap2] by simp [Value.cells]] at hf2
  obtain ⟨l2, ⟨A2, c2, e2, hc2, hr2⟩, G2⟩ := told2 H enc W _ _ fuel2 _ _ hf2 wt2
  obtain ⟨rfl, rfl, rfl⟩ : z2 = A2 ∧ len2 = l2.length ∧ cap2 = c2 := by simpa using e2
  clear hf2 e2
  obtain ⟨a3, rfl, rfl, rfl, w3⟩ := open_int Try.underlying3 (hval 3 3 v3 rfl rfl) h3
  clear hA0 hval0 hsz0 hsz
  obtain ⟨kk, hk⟩ := Pure.SchedBegins l0 l1 l2 a3 G0 G1 G2 w3
  refine (jobshelllaw32_SchedBegins.calls kk (fun k_ => k_ < W.heap.size) z0 cap0 l0 z1 cap1 l1 z2 cap2 l2 a3 true W (Kd.V_mk hc0 (Kd.C_F (Kd.heap_int .i64) hr0)) hr1 hc1 hr2 hc2 hk).mono fun e W' ⟨he, bel0⟩ => ?_
  have bel : Below W.heap.size W W' := bel0
  subst he
  exact ⟨_, rfl, _, _, _, [], _, [], hW', trodAll_mk1 (shut_bool Try.underlying4 _), (trodAll_cons_mk (Below.trod laidOut (by kernel_rfl) (of_decide_eq_true (by kernel_rfl)) k0 bel lt0) (trodAll_cons_mk (Below.trod laidOut (by kernel_rfl) (of_decide_eq_true (by kernel_rfl)) k1 bel lt1) (trodAll_cons_mk (Below.trod laidOut (by kernel_rfl) (of_decide_eq_true (by kernel_rfl)) k2 bel lt2) (trodAll_cons_mk (shut_int Try.underlying3 w3) trodAll_mk0)))), rfl, bel.frame _, fun h => by cases h⟩
theorem over : Rows.schedBeginsRow.holds Try.pinned (OpenSpec.ofChange Rows.schedBeginsSpec) :=
  OpenClaim.holds_of_wide 7 Try.f7 rfl rfl rfl rfl rfl rfl rfl ⟨rfl, rfl, rfl, rfl, rfl⟩ rfl rfl rfl rfl rfl (by kernel_rfl) Try.func7 (by kernel_rfl)
    (of_decide_eq_true (by kernel_rfl)) (by unfold Func.isWrapper; first | (rw [if_pos (by decide +kernel)]; kernel_rfl) | (rw [if_neg (by decide +kernel)]; exact ⟨rfl, rfl⟩))
    (fun os started H enc _ => lifted os started H enc)
theorem proved : Rows.SchedBeginsSaid := over
#print axioms proved
end Go.Proofs.Yteffbobpffkjlaa.schedBegins
namespace Go.Proofs.Yteffbobpffkjlaa
/-- The row, under a short name, for the claim. -/
theorem schedBegins_holds : Rows.SchedBeginsSaid := schedBegins.proved
end Go.Proofs.Yteffbobpffkjlaa
