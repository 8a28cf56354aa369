/- The law SchedStays for every input: the row out of the printed function's contract and the pure statement (YteffbobpffkjlaaPureSchedStays). Conditions: none beyond the row's own. Written by a program of this session's (wip/fork/rowgen.py). -/
import Derived.Test.YteffbobpffkjlaaRows
import Derived.Test.YteffbobpffkjlaaQ17
import Derived.Test.YteffbobpffkjlaaTold
import Derived.Test.YteffbobpffkjlaaPureSchedStays
import Derived.WalkKit
import Derived.ProofKit
import Derived.OpenShut
import Derived.ShutString
import Derived.ChangeOld
import Derived.Below
import Derived.SizedLaws
namespace Go.Proofs.Yteffbobpffkjlaa.schedStays
open Go.ChangeShapes Go.WideShapes Go.ChangeAt Go.RowKit Go.Proofs.YteffbobpffkjlaaW.PrintWords Go.Proofs.Yteffbobpffkjlaa.Told Go.Proofs.Yteffbobpffkjlaa.Q
open Go.ChangeMaps (open_string shut_string)
set_option linter.unusedVariables false
theorem own : ownKnob Try.prog.godebug = none := by kernel_rfl
theorem laidOut : laidOutB Try.prog = true := by kernel_rfl
set_option maxHeartbeats 1000000 in
set_option maxRecDepth 100000 in
theorem lifted (os : Os) (started : os.Started) (H : Type) (enc : TypeId × Value → H) :
    ReturnsInHanded {} Try.checked os 5 .any (Rows.schedStaysSpec.pre6 enc Try.prog Try.f5 Rows.schedStaysRow.domain false) (Rows.schedStaysSpec.post enc Try.prog Try.f5 false true false false) := by
  refine returnsInHanded_of_change_sized (C := Try.checked) own started (by kernel_rfl) Try.func5
    (ChangeSpec.witness6 (enc := enc) (C := Try.checked) false ⟨#[], #[.agg #[.int .i64 0, .int .i64 0, .int .u64 0, .slice none 0 0], .slice none 0 0, .int .u8 0], []⟩ 8 (by kernel_rfl) (by kernel_rfl) (by kernel_rfl) (by kernel_rfl)) ?_
  intro W base args ds gs before hval0 hW hcnd hsz0 _
  have hsz : (DataW.weightsEach Try.prog (Try.f5.params.toList ++ Rows.schedStaysSpec.plain.varTypes Try.prog) (ds ++ gs)).all (· ≤ reachBytes) = true := hsz0
  have hval : ∀ (j : Nat) t v, Try.f5.params[j]? = some t → args[j]? = some v → Value.okWide Try.prog W .any base t v := hval0
  have hW' := hW
  obtain ⟨p, q, hA0, hV, rfl, hfz, hnd⟩ := hW
  have hA : DataW.TrodAll enc Try.prog W 0 (fun _ => true) true Try.f5.params.toList args.toList ds p := hA0
  rw [Try.params5] at hA hval hsz
  obtain ⟨v0, vs0, d0, ds0, p0, q0, hargs, rfl, rfl, h0, r0⟩ := trodAll_cons hA
  obtain ⟨v1, vs1, d1, ds1, p1, q1, rfl, rfl, rfl, h1, r1⟩ := trodAll_cons r0
  obtain ⟨v2, vs2, d2, ds2, p2, q2, rfl, rfl, rfl, h2, r2⟩ := trodAll_cons r1
  obtain ⟨rfl, rfl, rfl⟩ := trodAll_nil r2
  obtain rfl : args = #[v0, v1, v2] := by cases args; simp_all
  obtain ⟨rfl, rfl⟩ := trodVars_none hV
  have told0 := told_struct0 (P := Try.prog) (T := 25) Try.underlying25 (by kernel_rfl) (fs_cons rfl (by kernel_rfl) (told_int Try.underlying3) (fs_cons rfl (by kernel_rfl) (told_int Try.underlying3) (fs_cons rfl (by kernel_rfl) (told_int Try.underlying22) (fs_one rfl (by kernel_rfl) (told_slice 8 Try.underlying23 (by kernel_rfl) (by kernel_rfl) (told_int Try.underlying3))))))
  have k0 := h0
  have lt0 : ∀ x ∈ p0, x.block < W.heap.size := by obtain ⟨m, hm⟩ := k0; exact DataW.trod_lt m _ _ _ hm
  have wt0 : ∀ m ∈ d0.weights Try.prog 25, m ≤ reachBytes := fun m hm => by simpa using List.all_eq_true.1 hsz m (DataW.weights_mem_each (j := 0) (t := 25) (d := d0) rfl rfl m hm)
  obtain ⟨arr0, rfl, _⟩ := okWide_struct Try.underlying25 (hval 0 25 v0 rfl rfl)
  obtain ⟨fuel0, hf0⟩ := h0
  rw [show (Value.agg arr0).cells.toList = arr0.toList by simp [Value.cells]] at hf0
  obtain ⟨⟨a0_0, ⟨a0_1, ⟨a0_2, l0_3⟩⟩⟩, ⟨_, _, e0, rfl, ⟨_, _, rfl, rfl, ⟨_, _, rfl, rfl, ⟨A0_3, c0_3, rfl, hc0_3, hr0_3⟩⟩⟩⟩, ⟨G0_0, ⟨G0_1, ⟨G0_2, G0_3⟩⟩⟩⟩ := told0 H enc W _ _ fuel0 _ _ hf0 wt0
  obtain rfl : arr0 = #[.int .i64 a0_0, .int .i64 a0_1, .int .u64 a0_2, .slice A0_3 l0_3.length c0_3] := by cases arr0; simpa using e0
  clear hf0
  have told1 : Go.Proofs.Yteffbobpffkjlaa.Told.Told Try.prog 23 _ _ := (told_slice 8 Try.underlying23 (by kernel_rfl) (by kernel_rfl) (told_int Try.underlying3))
  have k1 := h1
  have lt1 : ∀ x ∈ p1, x.block < W.heap.size := by obtain ⟨m, hm⟩ := k1; exact DataW.trod_lt m _ _ _ hm
  have wt1 : ∀ m ∈ d1.weights Try.prog 23, m ≤ reachBytes := fun m hm => by simpa using List.all_eq_true.1 hsz m (DataW.weights_mem_each (j := 1) (t := 23) (d := d1) rfl rfl m hm)
  obtain ⟨z1, len1, cap1, rfl⟩ := okWide_slice Try.underlying23 (hval 1 23 v1 rfl rfl)
  obtain ⟨fuel1, hf1⟩ := h1
  rw [show (Value.slice z1 len1 cap1).cells.toList = [.slice z1 len1 cap1] by simp [Value.cells]] at hf1
  obtain ⟨l1, ⟨A1, c1, e1, hc1, hr1⟩, G1⟩ := told1 H enc W _ _ fuel1 _ _ hf1 wt1
  obtain ⟨rfl, rfl, rfl⟩ : z1 = A1 ∧ len1 = l1.length ∧ cap1 = c1 := by simpa using e1
  clear hf1 e1
  obtain ⟨a2, rfl, rfl, rfl, w2⟩ := open_int Try.underlying5 (hval 2 5 v2 rfl rfl) h2
  clear hA0 hval0 hsz0 hsz
  obtain ⟨kk, hk⟩ := Pure.SchedStays a0_0 a0_1 a0_2 l0_3 l1 a2 G0_0 G0_1 G0_2 G0_3 G1 w2
  refine (jobshelllaw32_SchedStays.calls kk a0_0 a0_1 a0_2 (fun k_ => k_ < W.heap.size) A0_3 c0_3 l0_3 z1 cap1 l1 a2 true W (Kd.V_mk hc0_3 (Kd.C_F (Kd.heap_int .i64) hr0_3)) hr1 hc1 hk).mono fun e W' ⟨he, bel0⟩ => ?_
  have bel : Below W.heap.size W W' := bel0
  subst he
  exact ⟨_, rfl, _, _, _, [], _, [], hW', trodAll_mk1 (shut_bool Try.underlying4 _), (trodAll_cons_mk (Below.trod laidOut (by kernel_rfl) (of_decide_eq_true (by kernel_rfl)) k0 bel lt0) (trodAll_cons_mk (Below.trod laidOut (by kernel_rfl) (of_decide_eq_true (by kernel_rfl)) k1 bel lt1) (trodAll_cons_mk (shut_int Try.underlying5 w2) trodAll_mk0))), rfl, bel.frame _, fun h => by cases h⟩
theorem over : Rows.schedStaysRow.holds Try.pinned (OpenSpec.ofChange Rows.schedStaysSpec) :=
  OpenClaim.holds_of_wide 5 Try.f5 rfl rfl rfl rfl rfl rfl rfl ⟨rfl, rfl, rfl, rfl, rfl⟩ rfl rfl rfl rfl rfl (by kernel_rfl) Try.func5 (by kernel_rfl)
    (of_decide_eq_true (by kernel_rfl)) (by unfold Func.isWrapper; first | (rw [if_pos (by decide +kernel)]; kernel_rfl) | (rw [if_neg (by decide +kernel)]; exact ⟨rfl, rfl⟩))
    (fun os started H enc _ => lifted os started H enc)
theorem proved : Rows.SchedStaysSaid := over
#print axioms proved
end Go.Proofs.Yteffbobpffkjlaa.schedStays
namespace Go.Proofs.Yteffbobpffkjlaa
/-- The row, under a short name, for the claim. -/
theorem schedStays_holds : Rows.SchedStaysSaid := schedStays.proved
end Go.Proofs.Yteffbobpffkjlaa
