/- The law GetoptsNexts for every input: the row out of the printed function's contract and the pure statement (YtgplhdgimckfjaaPureGetoptsNexts). Conditions: none beyond the row's own. Written by a program of this session's (wip/fork/rowgen.py). -/
import Derived.Test.YtgplhdgimckfjaaRows
import Derived.Test.YtgplhdgimckfjaaQ20
import Derived.Test.YtgplhdgimckfjaaTold
import Derived.Test.YtgplhdgimckfjaaPureGetoptsNexts
import Derived.WalkKit
import Derived.ProofKit
import Derived.OpenShut
import Derived.ShutString
import Derived.ChangeOld
import Derived.Below
import Derived.SizedLaws
namespace Go.Proofs.Ytgplhdgimckfjaa.getoptsNexts
open Go.ChangeShapes Go.WideShapes Go.ChangeAt Go.RowKit Go.Proofs.YtgplhdgimckfjaaW.PrintWords Go.Proofs.Ytgplhdgimckfjaa.Told Go.Proofs.Ytgplhdgimckfjaa.Q
open Go.ChangeMaps (open_string shut_string)
set_option linter.unusedVariables false
theorem own : ownKnob Try.prog.godebug = none := by kernel_rfl
theorem laidOut : laidOutB Try.prog = true := by kernel_rfl
set_option maxHeartbeats 1000000 in
set_option maxRecDepth 100000 in
theorem lifted (os : Os) (started : os.Started) (H : Type) (enc : TypeId × Value → H) :
    ReturnsInHanded {} Try.checked os 4 .any (Rows.getoptsNextsSpec.pre6 enc Try.prog Try.f4 Rows.getoptsNextsRow.domain false) (Rows.getoptsNextsSpec.post enc Try.prog Try.f4 false true false false) := by
  refine returnsInHanded_of_change_sized (C := Try.checked) own started (by kernel_rfl) Try.func4
    (ChangeSpec.witness6 (enc := enc) (C := Try.checked) false ⟨#[], #[.string ByteArray.empty, .slice none 0 0, .agg #[.int .i64 0, .int .i64 0]], []⟩ 8 (by kernel_rfl) (by kernel_rfl) (by kernel_rfl) (by kernel_rfl)) ?_
  intro W base args ds gs before hval0 hW hcnd hsz0 _
  have hsz : (DataW.weightsEach Try.prog (Try.f4.params.toList ++ Rows.getoptsNextsSpec.plain.varTypes Try.prog) (ds ++ gs)).all (· ≤ reachBytes) = true := hsz0
  have hval : ∀ (j : Nat) t v, Try.f4.params[j]? = some t → args[j]? = some v → Value.okWide Try.prog W .any base t v := hval0
  have hW' := hW
  obtain ⟨p, q, hA0, hV, rfl, hfz, hnd⟩ := hW
  have hA : DataW.TrodAll enc Try.prog W 0 (fun _ => true) true Try.f4.params.toList args.toList ds p := hA0
  rw [Try.params4] at hA hval hsz
  obtain ⟨v0, vs0, d0, ds0, p0, q0, hargs, rfl, rfl, h0, r0⟩ := trodAll_cons hA
  obtain ⟨v1, vs1, d1, ds1, p1, q1, rfl, rfl, rfl, h1, r1⟩ := trodAll_cons r0
  obtain ⟨v2, vs2, d2, ds2, p2, q2, rfl, rfl, rfl, h2, r2⟩ := trodAll_cons r1
  obtain ⟨rfl, rfl, rfl⟩ := trodAll_nil r2
  obtain rfl : args = #[v0, v1, v2] := by cases args; simp_all
  obtain ⟨rfl, rfl⟩ := trodVars_none hV
  obtain ⟨a0, rfl, rfl, rfl, y0⟩ := open_string Try.underlying9 (hval 0 9 v0 rfl rfl) h0
  have w0 : a0.size ≤ 140737488351232 := by
    have z := sized_string hsz (j := 0) (t := 9) rfl rfl
    rw [Array.length_toList] at z
    exact z
  have told1 : Go.Proofs.Ytgplhdgimckfjaa.Told.Told Try.prog 27 _ _ := (told_slice 16 Try.underlying27 (by kernel_rfl) (by kernel_rfl) (told_string Try.underlying9))
  have k1 := h1
  have lt1 : ∀ x ∈ p1, x.block < W.heap.size := by obtain ⟨m, hm⟩ := k1; exact DataW.trod_lt m _ _ _ hm
  have wt1 : ∀ m ∈ d1.weights Try.prog 27, m ≤ reachBytes := fun m hm => by simpa using List.all_eq_true.1 hsz m (DataW.weights_mem_each (j := 1) (t := 27) (d := d1) rfl rfl m hm)
  obtain ⟨z1, len1, cap1, rfl⟩ := okWide_slice Try.underlying27 (hval 1 27 v1 rfl rfl)
  obtain ⟨fuel1, hf1⟩ := h1
  rw [show (Value.slice z1 len1 cap1).cells.toList = [.slice z1 len1 cap1] by simp [Value.cells]] at hf1
  obtain ⟨l1, ⟨A1, c1, e1, hc1, hr1⟩, G1⟩ := told1 H enc W _ _ fuel1 _ _ hf1 wt1
  obtain ⟨rfl, rfl, rfl⟩ : z1 = A1 ∧ len1 = l1.length ∧ cap1 = c1 := by simpa using e1
  clear hf1 e1
  have told2 := told_struct0 (P := Try.prog) (T := 29) Try.underlying29 (by kernel_rfl) (fs_cons rfl (by kernel_rfl) (told_int Try.underlying3) (fs_one rfl (by kernel_rfl) (told_int Try.underlying3)))
  have k2 := h2
  have lt2 : ∀ x ∈ p2, x.block < W.heap.size := by obtain ⟨m, hm⟩ := k2; exact DataW.trod_lt m _ _ _ hm
  have wt2 : ∀ m ∈ d2.weights Try.prog 29, m ≤ reachBytes := fun m hm => by simpa using List.all_eq_true.1 hsz m (DataW.weights_mem_each (j := 2) (t := 29) (d := d2) rfl rfl m hm)
  obtain ⟨arr2, rfl, _⟩ := okWide_struct Try.underlying29 (hval 2 29 v2 rfl rfl)
  obtain ⟨fuel2, hf2⟩ := h2
  rw [show (Value.agg arr2).cells.toList = arr2.toList by simp [Value.cells]] at hf2
  obtain ⟨⟨a2_0, a2_1⟩, ⟨_, _, e2, rfl, rfl⟩, ⟨G2_0, G2_1⟩⟩ := told2 H enc W _ _ fuel2 _ _ hf2 wt2
  obtain rfl : arr2 = #[.int .i64 a2_0, .int .i64 a2_1] := by cases arr2; simpa using e2
  clear hf2
  clear hA0 hval0 hsz0 hsz
  obtain ⟨kk, hk⟩ := Pure.GetoptsNexts a0 l1 a2_0 a2_1 w0 G1 G2_0 G2_1
  refine (jobshelllaw16_GetoptsNexts.calls kk a0 z1 cap1 l1 a2_0 a2_1 true W hr1 hc1 hk).mono fun e W' ⟨he, bel0⟩ => ?_
  have bel : Below W.heap.size W W' := bel0
  subst he
  exact ⟨_, rfl, _, _, _, [], _, [], hW', trodAll_mk1 (shut_bool Try.underlying4 _), (trodAll_cons_mk (shut_string Try.underlying9 y0) (trodAll_cons_mk (Below.trod laidOut (by kernel_rfl) (of_decide_eq_true (by kernel_rfl)) k1 bel lt1) (trodAll_cons_mk (Below.trod laidOut (by kernel_rfl) (of_decide_eq_true (by kernel_rfl)) k2 bel lt2) trodAll_mk0))), rfl, bel.frame _, fun h => by cases h⟩
theorem over : Rows.getoptsNextsRow.holds Try.pinned (OpenSpec.ofChange Rows.getoptsNextsSpec) :=
  OpenClaim.holds_of_wide 4 Try.f4 rfl rfl rfl rfl rfl rfl rfl ⟨rfl, rfl, rfl, rfl, rfl⟩ rfl rfl rfl rfl rfl (by kernel_rfl) Try.func4 (by kernel_rfl)
    (of_decide_eq_true (by kernel_rfl)) (by unfold Func.isWrapper; first | (rw [if_pos (by decide +kernel)]; kernel_rfl) | (rw [if_neg (by decide +kernel)]; exact ⟨rfl, rfl⟩))
    (fun os started H enc _ => lifted os started H enc)
theorem proved : Rows.GetoptsNextsSaid := over
#print axioms proved
end Go.Proofs.Ytgplhdgimckfjaa.getoptsNexts
namespace Go.Proofs.Ytgplhdgimckfjaa
/-- The row, under a short name, for the claim. -/
theorem getoptsNexts_holds : Rows.GetoptsNextsSaid := getoptsNexts.proved
end Go.Proofs.Ytgplhdgimckfjaa
