/- The law CodecFrames for every input: the row out of the printed function's contract and the pure statement (YtdgdabgbdephnaaPureCodecFrames). Conditions: none beyond the row's own. Written by a program of this session's (wip/fork/rowgen.py). -/
import Derived.Test.YtdgdabgbdephnaaRows
import Derived.Test.YtdgdabgbdephnaaQ20
import Derived.Test.YtdgdabgbdephnaaTold
import Derived.Test.YtdgdabgbdephnaaPureCodecFrames
import Derived.WalkKit
import Derived.ProofKit
import Derived.OpenShut
import Derived.ShutString
import Derived.ChangeOld
import Derived.Below
import Derived.SizedLaws
namespace Go.Proofs.Ytdgdabgbdephnaa.codecFrames
open Go.ChangeShapes Go.WideShapes Go.ChangeAt Go.RowKit Go.Proofs.YtdgdabgbdephnaaW.PrintWords Go.Proofs.Ytdgdabgbdephnaa.Told Go.Proofs.Ytdgdabgbdephnaa.Q
open Go.ChangeMaps (open_string shut_string)
set_option linter.unusedVariables false
theorem own : ownKnob Try.prog.godebug = none := by kernel_rfl
theorem laidOut : laidOutB Try.prog = true := by kernel_rfl
set_option maxHeartbeats 1000000 in
set_option maxRecDepth 100000 in
theorem lifted (os : Os) (started : os.Started) (H : Type) (enc : TypeId × Value → H) :
    ReturnsInHanded {} Try.checked os 6 .any (Rows.codecFramesSpec.pre6 enc Try.prog Try.f6 Rows.codecFramesRow.domain false) (Rows.codecFramesSpec.post enc Try.prog Try.f6 false true false false) := by
  refine returnsInHanded_of_change_sized (C := Try.checked) own started (by kernel_rfl) Try.func6
    (ChangeSpec.witness6 (enc := enc) (C := Try.checked) false ⟨#[], #[.int .i64 0, .slice none 0 0, .slice none 0 0], []⟩ 8 (by kernel_rfl) (by kernel_rfl) (by kernel_rfl) (by kernel_rfl)) ?_
  intro W base args ds gs before hval0 hW hcnd hsz0 _
  have hsz : (DataW.weightsEach Try.prog (Try.f6.params.toList ++ Rows.codecFramesSpec.plain.varTypes Try.prog) (ds ++ gs)).all (· ≤ reachBytes) = true := hsz0
  have hval : ∀ (j : Nat) t v, Try.f6.params[j]? = some t → args[j]? = some v → Value.okWide Try.prog W .any base t v := hval0
  have hW' := hW
  obtain ⟨p, q, hA0, hV, rfl, hfz, hnd⟩ := hW
  have hA : DataW.TrodAll enc Try.prog W 0 (fun _ => true) true Try.f6.params.toList args.toList ds p := hA0
  rw [Try.params6] at hA hval hsz
  obtain ⟨v0, vs0, d0, ds0, p0, q0, hargs, rfl, rfl, h0, r0⟩ := trodAll_cons hA
  obtain ⟨v1, vs1, d1, ds1, p1, q1, rfl, rfl, rfl, h1, r1⟩ := trodAll_cons r0
  obtain ⟨v2, vs2, d2, ds2, p2, q2, rfl, rfl, rfl, h2, r2⟩ := trodAll_cons r1
  obtain ⟨rfl, rfl, rfl⟩ := trodAll_nil r2
  obtain rfl : args = #[v0, v1, v2] := by cases args; simp_all
  obtain ⟨rfl, rfl⟩ := trodVars_none hV
  obtain ⟨a0, rfl, rfl, rfl, w0⟩ := open_int Try.underlying3 (hval 0 3 v0 rfl rfl) h0
  have told1 : Go.Proofs.Ytdgdabgbdephnaa.Told.Told Try.prog 22 _ _ := (told_slice 1 Try.underlying22 (by kernel_rfl) (by kernel_rfl) (told_int Try.underlying5))
  have k1 := h1
  have lt1 : ∀ x ∈ p1, x.block < W.heap.size := by obtain ⟨m, hm⟩ := k1; exact DataW.trod_lt m _ _ _ hm
  have wt1 : ∀ m ∈ d1.weights Try.prog 22, m ≤ reachBytes := fun m hm => by simpa using List.all_eq_true.1 hsz m (DataW.weights_mem_each (j := 1) (t := 22) (d := d1) rfl rfl m hm)
  obtain ⟨z1, len1, cap1, rfl⟩ := okWide_slice Try.underlying22 (hval 1 22 v1 rfl rfl)
  obtain ⟨fuel1, hf1⟩ := h1
  rw [show (Value.slice z1 len1 cap1).cells.toList = [.slice z1 len1 cap1] by simp [Value.cells]] at hf1
  obtain ⟨l1, ⟨A1, c1, e1, hc1, hr1⟩, G1⟩ := told1 H enc W _ _ fuel1 _ _ hf1 wt1
  obtain ⟨rfl, rfl, rfl⟩ : z1 = A1 ∧ len1 = l1.length ∧ cap1 = c1 := by simpa using e1
  clear hf1 e1
  have told2 : Go.Proofs.Ytdgdabgbdephnaa.Told.Told Try.prog 22 _ _ := (told_slice 1 Try.underlying22 (by kernel_rfl) (by kernel_rfl) (told_int Try.underlying5))
  have k2 := h2
  have lt2 : ∀ x ∈ p2, x.block < W.heap.size := by obtain ⟨m, hm⟩ := k2; exact DataW.trod_lt m _ _ _ hm
  have wt2 : ∀ m ∈ d2.weights Try.prog 22, m ≤ reachBytes := fun m hm => by simpa using List.all_eq_true.1 hsz m (DataW.weights_mem_each (j := 2) (t := 22) (d := d2) rfl rfl m hm)
  obtain ⟨z2, len2, cap2, rfl⟩ := okWide_slice Try.underlying22 (hval 2 22 v2 rfl rfl)
  obtain ⟨fuel2, hf2⟩ := h2
  rw [show (Value.slice z2 len2 cap2).cells.toList = [.slice z2 len2 cap2] by simp [Value.cells]] at hf2
  obtain ⟨l2, ⟨A2, c2, e2, hc2, hr2⟩, G2⟩ := told2 H enc W _ _ fuel2 _ _ hf2 wt2
  obtain ⟨rfl, rfl, rfl⟩ : z2 = A2 ∧ len2 = l2.length ∧ cap2 = c2 := by simpa using e2
  clear hf2 e2
  clear hA0 hval0 hsz0 hsz
  obtain ⟨kk, hk⟩ := Pure.CodecFrames a0 l1 l2 w0 G1 G2
  refine (jobshelllaw03_CodecFrames.calls kk a0 z1 cap1 l1 z2 cap2 l2 true W hr1 hc1 hr2 hc2 hk).mono fun e W' ⟨he, bel0⟩ => ?_
  have bel : Below W.heap.size W W' := bel0
  subst he
  exact ⟨_, rfl, _, _, _, [], _, [], hW', trodAll_mk1 (shut_bool Try.underlying4 _), (trodAll_cons_mk (shut_int Try.underlying3 w0) (trodAll_cons_mk (Below.trod laidOut (by kernel_rfl) (of_decide_eq_true (by kernel_rfl)) k1 bel lt1) (trodAll_cons_mk (Below.trod laidOut (by kernel_rfl) (of_decide_eq_true (by kernel_rfl)) k2 bel lt2) trodAll_mk0))), rfl, bel.frame _, fun h => by cases h⟩
theorem over : Rows.codecFramesRow.holds Try.pinned (OpenSpec.ofChange Rows.codecFramesSpec) :=
  OpenClaim.holds_of_wide 6 Try.f6 rfl rfl rfl rfl rfl rfl rfl ⟨rfl, rfl, rfl, rfl, rfl⟩ rfl rfl rfl rfl rfl (by kernel_rfl) Try.func6 (by kernel_rfl)
    (of_decide_eq_true (by kernel_rfl)) (by unfold Func.isWrapper; first | (rw [if_pos (by decide +kernel)]; kernel_rfl) | (rw [if_neg (by decide +kernel)]; exact ⟨rfl, rfl⟩))
    (fun os started H enc _ => lifted os started H enc)
theorem proved : Rows.CodecFramesSaid := over
#print axioms proved
end Go.Proofs.Ytdgdabgbdephnaa.codecFrames
namespace Go.Proofs.Ytdgdabgbdephnaa
/-- The row, under a short name, for the claim. -/
theorem codecFrames_holds : Rows.CodecFramesSaid := codecFrames.proved
end Go.Proofs.Ytdgdabgbdephnaa
