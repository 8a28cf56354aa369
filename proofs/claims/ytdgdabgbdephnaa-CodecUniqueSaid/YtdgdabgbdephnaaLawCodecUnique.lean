/- The law CodecUnique for every input: the row out of the printed function's contract and the pure statement (YtdgdabgbdephnaaPureCodecUnique). Conditions: none beyond the row's own. Written by a program of this session's (wip/fork/rowgen.py). -/
import Derived.Test.YtdgdabgbdephnaaRows
import Derived.Test.YtdgdabgbdephnaaQ31
import Derived.Test.YtdgdabgbdephnaaTold
import Derived.Test.YtdgdabgbdephnaaPureCodecUnique
import Derived.WalkKit
import Derived.ProofKit
import Derived.OpenShut
import Derived.ShutString
import Derived.ChangeOld
import Derived.Below
import Derived.SizedLaws
namespace Go.Proofs.Ytdgdabgbdephnaa.codecUnique
open Go.ChangeShapes Go.WideShapes Go.ChangeAt Go.RowKit Go.Proofs.YtdgdabgbdephnaaW.PrintWords Go.Proofs.Ytdgdabgbdephnaa.Told Go.Proofs.Ytdgdabgbdephnaa.Q
open Go.ChangeMaps (open_string shut_string)
set_option linter.unusedVariables false
theorem own : ownKnob Try.prog.godebug = none := by kernel_rfl
theorem laidOut : laidOutB Try.prog = true := by kernel_rfl
set_option maxHeartbeats 1000000 in
set_option maxRecDepth 100000 in
theorem lifted (os : Os) (started : os.Started) (H : Type) (enc : TypeId × Value → H) :
    ReturnsInHanded {} Try.checked os 9 .any (Rows.codecUniqueSpec.pre6 enc Try.prog Try.f9 Rows.codecUniqueRow.domain false) (Rows.codecUniqueSpec.post enc Try.prog Try.f9 false true false false) := by
  refine returnsInHanded_of_change_sized (C := Try.checked) own started (by kernel_rfl) Try.func9
    (ChangeSpec.witness6 (enc := enc) (C := Try.checked) false ⟨#[], #[.slice none 0 0], []⟩ 8 (by kernel_rfl) (by kernel_rfl) (by kernel_rfl) (by kernel_rfl)) ?_
  intro W base args ds gs before hval0 hW hcnd hsz0 _
  have hsz : (DataW.weightsEach Try.prog (Try.f9.params.toList ++ Rows.codecUniqueSpec.plain.varTypes Try.prog) (ds ++ gs)).all (· ≤ reachBytes) = true := hsz0
  have hval : ∀ (j : Nat) t v, Try.f9.params[j]? = some t → args[j]? = some v → Value.okWide Try.prog W .any base t v := hval0
  have hW' := hW
  obtain ⟨p, q, hA0, hV, rfl, hfz, hnd⟩ := hW
  have hA : DataW.TrodAll enc Try.prog W 0 (fun _ => true) true Try.f9.params.toList args.toList ds p := hA0
  rw [Try.params9] at hA hval hsz
  obtain ⟨v0, vs0, d0, ds0, p0, q0, hargs, rfl, rfl, h0, r0⟩ := trodAll_cons hA
  obtain ⟨rfl, rfl, rfl⟩ := trodAll_nil r0
  obtain rfl : args = #[v0] := by cases args; simp_all
  obtain ⟨rfl, rfl⟩ := trodVars_none hV
  have told0 : Go.Proofs.Ytdgdabgbdephnaa.Told.Told Try.prog 22 _ _ := (told_slice 1 Try.underlying22 (by kernel_rfl) (by kernel_rfl) (told_int Try.underlying5))
  have k0 := h0
  have lt0 : ∀ x ∈ p0, x.block < W.heap.size := by obtain ⟨m, hm⟩ := k0; exact DataW.trod_lt m _ _ _ hm
  have wt0 : ∀ m ∈ d0.weights Try.prog 22, m ≤ reachBytes := fun m hm => by simpa using List.all_eq_true.1 hsz m (DataW.weights_mem_each (j := 0) (t := 22) (d := d0) rfl rfl m hm)
  obtain ⟨z0, len0, cap0, rfl⟩ := okWide_slice Try.underlying22 (hval 0 22 v0 rfl rfl)
  obtain ⟨fuel0, hf0⟩ := h0
  rw [show (Value.slice z0 len0 cap0).cells.toList = [.slice z0 len0 cap0] by simp [Value.cells]] at hf0
  obtain ⟨l0, ⟨A0, c0, e0, hc0, hr0⟩, G0⟩ := told0 H enc W _ _ fuel0 _ _ hf0 wt0
  obtain ⟨rfl, rfl, rfl⟩ : z0 = A0 ∧ len0 = l0.length ∧ cap0 = c0 := by simpa using e0
  clear hf0 e0
  clear hA0 hval0 hsz0 hsz
  obtain ⟨kk, hk⟩ := Pure.CodecUnique l0 G0
  refine (jobshelllaw03_CodecUnique.calls kk z0 cap0 l0 true W hr0 hc0 hk).mono fun e W' ⟨he, bel0⟩ => ?_
  have bel : Below W.heap.size W W' := bel0
  subst he
  exact ⟨_, rfl, _, _, _, [], _, [], hW', trodAll_mk1 (shut_bool Try.underlying4 _), (trodAll_cons_mk (Below.trod laidOut (by kernel_rfl) (of_decide_eq_true (by kernel_rfl)) k0 bel lt0) trodAll_mk0), rfl, bel.frame _, fun h => by cases h⟩
theorem over : Rows.codecUniqueRow.holds Try.pinned (OpenSpec.ofChange Rows.codecUniqueSpec) :=
  OpenClaim.holds_of_wide 9 Try.f9 rfl rfl rfl rfl rfl rfl rfl ⟨rfl, rfl, rfl, rfl, rfl⟩ rfl rfl rfl rfl rfl (by kernel_rfl) Try.func9 (by kernel_rfl)
    (of_decide_eq_true (by kernel_rfl)) (by unfold Func.isWrapper; first | (rw [if_pos (by decide +kernel)]; kernel_rfl) | (rw [if_neg (by decide +kernel)]; exact ⟨rfl, rfl⟩))
    (fun os started H enc _ => lifted os started H enc)
theorem proved : Rows.CodecUniqueSaid := over
#print axioms proved
end Go.Proofs.Ytdgdabgbdephnaa.codecUnique
namespace Go.Proofs.Ytdgdabgbdephnaa
/-- The row, under a short name, for the claim. -/
theorem codecUnique_holds : Rows.CodecUniqueSaid := codecUnique.proved
end Go.Proofs.Ytdgdabgbdephnaa
