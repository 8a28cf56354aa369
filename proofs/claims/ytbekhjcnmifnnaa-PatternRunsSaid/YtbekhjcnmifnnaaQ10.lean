import Derived.Test.YtbekhjcnmifnnaaQ0
set_option linter.unusedVariables false
set_option linter.unusedSimpArgs false
namespace Go.Proofs.Ytbekhjcnmifnnaa.Q
open Go.RowKit Go.Proofs.YtbekhjcnmifnnaaW.PrintWords Go.Proofs.YtbekhjcnmifnnaaW.PrintLast Go.Proofs.YtbekhjcnmifnnaaW.PrintMore
def jobshelllaw04_quoted.f (a0 : ByteArray) : Option ((List (S47))) := some (([(⟨a0, 1⟩ : S47)] : List (S47)))
set_option maxHeartbeats 8000000 in
set_option maxRecDepth 100000 in
theorem jobshelllaw04_quoted.calls (a0 : ByteArray) (r : List (S47)) (w : World) (h : jobshelllaw04_quoted.f a0 = some r) :
 Calls Try.prog 14 #[.string a0] w fun e w' => ∃ v0_ : Value, e = .returned (v0_) ∧ Kd.R k47 47 w' w.heap.size (fun _ => True) v0_ r ∧ Below w.heap.size w w' := by
 have hu47 := Try.underlying47
 have HB := m_ (Below.refl w.heap.size w)
 have H : (some (([(⟨a0, 1⟩ : S47)] : List (S47)))) = some r := h
 clear h
 obtain ⟨y181, hy181⟩ : ∃ y_ : List (S47), y_ = (([(⟨a0, 1⟩ : S47)] : List (S47))) := ⟨_, rfl⟩
 replace H : (some y181) = some r := by subst hy181; exact H
 have Ny181 := m_ hy181
 clear hy181
 obtain rfl := Option.some.inj H
 go_enter Try.func14, Try.ntmps14
 go_wp2_with (first | ((with_reducible refine gate_dst (N := 5) rfl ?_); refine Kd.R_lit k47 _ 47 ?hg (N := 5) ?hd (xs := ([(⟨a0, 1⟩ : S47)] : List (S47))) (inner := [.string a0, .int .i64 1]) (ok := fun _ => True) (okp := fun _ => True) ?hr ?hp (fun _ hk => hk) trivial (Below.refl _ _) (Nat.le_refl _) (by simp) ?_; (case hd => rfl); (case hg => rfl); (case hr => first | (go_simp; done) | (go_simp; rfl)); (case hp => exact (Reps.c2 (show Kd.M k47 _ _ _ (⟨a0, 1⟩ : S47) [.string a0, .int .i64 1] from (k47_mkM _ _ _ (⟨a0, 1⟩ : S47) )) (Reps.none _ _))); intro v182 w2 ho3 hb hg_ hnew_; clear hg_ hnew_; (first | rw [← Ny181.out] at ho3 | (simp only [Int.reduceToNat] at ho3; rw [← Ny181.out] at ho3)); have HO183 := m_ (Kd.R_lower ho3 (l6_ (by repeat (with_reducible first | exact HB.out | apply l1_ | apply l2_ | apply l3_)))); replace HB := m_ (l5_ (by repeat (with_reducible first | exact HB.out | apply l1_ | apply l2_ | apply l3_)) hb); clear hb ho3))
 go_ret
 exact ⟨_, by first | rfl | (simp [errW_none, errW_some] <;> rfl) | (simp [*, errW_none, errW_some] <;> rfl), by (with_reducible repeat (first | apply r1_ | apply r2_ | apply r3_)); exact HO183.out, by repeat (with_reducible first | exact HB.out | apply l1_ | apply l2_ | apply l3_)⟩
end Go.Proofs.Ytbekhjcnmifnnaa.Q
