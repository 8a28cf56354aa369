/- The pure statement of PatternCompiles: Compile and the reference's Compile come to the same pattern. Conditions: none beyond the statement's. -/
import Derived.Test.YtbekhjcnmifnnaaSayPatternCompiles
import Derived.Test.YtbekhjcnmifnnaaLem12
import Derived.Test.YtbekhjcnmifnnaaLem13
import Derived.Test.YtbekhjcnmifnnaaLemP
import Derived.Test.YtbekhjcnmifnnaaLemA
set_option linter.unusedVariables false
set_option linter.unusedSimpArgs false
namespace Go.Proofs.Ytbekhjcnmifnnaa.Pure
open Go.RowKit Go.Proofs.Ytbekhjcnmifnnaa.Q Go.Proofs.YtbekhjcnmifnnaaW.PrintWords Go.Proofs.YtbekhjcnmifnnaaW.PrintLast

theorem PatternCompiles : PatternCompilesPure := by
  intro l hl
  refine Ev.rounds ?_
  unfold jobshelllaw04_PatternCompiles.f
  obtain ⟨b, hb1, hb2⟩ := small_ev l (fun r hr => (hl.1 r hr).1)
  refine Ev.bind hb1 ?_
  cases b with
  | false =>
    simp only [Bool.false_eq_true, if_false]
    exact awake_some
  | true =>
    simp only [if_true]
    obtain ⟨k1, k2⟩ := hb2 rfl
    have hel := els_len l
    have hr : ∀ r ∈ l, r.f0.size ≤ 1000000 := fun r h => by have := tot_mem l r h; omega
    have hg := pat_good l (by omega)
    refine Ev.bind (compile_ev l (by omega) hr (by omega)) (Ev.bind (rcompile_ev l (by omega) hr (by omega)) (Ev.bind (same_ev _ hg) ?_))
    simp only [if_true]
    exact awake_some
end Go.Proofs.Ytbekhjcnmifnnaa.Pure
