/- The pure statement of GetoptsValid: Valid and the reference's Valid come to the same error. Conditions: none beyond the statement's. -/
import Derived.Test.YtgplhdgimckfjaaSayGetoptsValid
import Derived.Test.YtgplhdgimckfjaaLem7
namespace Go.Proofs.Ytgplhdgimckfjaa.Pure
open Go.RowKit Go.Proofs.Ytgplhdgimckfjaa.Q Go.Proofs.YtgplhdgimckfjaaW.PrintWords Go.Proofs.YtgplhdgimckfjaaW.PrintLast

theorem GetoptsValid : GetoptsValidPure := by
  intro a ha
  refine Ev.rounds ?_
  unfold jobshelllaw16_GetoptsValid.f
  by_cases h : (a.size : Int) > 40
  · simp only [if_pos h]
    exact awake_some
  · simp only [if_neg h, gvalid_eq a ha, Option.bind_some]
    refine Ev.bind (rvalid_ev a ha) ?_
    simp only [if_true]
    exact awake_some

end Go.Proofs.Ytgplhdgimckfjaa.Pure
