/- The pure statement of GetoptsAlls: All and the reference's All come to the same options and count. Conditions: none beyond the statement's. -/
import Derived.Test.YtgplhdgimckfjaaSayGetoptsAlls
import Derived.Test.YtgplhdgimckfjaaLem8
namespace Go.Proofs.Ytgplhdgimckfjaa.Pure
open Go.RowKit Go.Proofs.Ytgplhdgimckfjaa.Q Go.Proofs.YtgplhdgimckfjaaW.PrintWords Go.Proofs.YtgplhdgimckfjaaW.PrintLast

theorem GetoptsAlls : GetoptsAllsPure := by
  intro a l ha hl
  refine Ev.rounds ?_
  unfold jobshelllaw16_GetoptsAlls.f
  obtain ⟨b, hb1, hb2⟩ := small_ev a l
  refine Ev.bind hb1 ?_
  cases b with
  | false =>
    simp only [Bool.false_eq_true, if_false]
    exact awake_some
  | true =>
    simp only [if_true]
    obtain ⟨k1, k2, k3⟩ := hb2 rfl
    have hs : Small a l := ⟨by omega, by omega, k3⟩
    have hlen := all_len a l hs
    refine Ev.bind (all_ev a l hs) ?_
    refine Ev.bind (rall_ev a l hs) ?_
    refine Ev.bind (same_ev _ (by omega)) ?_
    simp only [if_true]
    exact awake_some

end Go.Proofs.Ytgplhdgimckfjaa.Pure
