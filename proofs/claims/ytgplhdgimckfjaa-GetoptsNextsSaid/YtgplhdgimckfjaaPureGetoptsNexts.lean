/- The pure statement of GetoptsNexts: Next and the reference's Next come to the same option and state. Conditions: none beyond the statement's. -/
import Derived.Test.YtgplhdgimckfjaaSayGetoptsNexts
import Derived.Test.YtgplhdgimckfjaaLem7
import Derived.Test.YtgplhdgimckfjaaLem5
namespace Go.Proofs.Ytgplhdgimckfjaa.Pure
open Go.RowKit Go.Proofs.Ytgplhdgimckfjaa.Q Go.Proofs.YtgplhdgimckfjaaW.PrintWords Go.Proofs.YtgplhdgimckfjaaW.PrintLast

theorem wf64 {x : Int} (h : (Lit.int .i64 x).wf = true) : -9223372036854775808 ≤ x ∧ x ≤ 9223372036854775807 := by
  have h := Bool.and_eq_true_iff.mp h
  have e1 : IntKind.i64.min = -9223372036854775808 := by decide
  have e2 : IntKind.i64.max = 9223372036854775807 := by decide
  have h1 := of_decide_eq_true h.1
  have h2 := of_decide_eq_true h.2
  rw [e1] at h1
  rw [e2] at h2
  exact ⟨h1, h2⟩
theorem GetoptsNexts : GetoptsNextsPure := by
  intro a l i o ha hl hi ho
  refine Ev.rounds ?_
  unfold jobshelllaw16_GetoptsNexts.f
  obtain ⟨b, hb1, hb2⟩ := small_ev a l
  refine Ev.bind hb1 ?_
  cases b with
  | false =>
    simp only [Bool.false_eq_true, if_false]
    exact awake_some
  | true =>
    simp only [if_true]
    obtain ⟨k1, k2, k3⟩ := hb2 rfl
    have e1 : a.size ≤ 140737488351232 := ha
    have e2 : l.length ≤ 1000 := by omega
    have e3 : ∀ s ∈ l, s.size ≤ 1000 := fun s hs => Nat.le_trans (k3 s hs) (by decide)
    refine Ev.bind (next_ev a l i o e1 e2 e3 (wf64 hi) (wf64 ho)) ?_
    refine Ev.bind (rnext_ev a l i o e1 e2 e3 (wf64 hi) (wf64 ho)) ?_
    generalize nextS a l i o = T
    simp only [beq_self_eq_true, Bool.and_self, if_true]
    exact awake_some

end Go.Proofs.Ytgplhdgimckfjaa.Pure
