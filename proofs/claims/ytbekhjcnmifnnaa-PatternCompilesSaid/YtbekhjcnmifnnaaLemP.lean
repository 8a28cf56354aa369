/- Plain lemmas for chapter 04: the pattern of small runs is within the bounds. No conditions beyond those written at each. -/
import Derived.Test.YtbekhjcnmifnnaaLem9
namespace Go.Proofs.Ytbekhjcnmifnnaa.Pure
open Go.RowKit Go.Proofs.Ytbekhjcnmifnnaa.Q Go.Proofs.YtbekhjcnmifnnaaW.PrintWords Go.Proofs.YtbekhjcnmifnnaaW.PrintLast
theorem pat_good (l : List S47) (ht : (elsS l).length ≤ 1000) : Good (patS l) := by
  obtain ⟨h1, h2⟩ := comp_good ((elsS l).length + 1) (elsS l)
  exact ⟨by show (patS l).length ≤ _; unfold patS; omega, fun x hx => ⟨(h2 x hx).len, (h2 x hx).each⟩⟩
theorem tot_mem (l : List S47) : ∀ r ∈ l, r.f0.size ≤ totS l := by
  induction l with
  | nil => exact fun r h => by cases h
  | cons x l ih =>
    intro r h
    have e : totS (x :: l) = x.f0.size + totS l := rfl
    rcases List.mem_cons.mp h with rfl | h
    · omega
    · have := ih r h
      omega
end Go.Proofs.Ytbekhjcnmifnnaa.Pure
