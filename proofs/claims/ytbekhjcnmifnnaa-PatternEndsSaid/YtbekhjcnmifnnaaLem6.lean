/- Plain lemmas for chapter 04: what the laws over patterns ask at the outset. No conditions beyond those written at each. -/
import Derived.Test.YtbekhjcnmifnnaaLem3
set_option linter.unusedVariables false
namespace Go.Proofs.Ytbekhjcnmifnnaa.Pure
open Go.RowKit Go.Proofs.Ytbekhjcnmifnnaa.Q Go.Proofs.YtbekhjcnmifnnaaW.PrintWords Go.Proofs.YtbekhjcnmifnnaaW.PrintLast
theorem good_few (p : List S35) (q : Nat) (hq : q ≤ 1000) (hl : p.length ≤ q) (he : ∀ x ∈ p, x.f3.length ≤ 40 ∧ x.f1.size ≤ 40)
    (hp : ∀ y622 ∈ p, ((Lit.int .i64 y622.f0).wf = true ∧ y622.f1.size ≤ 140737488351232 ∧ True ∧ ((∀ y623 ∈ y622.f3, ((Lit.int .u8 y623.f0).wf = true ∧ (Lit.int .u8 y623.f1).wf = true)) ∧ y622.f3.length ≤ maxLen ∧ y622.f3.length * 2 ≤ 140737488351232))) : Good p :=
  ⟨by omega, fun x hx => ⟨by have := (he x hx).1; omega, fun y hy => by
    have h3 := (hp x hx).2.2.2.1 y hy
    exact ⟨(wf8 h3.1).1, (wf8 h3.1).2, (wf8 h3.2).1, (wf8 h3.2).2⟩⟩⟩
end Go.Proofs.Ytbekhjcnmifnnaa.Pure
