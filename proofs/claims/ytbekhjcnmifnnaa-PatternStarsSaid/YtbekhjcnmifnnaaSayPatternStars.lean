-- Written by a program of this session's (wip/fork/rowgen.py): the pure statement of the law PatternStars.
import Derived.Test.YtbekhjcnmifnnaaQ28
namespace Go.Proofs.Ytbekhjcnmifnnaa.Pure
open Go.RowKit Go.Proofs.Ytbekhjcnmifnnaa.Q Go.Proofs.YtbekhjcnmifnnaaW.PrintWords Go.Proofs.YtbekhjcnmifnnaaW.PrintLast
def PatternStarsPure : Prop := ∀ (l0 : List (S35)) (a1 : ByteArray) (a2 : ByteArray), ((∀ y617 ∈ l0, ((Lit.int .i64 y617.f0).wf = true ∧ y617.f1.size ≤ 140737488351232 ∧ True ∧ ((∀ y618 ∈ y617.f3, ((Lit.int .u8 y618.f0).wf = true ∧ (Lit.int .u8 y618.f1).wf = true)) ∧ y617.f3.length ≤ maxLen ∧ y617.f3.length * 2 ≤ 140737488351232))) ∧ l0.length ≤ maxLen ∧ l0.length * 56 ≤ 140737488351232) → a1.size ≤ 140737488351232 → a2.size ≤ 140737488351232 → ∃ k, jobshelllaw04_PatternStars.f k l0 a1 a2 = some true
end Go.Proofs.Ytbekhjcnmifnnaa.Pure
