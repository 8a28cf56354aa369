-- Written by a program of this session's (wip/fork/rowgen.py): the pure statement of the law PatternJoins.
import Derived.Test.YtbekhjcnmifnnaaQ25
namespace Go.Proofs.Ytbekhjcnmifnnaa.Pure
open Go.RowKit Go.Proofs.Ytbekhjcnmifnnaa.Q Go.Proofs.YtbekhjcnmifnnaaW.PrintWords Go.Proofs.YtbekhjcnmifnnaaW.PrintLast
def PatternJoinsPure : Prop := ∀ (a0 : ByteArray) (l1 : List (S47)) (a2 : ByteArray), a0.size ≤ 140737488351232 → ((∀ y616 ∈ l1, (y616.f0.size ≤ 140737488351232 ∧ (Lit.int .i64 y616.f1).wf = true)) ∧ l1.length ≤ maxLen ∧ l1.length * 24 ≤ 140737488351232) → a2.size ≤ 140737488351232 → ∃ k, jobshelllaw04_PatternJoins.f k a0 l1 a2 = some true
end Go.Proofs.Ytbekhjcnmifnnaa.Pure
