-- Written by a program of this session's (wip/fork/rowgen.py): the pure statement of the law PatternCompiles.
import Derived.Test.YtbekhjcnmifnnaaQ39
namespace Go.Proofs.Ytbekhjcnmifnnaa.Pure
open Go.RowKit Go.Proofs.Ytbekhjcnmifnnaa.Q Go.Proofs.YtbekhjcnmifnnaaW.PrintWords Go.Proofs.YtbekhjcnmifnnaaW.PrintLast
def PatternCompilesPure : Prop := ∀ (l0 : List (S47)), ((∀ y619 ∈ l0, (y619.f0.size ≤ 140737488351232 ∧ (Lit.int .i64 y619.f1).wf = true)) ∧ l0.length ≤ maxLen ∧ l0.length * 24 ≤ 140737488351232) → ∃ k, jobshelllaw04_PatternCompiles.f k l0 = some true
end Go.Proofs.Ytbekhjcnmifnnaa.Pure
