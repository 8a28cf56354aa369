-- Written by a program of this session's (wip/fork/rowgen.py): the pure statement of the law PatternRuns.
import Derived.Test.YtbekhjcnmifnnaaQ42
namespace Go.Proofs.Ytbekhjcnmifnnaa.Pure
open Go.RowKit Go.Proofs.Ytbekhjcnmifnnaa.Q Go.Proofs.YtbekhjcnmifnnaaW.PrintWords Go.Proofs.YtbekhjcnmifnnaaW.PrintLast
def PatternRunsPure : Prop := ∀ (l0 : List (S35)), ((∀ y620 ∈ l0, ((Lit.int .i64 y620.f0).wf = true ∧ y620.f1.size ≤ 140737488351232 ∧ True ∧ ((∀ y621 ∈ y620.f3, ((Lit.int .u8 y621.f0).wf = true ∧ (Lit.int .u8 y621.f1).wf = true)) ∧ y620.f3.length ≤ maxLen ∧ y620.f3.length * 2 ≤ 140737488351232))) ∧ l0.length ≤ maxLen ∧ l0.length * 56 ≤ 140737488351232) → ∃ k, jobshelllaw04_PatternRuns.f k l0 = some true
end Go.Proofs.Ytbekhjcnmifnnaa.Pure
