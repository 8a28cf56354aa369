-- Written by a program of this session's (wip/fork/rowgen.py): the pure statement of the law PatternLiterals.
import Derived.Test.YtbekhjcnmifnnaaQ52
namespace Go.Proofs.Ytbekhjcnmifnnaa.Pure
open Go.RowKit Go.Proofs.Ytbekhjcnmifnnaa.Q Go.Proofs.YtbekhjcnmifnnaaW.PrintWords Go.Proofs.YtbekhjcnmifnnaaW.PrintLast
def PatternLiteralsPure : Prop := ∀ (l0 : List (S35)) (l1 : List (S47)), ((∀ y626 ∈ l0, ((Lit.int .i64 y626.f0).wf = true ∧ y626.f1.size ≤ 140737488351232 ∧ True ∧ ((∀ y627 ∈ y626.f3, ((Lit.int .u8 y627.f0).wf = true ∧ (Lit.int .u8 y627.f1).wf = true)) ∧ y626.f3.length ≤ maxLen ∧ y626.f3.length * 2 ≤ 140737488351232))) ∧ l0.length ≤ maxLen ∧ l0.length * 56 ≤ 140737488351232) → ((∀ y628 ∈ l1, (y628.f0.size ≤ 140737488351232 ∧ (Lit.int .i64 y628.f1).wf = true)) ∧ l1.length ≤ maxLen ∧ l1.length * 24 ≤ 140737488351232) → ∃ k, jobshelllaw04_PatternLiterals.f k l0 l1 = some true
end Go.Proofs.Ytbekhjcnmifnnaa.Pure
