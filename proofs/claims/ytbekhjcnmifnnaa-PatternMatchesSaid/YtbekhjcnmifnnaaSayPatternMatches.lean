-- Written by a program of this session's (wip/fork/rowgen.py): the pure statement of the law PatternMatches.
import Derived.Test.YtbekhjcnmifnnaaQ46
namespace Go.Proofs.Ytbekhjcnmifnnaa.Pure
open Go.RowKit Go.Proofs.Ytbekhjcnmifnnaa.Q Go.Proofs.YtbekhjcnmifnnaaW.PrintWords Go.Proofs.YtbekhjcnmifnnaaW.PrintLast
def PatternMatchesPure : Prop := ∀ (l0 : List (S35)) (a1 : ByteArray), ((∀ y622 ∈ l0, ((Lit.int .i64 y622.f0).wf = true ∧ y622.f1.size ≤ 140737488351232 ∧ True ∧ ((∀ y623 ∈ y622.f3, ((Lit.int .u8 y623.f0).wf = true ∧ (Lit.int .u8 y623.f1).wf = true)) ∧ y622.f3.length ≤ maxLen ∧ y622.f3.length * 2 ≤ 140737488351232))) ∧ l0.length ≤ maxLen ∧ l0.length * 56 ≤ 140737488351232) → a1.size ≤ 140737488351232 → ∃ k, jobshelllaw04_PatternMatches.f k l0 a1 = some true
end Go.Proofs.Ytbekhjcnmifnnaa.Pure
