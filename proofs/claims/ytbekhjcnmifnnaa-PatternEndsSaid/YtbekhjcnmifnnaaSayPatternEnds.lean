-- Written by a program of this session's (wip/fork/rowgen.py): the pure statement of the law PatternEnds.
import Derived.Test.YtbekhjcnmifnnaaQ49
namespace Go.Proofs.Ytbekhjcnmifnnaa.Pure
open Go.RowKit Go.Proofs.Ytbekhjcnmifnnaa.Q Go.Proofs.YtbekhjcnmifnnaaW.PrintWords Go.Proofs.YtbekhjcnmifnnaaW.PrintLast
def PatternEndsPure : Prop := ∀ (l0 : List (S35)) (a1 : ByteArray) (a2 : Bool), ((∀ y624 ∈ l0, ((Lit.int .i64 y624.f0).wf = true ∧ y624.f1.size ≤ 140737488351232 ∧ True ∧ ((∀ y625 ∈ y624.f3, ((Lit.int .u8 y625.f0).wf = true ∧ (Lit.int .u8 y625.f1).wf = true)) ∧ y624.f3.length ≤ maxLen ∧ y624.f3.length * 2 ≤ 140737488351232))) ∧ l0.length ≤ maxLen ∧ l0.length * 56 ≤ 140737488351232) → a1.size ≤ 140737488351232 → ∃ k, jobshelllaw04_PatternEnds.f k l0 a1 a2 = some true
end Go.Proofs.Ytbekhjcnmifnnaa.Pure
