-- Written by a program of this session's (wip/fork/rowgen.py): the pure statement of the law GetoptsOperands.
import Derived.Test.YtgplhdgimckfjaaQ25
namespace Go.Proofs.Ytgplhdgimckfjaa.Pure
open Go.RowKit Go.Proofs.Ytgplhdgimckfjaa.Q Go.Proofs.YtgplhdgimckfjaaW.PrintWords Go.Proofs.YtgplhdgimckfjaaW.PrintLast
def GetoptsOperandsPure : Prop := ∀ (a0 : ByteArray) (l1 : List ByteArray) (l2 : List ByteArray), a0.size ≤ 140737488351232 → ((∀ y365 ∈ l1, y365.size ≤ 140737488351232) ∧ l1.length ≤ maxLen ∧ l1.length * 16 ≤ 140737488351232) → ((∀ y366 ∈ l2, y366.size ≤ 140737488351232) ∧ l2.length ≤ maxLen ∧ l2.length * 16 ≤ 140737488351232) → ∃ k, jobshelllaw16_GetoptsOperands.f k a0 l1 l2 = some true
end Go.Proofs.Ytgplhdgimckfjaa.Pure
