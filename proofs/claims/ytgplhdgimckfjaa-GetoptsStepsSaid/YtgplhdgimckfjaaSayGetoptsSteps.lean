-- Written by a program of this session's (wip/fork/rowgen.py): the pure statement of the law GetoptsSteps.
import Derived.Test.YtgplhdgimckfjaaQ24
namespace Go.Proofs.Ytgplhdgimckfjaa.Pure
open Go.RowKit Go.Proofs.Ytgplhdgimckfjaa.Q Go.Proofs.YtgplhdgimckfjaaW.PrintWords Go.Proofs.YtgplhdgimckfjaaW.PrintLast
def GetoptsStepsPure : Prop := ∀ (a0 : ByteArray) (l1 : List ByteArray), a0.size ≤ 140737488351232 → ((∀ y364 ∈ l1, y364.size ≤ 140737488351232) ∧ l1.length ≤ maxLen ∧ l1.length * 16 ≤ 140737488351232) → ∃ k, jobshelllaw16_GetoptsSteps.f k a0 l1 = some true
end Go.Proofs.Ytgplhdgimckfjaa.Pure
