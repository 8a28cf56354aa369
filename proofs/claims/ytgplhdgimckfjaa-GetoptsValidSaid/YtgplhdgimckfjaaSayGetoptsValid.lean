-- Written by a program of this session's (wip/fork/rowgen.py): the pure statement of the law GetoptsValid.
import Derived.Test.YtgplhdgimckfjaaQ15
namespace Go.Proofs.Ytgplhdgimckfjaa.Pure
open Go.RowKit Go.Proofs.Ytgplhdgimckfjaa.Q Go.Proofs.YtgplhdgimckfjaaW.PrintWords Go.Proofs.YtgplhdgimckfjaaW.PrintLast
def GetoptsValidPure : Prop := ∀ (a0 : ByteArray), a0.size ≤ 140737488351232 → ∃ k, jobshelllaw16_GetoptsValid.f k a0 = some true
end Go.Proofs.Ytgplhdgimckfjaa.Pure
