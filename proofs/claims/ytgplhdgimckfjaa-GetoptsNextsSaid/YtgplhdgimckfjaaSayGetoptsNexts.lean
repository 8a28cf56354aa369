-- Written by a program of this session's (wip/fork/rowgen.py): the pure statement of the law GetoptsNexts.
import Derived.Test.YtgplhdgimckfjaaQ20
namespace Go.Proofs.Ytgplhdgimckfjaa.Pure
open Go.RowKit Go.Proofs.Ytgplhdgimckfjaa.Q Go.Proofs.YtgplhdgimckfjaaW.PrintWords Go.Proofs.YtgplhdgimckfjaaW.PrintLast
def GetoptsNextsPure : Prop := ∀ (a0 : ByteArray) (l1 : List ByteArray) (a2_0 : Int) (a2_1 : Int), a0.size ≤ 140737488351232 → ((∀ y362 ∈ l1, y362.size ≤ 140737488351232) ∧ l1.length ≤ maxLen ∧ l1.length * 16 ≤ 140737488351232) → (Lit.int .i64 a2_0).wf = true → (Lit.int .i64 a2_1).wf = true → ∃ k, jobshelllaw16_GetoptsNexts.f k a0 l1 a2_0 a2_1 = some true
end Go.Proofs.Ytgplhdgimckfjaa.Pure
