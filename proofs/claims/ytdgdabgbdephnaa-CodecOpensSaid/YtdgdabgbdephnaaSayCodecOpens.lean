-- Written by a program of this session's (wip/fork/rowgen.py): the pure statement of the law CodecOpens.
import Derived.Test.YtdgdabgbdephnaaQ22
namespace Go.Proofs.Ytdgdabgbdephnaa.Pure
open Go.RowKit Go.Proofs.Ytdgdabgbdephnaa.Q Go.Proofs.YtdgdabgbdephnaaW.PrintWords Go.Proofs.YtdgdabgbdephnaaW.PrintLast
def CodecOpensPure : Prop := ∀ (l0 : List Int) (a1 : Bool), ((∀ y508 ∈ l0, (Lit.int .u8 y508).wf = true) ∧ l0.length ≤ maxLen ∧ l0.length * 1 ≤ 140737488351232) → ∃ k, jobshelllaw03_CodecOpens.f k l0 a1 = some true
end Go.Proofs.Ytdgdabgbdephnaa.Pure
