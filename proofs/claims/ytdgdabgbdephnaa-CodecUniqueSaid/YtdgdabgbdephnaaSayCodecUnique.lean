-- Written by a program of this session's (wip/fork/rowgen.py): the pure statement of the law CodecUnique.
import Derived.Test.YtdgdabgbdephnaaQ31
namespace Go.Proofs.Ytdgdabgbdephnaa.Pure
open Go.RowKit Go.Proofs.Ytdgdabgbdephnaa.Q Go.Proofs.YtdgdabgbdephnaaW.PrintWords Go.Proofs.YtdgdabgbdephnaaW.PrintLast
def CodecUniquePure : Prop := ∀ (l0 : List Int), ((∀ y211 ∈ l0, (Lit.int .u8 y211).wf = true) ∧ l0.length ≤ maxLen ∧ l0.length * 1 ≤ 140737488351232) → ∃ k, jobshelllaw03_CodecUnique.f k l0 = some true
end Go.Proofs.Ytdgdabgbdephnaa.Pure
