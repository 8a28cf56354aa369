-- Written by a program of this session's (wip/fork/rowgen.py): the pure statement of the law CodecSpoilt.
import Derived.Test.YtdgdabgbdephnaaQ23
namespace Go.Proofs.Ytdgdabgbdephnaa.Pure
open Go.RowKit Go.Proofs.Ytdgdabgbdephnaa.Q Go.Proofs.YtdgdabgbdephnaaW.PrintWords Go.Proofs.YtdgdabgbdephnaaW.PrintLast
def CodecSpoiltPure : Prop := ∀ (a0_0 : Int) (l0_1 : List Int) (a0_2 : Int) (a0_3 : Int), (Lit.int .u8 a0_0).wf = true → ((∀ y509 ∈ l0_1, (Lit.int .u8 y509).wf = true) ∧ l0_1.length ≤ maxLen ∧ l0_1.length * 1 ≤ 140737488351232) → (Lit.int .u8 a0_2).wf = true → (Lit.int .u8 a0_3).wf = true → ∃ k, jobshelllaw03_CodecSpoilt.f k a0_0 l0_1 a0_2 a0_3 = some true
end Go.Proofs.Ytdgdabgbdephnaa.Pure
