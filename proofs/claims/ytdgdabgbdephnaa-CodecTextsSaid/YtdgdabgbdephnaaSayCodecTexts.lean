-- Written by a program of this session's (wip/fork/rowgen.py): the pure statement of the law CodecTexts.
import Derived.Test.YtdgdabgbdephnaaQ30
namespace Go.Proofs.Ytdgdabgbdephnaa.Pure
open Go.RowKit Go.Proofs.Ytdgdabgbdephnaa.Q Go.Proofs.YtdgdabgbdephnaaW.PrintWords Go.Proofs.YtdgdabgbdephnaaW.PrintLast
def CodecTextsPure : Prop := ∀ (l0 : List ByteArray) (l1 : List Int), ((∀ y510 ∈ l0, y510.size ≤ 140737488351232) ∧ l0.length ≤ maxLen ∧ l0.length * 16 ≤ 140737488351232) → ((∀ y511 ∈ l1, (Lit.int .u8 y511).wf = true) ∧ l1.length ≤ maxLen ∧ l1.length * 1 ≤ 140737488351232) → ∃ k, jobshelllaw03_CodecTexts.f k l0 l1 = some true
end Go.Proofs.Ytdgdabgbdephnaa.Pure
