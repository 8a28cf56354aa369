-- Written by a program of this session's (wip/fork/rowgen.py): the pure statement of the law CodecReads.
import Derived.Test.YtdgdabgbdephnaaQ16
namespace Go.Proofs.Ytdgdabgbdephnaa.Pure
open Go.RowKit Go.Proofs.Ytdgdabgbdephnaa.Q Go.Proofs.YtdgdabgbdephnaaW.PrintWords Go.Proofs.YtdgdabgbdephnaaW.PrintLast
def CodecReadsPure : Prop := ∀ (l0 : List Int), ((∀ y505 ∈ l0, (Lit.int .u8 y505).wf = true) ∧ l0.length ≤ maxLen ∧ l0.length * 1 ≤ 140737488351232) → ∃ k, jobshelllaw03_CodecReads.f k l0 = some true
end Go.Proofs.Ytdgdabgbdephnaa.Pure
