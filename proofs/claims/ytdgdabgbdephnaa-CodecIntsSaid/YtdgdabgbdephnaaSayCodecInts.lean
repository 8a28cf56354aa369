-- Written by a program of this session's (wip/fork/rowgen.py): the pure statement of the law CodecInts.
import Derived.Test.YtdgdabgbdephnaaQ8
namespace Go.Proofs.Ytdgdabgbdephnaa.Pure
open Go.RowKit Go.Proofs.Ytdgdabgbdephnaa.Q Go.Proofs.YtdgdabgbdephnaaW.PrintWords Go.Proofs.YtdgdabgbdephnaaW.PrintLast
def CodecIntsPure : Prop := ∀ (a0 : Int) (l1 : List Int), (Lit.int .i64 a0).wf = true → ((∀ y503 ∈ l1, (Lit.int .u8 y503).wf = true) ∧ l1.length ≤ maxLen ∧ l1.length * 1 ≤ 140737488351232) → ∃ k, jobshelllaw03_CodecInts.f k a0 l1 = some true
end Go.Proofs.Ytdgdabgbdephnaa.Pure
