-- Written by a program of this session's (wip/fork/rowgen.py): the pure statement of the law CodecSums.
import Derived.Test.YtdgdabgbdephnaaQ10
namespace Go.Proofs.Ytdgdabgbdephnaa.Pure
open Go.RowKit Go.Proofs.Ytdgdabgbdephnaa.Q Go.Proofs.YtdgdabgbdephnaaW.PrintWords Go.Proofs.YtdgdabgbdephnaaW.PrintLast
def CodecSumsPure : Prop := ∀ (l0 : List Int) (a1 : Int) (a2 : Int), ((∀ y504 ∈ l0, (Lit.int .u8 y504).wf = true) ∧ l0.length ≤ maxLen ∧ l0.length * 1 ≤ 140737488351232) → (Lit.int .u8 a1).wf = true → (Lit.int .u8 a2).wf = true → ∃ k, jobshelllaw03_CodecSums.f k l0 a1 a2 = some true
end Go.Proofs.Ytdgdabgbdephnaa.Pure
