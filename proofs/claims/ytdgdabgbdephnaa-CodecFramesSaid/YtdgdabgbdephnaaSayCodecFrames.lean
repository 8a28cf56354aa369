-- Written by a program of this session's (wip/fork/rowgen.py): the pure statement of the law CodecFrames.
import Derived.Test.YtdgdabgbdephnaaQ20
namespace Go.Proofs.Ytdgdabgbdephnaa.Pure
open Go.RowKit Go.Proofs.Ytdgdabgbdephnaa.Q Go.Proofs.YtdgdabgbdephnaaW.PrintWords Go.Proofs.YtdgdabgbdephnaaW.PrintLast
def CodecFramesPure : Prop := ∀ (a0 : Int) (l1 : List Int) (l2 : List Int), (Lit.int .i64 a0).wf = true → ((∀ y506 ∈ l1, (Lit.int .u8 y506).wf = true) ∧ l1.length ≤ maxLen ∧ l1.length * 1 ≤ 140737488351232) → ((∀ y507 ∈ l2, (Lit.int .u8 y507).wf = true) ∧ l2.length ≤ maxLen ∧ l2.length * 1 ≤ 140737488351232) → ∃ k, jobshelllaw03_CodecFrames.f k a0 l1 l2 = some true
end Go.Proofs.Ytdgdabgbdephnaa.Pure
