-- Written by a program of this session's (wip/fork/rowgen.py): the pure statement of the law SchedFair.
import Derived.Test.YteffbobpffkjlaaQ18
namespace Go.Proofs.Yteffbobpffkjlaa.Pure
open Go.RowKit Go.Proofs.Yteffbobpffkjlaa.Q Go.Proofs.YteffbobpffkjlaaW.PrintWords Go.Proofs.YteffbobpffkjlaaW.PrintLast
def SchedFairPure : Prop := ∀ (a0 : Int) (l1 : List Int), (Lit.int .i64 a0).wf = true → ((∀ y331 ∈ l1, (Lit.int .i64 y331).wf = true) ∧ l1.length ≤ maxLen ∧ l1.length * 8 ≤ 140737488351232) → ∃ k, jobshelllaw32_SchedFair.f k a0 l1 = some true
end Go.Proofs.Yteffbobpffkjlaa.Pure
