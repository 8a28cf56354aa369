-- Written by a program of this session's (wip/fork/rowgen.py): the pure statement of the law SchedValid.
import Derived.Test.YteffbobpffkjlaaQ8
namespace Go.Proofs.Yteffbobpffkjlaa.Pure
open Go.RowKit Go.Proofs.Yteffbobpffkjlaa.Q Go.Proofs.YteffbobpffkjlaaW.PrintWords Go.Proofs.YteffbobpffkjlaaW.PrintLast
def SchedValidPure : Prop := ∀ (a0_0 : Int) (a0_1 : Int) (a0_2 : Int) (l0_3 : List Int) (a1 : Int), (Lit.int .i64 a0_0).wf = true → (Lit.int .i64 a0_1).wf = true → (Lit.int .u64 a0_2).wf = true → ((∀ y326 ∈ l0_3, (Lit.int .i64 y326).wf = true) ∧ l0_3.length ≤ maxLen ∧ l0_3.length * 8 ≤ 140737488351232) → (Lit.int .i64 a1).wf = true → ∃ k, jobshelllaw32_SchedValid.f k a0_0 a0_1 a0_2 l0_3 a1 = some true
end Go.Proofs.Yteffbobpffkjlaa.Pure
