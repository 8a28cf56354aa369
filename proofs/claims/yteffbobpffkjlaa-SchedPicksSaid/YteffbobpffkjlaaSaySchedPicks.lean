-- Written by a program of this session's (wip/fork/rowgen.py): the pure statement of the law SchedPicks.
import Derived.Test.YteffbobpffkjlaaQ15
namespace Go.Proofs.Yteffbobpffkjlaa.Pure
open Go.RowKit Go.Proofs.Yteffbobpffkjlaa.Q Go.Proofs.YteffbobpffkjlaaW.PrintWords Go.Proofs.YteffbobpffkjlaaW.PrintLast
def SchedPicksPure : Prop := ∀ (a0_0 : Int) (a0_1 : Int) (a0_2 : Int) (l0_3 : List Int) (l1 : List Int), (Lit.int .i64 a0_0).wf = true → (Lit.int .i64 a0_1).wf = true → (Lit.int .u64 a0_2).wf = true → ((∀ y327 ∈ l0_3, (Lit.int .i64 y327).wf = true) ∧ l0_3.length ≤ maxLen ∧ l0_3.length * 8 ≤ 140737488351232) → ((∀ y328 ∈ l1, (Lit.int .i64 y328).wf = true) ∧ l1.length ≤ maxLen ∧ l1.length * 8 ≤ 140737488351232) → ∃ k, jobshelllaw32_SchedPicks.f k a0_0 a0_1 a0_2 l0_3 l1 = some true
end Go.Proofs.Yteffbobpffkjlaa.Pure
