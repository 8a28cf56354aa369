-- Written by a program of this session's (wip/fork/rowgen.py): the pure statement of the law SchedStays.
import Derived.Test.YteffbobpffkjlaaQ17
namespace Go.Proofs.Yteffbobpffkjlaa.Pure
open Go.RowKit Go.Proofs.Yteffbobpffkjlaa.Q Go.Proofs.YteffbobpffkjlaaW.PrintWords Go.Proofs.YteffbobpffkjlaaW.PrintLast
def SchedStaysPure : Prop := ∀ (a0_0 : Int) (a0_1 : Int) (a0_2 : Int) (l0_3 : List Int) (l1 : List Int) (a2 : Int), (Lit.int .i64 a0_0).wf = true → (Lit.int .i64 a0_1).wf = true → (Lit.int .u64 a0_2).wf = true → ((∀ y329 ∈ l0_3, (Lit.int .i64 y329).wf = true) ∧ l0_3.length ≤ maxLen ∧ l0_3.length * 8 ≤ 140737488351232) → ((∀ y330 ∈ l1, (Lit.int .i64 y330).wf = true) ∧ l1.length ≤ maxLen ∧ l1.length * 8 ≤ 140737488351232) → (Lit.int .u8 a2).wf = true → ∃ k, jobshelllaw32_SchedStays.f k a0_0 a0_1 a0_2 l0_3 l1 a2 = some true
end Go.Proofs.Yteffbobpffkjlaa.Pure
