-- Written by a program of this session's (wip/fork/rowgen.py): the pure statement of the law SchedBegins.
import Derived.Test.YteffbobpffkjlaaQ19
namespace Go.Proofs.Yteffbobpffkjlaa.Pure
open Go.RowKit Go.Proofs.Yteffbobpffkjlaa.Q Go.Proofs.YteffbobpffkjlaaW.PrintWords Go.Proofs.YteffbobpffkjlaaW.PrintLast
def SchedBeginsPure : Prop := ∀ (l0 : List Int) (l1 : List Int) (l2 : List Int) (a3 : Int), ((∀ y332 ∈ l0, (Lit.int .i64 y332).wf = true) ∧ l0.length ≤ maxLen ∧ l0.length * 8 ≤ 140737488351232) → ((∀ y333 ∈ l1, (Lit.int .i64 y333).wf = true) ∧ l1.length ≤ maxLen ∧ l1.length * 8 ≤ 140737488351232) → ((∀ y334 ∈ l2, (Lit.int .i64 y334).wf = true) ∧ l2.length ≤ maxLen ∧ l2.length * 8 ≤ 140737488351232) → (Lit.int .i64 a3).wf = true → ∃ k, jobshelllaw32_SchedBegins.f k l0 l1 l2 a3 = some true
end Go.Proofs.Yteffbobpffkjlaa.Pure
