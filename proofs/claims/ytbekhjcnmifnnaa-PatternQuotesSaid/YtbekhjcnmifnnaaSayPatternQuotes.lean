-- Written by a program of this session's (wip/fork/rowgen.py): the pure statement of the law PatternQuotes.
import Derived.Test.YtbekhjcnmifnnaaQ53
namespace Go.Proofs.Ytbekhjcnmifnnaa.Pure
open Go.RowKit Go.Proofs.Ytbekhjcnmifnnaa.Q Go.Proofs.YtbekhjcnmifnnaaW.PrintWords Go.Proofs.YtbekhjcnmifnnaaW.PrintLast
def PatternQuotesPure : Prop := ∀ (a0 : ByteArray) (a1 : ByteArray), a0.size ≤ 140737488351232 → a1.size ≤ 140737488351232 → ∃ k, jobshelllaw04_PatternQuotes.f k a0 a1 = some true
end Go.Proofs.Ytbekhjcnmifnnaa.Pure
