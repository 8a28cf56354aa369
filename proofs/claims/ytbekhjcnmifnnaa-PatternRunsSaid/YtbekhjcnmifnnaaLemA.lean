/- The examples of chapter 04 (awake), by evaluation; and that what a pattern's item reads lies in the blocks. No conditions. -/
import Derived.Test.YtbekhjcnmifnnaaQ24
import Derived.Test.YtbekhjcnmifnnaaLem
set_option linter.unusedVariables false
namespace Go.Proofs.Ytbekhjcnmifnnaa.Q
open Go.RowKit Go.Proofs.YtbekhjcnmifnnaaW.PrintWords Go.Proofs.YtbekhjcnmifnnaaW.PrintLast Go.Proofs.YtbekhjcnmifnnaaW.PrintMore
end Go.Proofs.Ytbekhjcnmifnnaa.Q
namespace Go.Proofs.Ytbekhjcnmifnnaa.Pure
open Go.RowKit Go.Proofs.Ytbekhjcnmifnnaa.Q Go.Proofs.YtbekhjcnmifnnaaW.PrintWords Go.Proofs.YtbekhjcnmifnnaaW.PrintLast
theorem awake_60 : jobshelllaw04_awake.f 60 = some true := by kernel_rfl
theorem awake_ev : Ev (fun k => jobshelllaw04_awake.f k) true := Ev.of (fun k => jobshelllaw04_awake.mono k) awake_60
theorem awake_some : Ev (fun k => (jobshelllaw04_awake.f k).bind fun t => some t) true := Ev.bind awake_ev ev_const
end Go.Proofs.Ytbekhjcnmifnnaa.Pure
