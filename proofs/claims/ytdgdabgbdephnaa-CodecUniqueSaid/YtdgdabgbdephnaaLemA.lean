/- The examples of chapter 03 (awake), by evaluation. No conditions. -/
import Derived.Test.YtdgdabgbdephnaaQ6
import Derived.Test.YtdgdabgbdephnaaLem
set_option linter.unusedVariables false
namespace Go.Proofs.Ytdgdabgbdephnaa.Pure
open Go.RowKit Go.Proofs.Ytdgdabgbdephnaa.Q Go.Proofs.YtdgdabgbdephnaaW.PrintWords Go.Proofs.YtdgdabgbdephnaaW.PrintLast
set_option maxRecDepth 100000 in
theorem awake_200 : jobshelllaw03_awake.f 200 = some true := by kernel_rfl
theorem awake_ev : Ev (fun k => jobshelllaw03_awake.f k) true := Ev.of (fun k => jobshelllaw03_awake.mono k) awake_200
theorem awake_some : Ev (fun k => (jobshelllaw03_awake.f k).bind fun t => some t) true := Ev.bind awake_ev ev_const
end Go.Proofs.Ytdgdabgbdephnaa.Pure
