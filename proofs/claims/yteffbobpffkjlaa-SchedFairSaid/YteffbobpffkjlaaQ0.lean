-- Written by a program of this session's (wip/fork/fprint.py over the kit's print.py). Not trusted: Lean checks it.
import Derived.Test.YteffbobpffkjlaaProg
import Derived.Below
import Derived.Deep.Draws
import Derived.Deep.AppendLies
import Derived.Maps.AppendAt
import Derived.OwnWalk
import Derived.Laws.BytesArg
import Derived.Laws.MakeOwn
import Derived.Laws.OwnMore
import Derived.Deep.OwnRows
import Derived.Tactics
import Derived.Lib.ConvBytes
import Derived.Laws.Slices
import Derived.WalkKit
import Derived.KernelRfl
import Derived.RowKit3
import Derived.Deep.LoopGhost
import Derived.Deep.QuietTactic
import Derived.BigQuiet
import Derived.WideLaws
import Derived.Deep.DeepCutAuto
import Derived.Deep.CutBlock
import Derived.Deep.RegionHeld3
import Derived.Laws.Rows
import Derived.Lib.AppendStr
import Derived.ArgAppend
import Derived.Laws.IdiomCopy
import Derived.OrdersHeld
import Derived.Laws.BitsLemmas
import Derived.RowKit
import Derived.Test.YteffbobpffkjlaaWWords
import Derived.Test.YteffbobpffkjlaaWLast
import Derived.Test.YteffbobpffkjlaaWTab
import Derived.Test.YteffbobpffkjlaaWFour
import Derived.Test.YteffbobpffkjlaaWQPut
import Derived.Test.YteffbobpffkjlaaWApart
import Derived.Test.YteffbobpffkjlaaWArr
import Derived.Test.YteffbobpffkjlaaWZeros
import Derived.Test.YteffbobpffkjlaaWFoot
import Derived.Test.YteffbobpffkjlaaWKept
import Derived.Test.YteffbobpffkjlaaWShare
import Derived.Test.YteffbobpffkjlaaWN
import Derived.Test.YteffbobpffkjlaaWFootNe
import Derived.Test.YteffbobpffkjlaaWAt
import Derived.Test.YteffbobpffkjlaaWEqStruct
import Derived.Test.YteffbobpffkjlaaWRepsOne
import Derived.Test.YteffbobpffkjlaaWInv
import Derived.Test.YteffbobpffkjlaaWInvWords
import Derived.Test.YteffbobpffkjlaaWGuard
import Derived.Test.YteffbobpffkjlaaWNEv
import Derived.Test.YteffbobpffkjlaaWMore
namespace Go.Proofs.Yteffbobpffkjlaa.Q
open Go.RowKit Go.Proofs.YteffbobpffkjlaaW.PrintWords Go.Proofs.YteffbobpffkjlaaW.PrintLast Go.Proofs.YteffbobpffkjlaaW.PrintMore
attribute [local go_sem] max2_int min2_int max_two min_two max_three min_three max_four min_four   -- for this text's walks alone
set_option linter.unusedVariables false
set_option linter.unusedSimpArgs false



def errW : Option Int → Value
  | none => .nilIface
  | some c => .iface 0 (.int .i64 c)
theorem errW_none : errW none = .nilIface := rfl
theorem errW_some (c : Int) : errW (some c) = .iface 0 (.int .i64 c) := rfl

theorem info3 : (Try.prog.info? 3).map (fun i => (i.zero, i.size, i.bytes)) = some (some (.int .i64 0), 1, 8) := by kernel_rfl
theorem fk_setCell_drewN (w : World) (n : Nat) (p : Addr) (v : Value) : (w.drewN n).setCell p v = (w.setCell p v).drewN n := rfl
-- the values' own types

end Go.Proofs.Yteffbobpffkjlaa.Q
