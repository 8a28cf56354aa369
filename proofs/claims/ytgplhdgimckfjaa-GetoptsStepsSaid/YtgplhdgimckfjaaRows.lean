/-
  No cell of these rows narrows 'for every input' (looked for: loops, veiled, ifaces, maps, wideKeys, modest, calm, conditions, laid).
  DERIVED. THE GIVEN ROWS OF THIS SEAT. 6 by the template 'for every input the law returns true; each argument reads behind the call as it read before'; 0 by the template 'total and deterministic' (their statements: YtgplhdgimckfjaaTotals.lean).
  GIVEN WITH THE SEED: the statements are not yours to turn. If you find one false, say at which input.
  Laid BY PROGRAM, IN A SANDBOX (cutbox-rows.mjs): the forced cells as the released guide's own fill.sh prints them over the translation b55d1fadbce20c9a… (all of the seat's roots in one cut). By AI agents, Wed Nov 11 2026. No macro, syntax, notation, axiom, sorry.
-/
import Derived.Test.YtgplhdgimckfjaaChecked
import GoSem.Claim
import GoSem.ClaimJoined
import GoSem.ClaimMapViews
import Derived.JoinedTies
import Derived.KernelRfl
namespace Go.Proofs.Ytgplhdgimckfjaa
/- THE CELL 'sum', in the pinned program and in every row, IS THE sha256 OF THE DUMP (.gsa) THAT YtgplhdgimckfjaaProg.lean LOADS. Nothing in Lean hashes anything: it is a label: what it is worth is what the hold of that sum in a sandbox is worth. -/
noncomputable def Try.pinned : Pinned := { name := "ytgplhdgimckfjaa", sum := "b55d1fadbce20c9a9dec0f0f24c33833e6e8e72ba48406988753e38d9dcb7c95", checked := Try.checked }
namespace Rows
def none {H : Type} : Left H := { results := [], args := [] }

/-- 'jobshelllaw16.GetoptsValid': WHATEVER THE INPUT: true; the input reads as it did. -/
def getoptsValidSpec : ChangeSpec := { name := "getoptsValid", fn := fun _ => fun
  | [d] => { results := [.lit (.bool true)], args := [d] }
  | _ => none }
def getoptsValidRow : OpenClaim := { program := "ytgplhdgimckfjaa", sum := "b55d1fadbce20c9a9dec0f0f24c33833e6e8e72ba48406988753e38d9dcb7c95", func := "jobshell/jobshelllaw16.GetoptsValid", spec := "getoptsValid", apart := false }
def GetoptsValidSaid : Prop := getoptsValidRow.holds Try.pinned (OpenSpec.ofChange getoptsValidSpec)

/-- ITS FALSE NEIGHBOUR: 'it returns false'. Refute it at one input. -/
def getoptsValidWrong : ChangeSpec := { name := "getoptsValid", fn := fun _ => fun
  | [d] => { results := [.lit (.bool false)], args := [d] }
  | _ => none }
def GetoptsValidWrongFalsely : Prop := getoptsValidRow.holds Try.pinned (OpenSpec.ofChange getoptsValidWrong)

/-- 'jobshelllaw16.GetoptsNexts': WHATEVER THE INPUT: true; the input reads as it did. -/
def getoptsNextsSpec : ChangeSpec := { name := "getoptsNexts", fn := fun _ => fun
  | [d1, d2, d3] => { results := [.lit (.bool true)], args := [d1, d2, d3] }
  | _ => none }
def getoptsNextsRow : OpenClaim := { program := "ytgplhdgimckfjaa", sum := "b55d1fadbce20c9a9dec0f0f24c33833e6e8e72ba48406988753e38d9dcb7c95", func := "jobshell/jobshelllaw16.GetoptsNexts", spec := "getoptsNexts", apart := false }
def GetoptsNextsSaid : Prop := getoptsNextsRow.holds Try.pinned (OpenSpec.ofChange getoptsNextsSpec)

/-- ITS FALSE NEIGHBOUR: 'it returns false'. Refute it at one input. -/
def getoptsNextsWrong : ChangeSpec := { name := "getoptsNexts", fn := fun _ => fun
  | [d1, d2, d3] => { results := [.lit (.bool false)], args := [d1, d2, d3] }
  | _ => none }
def GetoptsNextsWrongFalsely : Prop := getoptsNextsRow.holds Try.pinned (OpenSpec.ofChange getoptsNextsWrong)

/-- 'jobshelllaw16.GetoptsAlls': WHATEVER THE INPUT: true; the input reads as it did. -/
def getoptsAllsSpec : ChangeSpec := { name := "getoptsAlls", fn := fun _ => fun
  | [d1, d2] => { results := [.lit (.bool true)], args := [d1, d2] }
  | _ => none }
def getoptsAllsRow : OpenClaim := { program := "ytgplhdgimckfjaa", sum := "b55d1fadbce20c9a9dec0f0f24c33833e6e8e72ba48406988753e38d9dcb7c95", func := "jobshell/jobshelllaw16.GetoptsAlls", spec := "getoptsAlls", apart := false }
def GetoptsAllsSaid : Prop := getoptsAllsRow.holds Try.pinned (OpenSpec.ofChange getoptsAllsSpec)

/-- ITS FALSE NEIGHBOUR: 'it returns false'. Refute it at one input. -/
def getoptsAllsWrong : ChangeSpec := { name := "getoptsAlls", fn := fun _ => fun
  | [d1, d2] => { results := [.lit (.bool false)], args := [d1, d2] }
  | _ => none }
def GetoptsAllsWrongFalsely : Prop := getoptsAllsRow.holds Try.pinned (OpenSpec.ofChange getoptsAllsWrong)

/-- 'jobshelllaw16.GetoptsSteps': WHATEVER THE INPUT: true; the input reads as it did. -/
def getoptsStepsSpec : ChangeSpec := { name := "getoptsSteps", fn := fun _ => fun
  | [d1, d2] => { results := [.lit (.bool true)], args := [d1, d2] }
  | _ => none }
def getoptsStepsRow : OpenClaim := { program := "ytgplhdgimckfjaa", sum := "b55d1fadbce20c9a9dec0f0f24c33833e6e8e72ba48406988753e38d9dcb7c95", func := "jobshell/jobshelllaw16.GetoptsSteps", spec := "getoptsSteps", apart := false }
def GetoptsStepsSaid : Prop := getoptsStepsRow.holds Try.pinned (OpenSpec.ofChange getoptsStepsSpec)

/-- ITS FALSE NEIGHBOUR: 'it returns false'. Refute it at one input. -/
def getoptsStepsWrong : ChangeSpec := { name := "getoptsSteps", fn := fun _ => fun
  | [d1, d2] => { results := [.lit (.bool false)], args := [d1, d2] }
  | _ => none }
def GetoptsStepsWrongFalsely : Prop := getoptsStepsRow.holds Try.pinned (OpenSpec.ofChange getoptsStepsWrong)

/-- 'jobshelllaw16.GetoptsOperands': WHATEVER THE INPUT: true; the input reads as it did. -/
def getoptsOperandsSpec : ChangeSpec := { name := "getoptsOperands", fn := fun _ => fun
  | [d1, d2, d3] => { results := [.lit (.bool true)], args := [d1, d2, d3] }
  | _ => none }
def getoptsOperandsRow : OpenClaim := { program := "ytgplhdgimckfjaa", sum := "b55d1fadbce20c9a9dec0f0f24c33833e6e8e72ba48406988753e38d9dcb7c95", func := "jobshell/jobshelllaw16.GetoptsOperands", spec := "getoptsOperands", apart := false }
def GetoptsOperandsSaid : Prop := getoptsOperandsRow.holds Try.pinned (OpenSpec.ofChange getoptsOperandsSpec)

/-- ITS FALSE NEIGHBOUR: 'it returns false'. Refute it at one input. -/
def getoptsOperandsWrong : ChangeSpec := { name := "getoptsOperands", fn := fun _ => fun
  | [d1, d2, d3] => { results := [.lit (.bool false)], args := [d1, d2, d3] }
  | _ => none }
def GetoptsOperandsWrongFalsely : Prop := getoptsOperandsRow.holds Try.pinned (OpenSpec.ofChange getoptsOperandsWrong)

/-- 'jobshelllaw16.GetoptsSilent': WHATEVER THE INPUT: true; the input reads as it did. -/
def getoptsSilentSpec : ChangeSpec := { name := "getoptsSilent", fn := fun _ => fun
  | [d1, d2] => { results := [.lit (.bool true)], args := [d1, d2] }
  | _ => none }
def getoptsSilentRow : OpenClaim := { program := "ytgplhdgimckfjaa", sum := "b55d1fadbce20c9a9dec0f0f24c33833e6e8e72ba48406988753e38d9dcb7c95", func := "jobshell/jobshelllaw16.GetoptsSilent", spec := "getoptsSilent", apart := false }
def GetoptsSilentSaid : Prop := getoptsSilentRow.holds Try.pinned (OpenSpec.ofChange getoptsSilentSpec)

/-- ITS FALSE NEIGHBOUR: 'it returns false'. Refute it at one input. -/
def getoptsSilentWrong : ChangeSpec := { name := "getoptsSilent", fn := fun _ => fun
  | [d1, d2] => { results := [.lit (.bool false)], args := [d1, d2] }
  | _ => none }
def GetoptsSilentWrongFalsely : Prop := getoptsSilentRow.holds Try.pinned (OpenSpec.ofChange getoptsSilentWrong)

/- THE SECOND FORM. 'bulk': how many values and letters a reading holds, each counted each time it is reached (what is shared counts as often as it is met; a slice's spare places count too). A statement '..UptoSaid' is the law's where the arguments, and the package variables that the reading takes, are together of bulk at most 1048576: NARROWER than '..Said'. Prove '..Said' where nothing that the law and all that it calls make is longer than what came in: it says more and counts as full. Else prove '..UptoSaid'. A law counts once. -/
mutual
def uptoBulk {H : Type} : DataW H → Nat
  | .lit (.string bytes) => bytes.length + 1
  | .lit _ => 1
  | .nil => 1
  | .ptr d => uptoBulk d + 1
  | .slice elems spare => uptoBulkAll elems + uptoBulkAll spare + 1
  | .agg parts => uptoBulkAll parts + 1
  | .iface _ d => uptoBulk d + 1
  | .map entries => uptoBulkEntries entries + 1
  | .held _ => 1
def uptoBulkAll {H : Type} : List (DataW H) → Nat
  | [] => 0
  | d :: r => uptoBulk d + uptoBulkAll r
def uptoBulkEntries {H : Type} : List (Lit × DataW H) → Nat
  | [] => 0
  | x :: r => uptoBulkEntry x + uptoBulkEntries r
def uptoBulkEntry {H : Type} : Lit × DataW H → Nat
  | (.string bytes, d) => bytes.length + uptoBulk d + 1
  | (_, d) => uptoBulk d + 1
 end
def uptoSmall : (H : Type) → List (DataW H) → Bool := fun _ ds => decide (uptoBulkAll ds ≤ 1048576)
def OpenSpec.upto (s : _root_.Go.ChangeSpec) : _root_.Go.OpenSpec := { _root_.Go.OpenSpec.ofChange s with cond := some uptoSmall }

/-- 'jobshelllaw16.GetoptsValid', WHERE WHAT IT READS IS OF BULK AT MOST 1048576: true; the input reads as it did. -/
def getoptsValidUptoRow : OpenClaim := { program := "ytgplhdgimckfjaa", sum := "b55d1fadbce20c9a9dec0f0f24c33833e6e8e72ba48406988753e38d9dcb7c95", func := "jobshell/jobshelllaw16.GetoptsValid", spec := "getoptsValid", apart := false, narrowed := true }
def GetoptsValidUptoSaid : Prop := getoptsValidUptoRow.holds Try.pinned (OpenSpec.upto getoptsValidSpec)

/-- 'jobshelllaw16.GetoptsNexts', WHERE WHAT IT READS IS OF BULK AT MOST 1048576: true; the input reads as it did. -/
def getoptsNextsUptoRow : OpenClaim := { program := "ytgplhdgimckfjaa", sum := "b55d1fadbce20c9a9dec0f0f24c33833e6e8e72ba48406988753e38d9dcb7c95", func := "jobshell/jobshelllaw16.GetoptsNexts", spec := "getoptsNexts", apart := false, narrowed := true }
def GetoptsNextsUptoSaid : Prop := getoptsNextsUptoRow.holds Try.pinned (OpenSpec.upto getoptsNextsSpec)

/-- 'jobshelllaw16.GetoptsAlls', WHERE WHAT IT READS IS OF BULK AT MOST 1048576: true; the input reads as it did. -/
def getoptsAllsUptoRow : OpenClaim := { program := "ytgplhdgimckfjaa", sum := "b55d1fadbce20c9a9dec0f0f24c33833e6e8e72ba48406988753e38d9dcb7c95", func := "jobshell/jobshelllaw16.GetoptsAlls", spec := "getoptsAlls", apart := false, narrowed := true }
def GetoptsAllsUptoSaid : Prop := getoptsAllsUptoRow.holds Try.pinned (OpenSpec.upto getoptsAllsSpec)

/-- 'jobshelllaw16.GetoptsSteps', WHERE WHAT IT READS IS OF BULK AT MOST 1048576: true; the input reads as it did. -/
def getoptsStepsUptoRow : OpenClaim := { program := "ytgplhdgimckfjaa", sum := "b55d1fadbce20c9a9dec0f0f24c33833e6e8e72ba48406988753e38d9dcb7c95", func := "jobshell/jobshelllaw16.GetoptsSteps", spec := "getoptsSteps", apart := false, narrowed := true }
def GetoptsStepsUptoSaid : Prop := getoptsStepsUptoRow.holds Try.pinned (OpenSpec.upto getoptsStepsSpec)

/-- 'jobshelllaw16.GetoptsOperands', WHERE WHAT IT READS IS OF BULK AT MOST 1048576: true; the input reads as it did. -/
def getoptsOperandsUptoRow : OpenClaim := { program := "ytgplhdgimckfjaa", sum := "b55d1fadbce20c9a9dec0f0f24c33833e6e8e72ba48406988753e38d9dcb7c95", func := "jobshell/jobshelllaw16.GetoptsOperands", spec := "getoptsOperands", apart := false, narrowed := true }
def GetoptsOperandsUptoSaid : Prop := getoptsOperandsUptoRow.holds Try.pinned (OpenSpec.upto getoptsOperandsSpec)

/-- 'jobshelllaw16.GetoptsSilent', WHERE WHAT IT READS IS OF BULK AT MOST 1048576: true; the input reads as it did. -/
def getoptsSilentUptoRow : OpenClaim := { program := "ytgplhdgimckfjaa", sum := "b55d1fadbce20c9a9dec0f0f24c33833e6e8e72ba48406988753e38d9dcb7c95", func := "jobshell/jobshelllaw16.GetoptsSilent", spec := "getoptsSilent", apart := false, narrowed := true }
def GetoptsSilentUptoSaid : Prop := getoptsSilentUptoRow.holds Try.pinned (OpenSpec.upto getoptsSilentSpec)

end Rows
end Go.Proofs.Ytgplhdgimckfjaa
