/-
  No cell of these rows narrows 'for every input' (looked for: loops, veiled, ifaces, maps, wideKeys, modest, calm, conditions, laid).
  DERIVED. THE GIVEN ROWS OF THIS SEAT. 8 by the template 'for every input the law returns true; each argument reads behind the call as it read before'; 0 by the template 'total and deterministic' (their statements: YtdgdabgbdephnaaTotals.lean).
  GIVEN WITH THE SEED: the statements are not yours to turn. If you find one false, say at which input.
  Laid BY PROGRAM, IN A SANDBOX (cutbox-rows.mjs): the forced cells as the released guide's own fill.sh prints them over the translation d9b031487631fd10… (all of the seat's roots in one cut). By AI agents, Wed Nov 11 2026. No macro, syntax, notation, axiom, sorry.
-/
import Derived.Test.YtdgdabgbdephnaaChecked
import GoSem.Claim
import GoSem.ClaimJoined
import GoSem.ClaimMapViews
import Derived.JoinedTies
import Derived.KernelRfl
namespace Go.Proofs.Ytdgdabgbdephnaa
/- THE CELL 'sum', in the pinned program and in every row, IS THE sha256 OF THE DUMP (.gsa) THAT YtdgdabgbdephnaaProg.lean LOADS. Nothing in Lean hashes anything: it is a label: what it is worth is what the hold of that sum in a sandbox is worth. -/
noncomputable def Try.pinned : Pinned := { name := "ytdgdabgbdephnaa", sum := "d9b031487631fd10a8dd64206fddaf733476b5a8c34e1e9f2f0f78d7777998b0", checked := Try.checked }
namespace Rows
def none {H : Type} : Left H := { results := [], args := [] }

/-- 'jobshelllaw03.CodecInts': WHATEVER THE INPUT: true; the input reads as it did. -/
def codecIntsSpec : ChangeSpec := { name := "codecInts", fn := fun _ => fun
  | [d1, d2] => { results := [.lit (.bool true)], args := [d1, d2] }
  | _ => none }
def codecIntsRow : OpenClaim := { program := "ytdgdabgbdephnaa", sum := "d9b031487631fd10a8dd64206fddaf733476b5a8c34e1e9f2f0f78d7777998b0", func := "jobshell/jobshelllaw03.CodecInts", spec := "codecInts", apart := false }
def CodecIntsSaid : Prop := codecIntsRow.holds Try.pinned (OpenSpec.ofChange codecIntsSpec)

/-- ITS FALSE NEIGHBOUR: 'it returns false'. Refute it at one input. -/
def codecIntsWrong : ChangeSpec := { name := "codecInts", fn := fun _ => fun
  | [d1, d2] => { results := [.lit (.bool false)], args := [d1, d2] }
  | _ => none }
def CodecIntsWrongFalsely : Prop := codecIntsRow.holds Try.pinned (OpenSpec.ofChange codecIntsWrong)

/-- 'jobshelllaw03.CodecSums': WHATEVER THE INPUT: true; the input reads as it did. -/
def codecSumsSpec : ChangeSpec := { name := "codecSums", fn := fun _ => fun
  | [d1, d2, d3] => { results := [.lit (.bool true)], args := [d1, d2, d3] }
  | _ => none }
def codecSumsRow : OpenClaim := { program := "ytdgdabgbdephnaa", sum := "d9b031487631fd10a8dd64206fddaf733476b5a8c34e1e9f2f0f78d7777998b0", func := "jobshell/jobshelllaw03.CodecSums", spec := "codecSums", apart := false }
def CodecSumsSaid : Prop := codecSumsRow.holds Try.pinned (OpenSpec.ofChange codecSumsSpec)

/-- ITS FALSE NEIGHBOUR: 'it returns false'. Refute it at one input. -/
def codecSumsWrong : ChangeSpec := { name := "codecSums", fn := fun _ => fun
  | [d1, d2, d3] => { results := [.lit (.bool false)], args := [d1, d2, d3] }
  | _ => none }
def CodecSumsWrongFalsely : Prop := codecSumsRow.holds Try.pinned (OpenSpec.ofChange codecSumsWrong)

/-- 'jobshelllaw03.CodecReads': WHATEVER THE INPUT: true; the input reads as it did. -/
def codecReadsSpec : ChangeSpec := { name := "codecReads", fn := fun _ => fun
  | [d] => { results := [.lit (.bool true)], args := [d] }
  | _ => none }
def codecReadsRow : OpenClaim := { program := "ytdgdabgbdephnaa", sum := "d9b031487631fd10a8dd64206fddaf733476b5a8c34e1e9f2f0f78d7777998b0", func := "jobshell/jobshelllaw03.CodecReads", spec := "codecReads", apart := false }
def CodecReadsSaid : Prop := codecReadsRow.holds Try.pinned (OpenSpec.ofChange codecReadsSpec)

/-- ITS FALSE NEIGHBOUR: 'it returns false'. Refute it at one input. -/
def codecReadsWrong : ChangeSpec := { name := "codecReads", fn := fun _ => fun
  | [d] => { results := [.lit (.bool false)], args := [d] }
  | _ => none }
def CodecReadsWrongFalsely : Prop := codecReadsRow.holds Try.pinned (OpenSpec.ofChange codecReadsWrong)

/-- 'jobshelllaw03.CodecFrames': WHATEVER THE INPUT: true; the input reads as it did. -/
def codecFramesSpec : ChangeSpec := { name := "codecFrames", fn := fun _ => fun
  | [d1, d2, d3] => { results := [.lit (.bool true)], args := [d1, d2, d3] }
  | _ => none }
def codecFramesRow : OpenClaim := { program := "ytdgdabgbdephnaa", sum := "d9b031487631fd10a8dd64206fddaf733476b5a8c34e1e9f2f0f78d7777998b0", func := "jobshell/jobshelllaw03.CodecFrames", spec := "codecFrames", apart := false }
def CodecFramesSaid : Prop := codecFramesRow.holds Try.pinned (OpenSpec.ofChange codecFramesSpec)

/-- ITS FALSE NEIGHBOUR: 'it returns false'. Refute it at one input. -/
def codecFramesWrong : ChangeSpec := { name := "codecFrames", fn := fun _ => fun
  | [d1, d2, d3] => { results := [.lit (.bool false)], args := [d1, d2, d3] }
  | _ => none }
def CodecFramesWrongFalsely : Prop := codecFramesRow.holds Try.pinned (OpenSpec.ofChange codecFramesWrong)

/-- 'jobshelllaw03.CodecOpens': WHATEVER THE INPUT: true; the input reads as it did. -/
def codecOpensSpec : ChangeSpec := { name := "codecOpens", fn := fun _ => fun
  | [d1, d2] => { results := [.lit (.bool true)], args := [d1, d2] }
  | _ => none }
def codecOpensRow : OpenClaim := { program := "ytdgdabgbdephnaa", sum := "d9b031487631fd10a8dd64206fddaf733476b5a8c34e1e9f2f0f78d7777998b0", func := "jobshell/jobshelllaw03.CodecOpens", spec := "codecOpens", apart := false }
def CodecOpensSaid : Prop := codecOpensRow.holds Try.pinned (OpenSpec.ofChange codecOpensSpec)

/-- ITS FALSE NEIGHBOUR: 'it returns false'. Refute it at one input. -/
def codecOpensWrong : ChangeSpec := { name := "codecOpens", fn := fun _ => fun
  | [d1, d2] => { results := [.lit (.bool false)], args := [d1, d2] }
  | _ => none }
def CodecOpensWrongFalsely : Prop := codecOpensRow.holds Try.pinned (OpenSpec.ofChange codecOpensWrong)

/-- 'jobshelllaw03.CodecSpoilt': WHATEVER THE INPUT: true; the input reads as it did. -/
def codecSpoiltSpec : ChangeSpec := { name := "codecSpoilt", fn := fun _ => fun
  | [d] => { results := [.lit (.bool true)], args := [d] }
  | _ => none }
def codecSpoiltRow : OpenClaim := { program := "ytdgdabgbdephnaa", sum := "d9b031487631fd10a8dd64206fddaf733476b5a8c34e1e9f2f0f78d7777998b0", func := "jobshell/jobshelllaw03.CodecSpoilt", spec := "codecSpoilt", apart := false }
def CodecSpoiltSaid : Prop := codecSpoiltRow.holds Try.pinned (OpenSpec.ofChange codecSpoiltSpec)

/-- ITS FALSE NEIGHBOUR: 'it returns false'. Refute it at one input. -/
def codecSpoiltWrong : ChangeSpec := { name := "codecSpoilt", fn := fun _ => fun
  | [d] => { results := [.lit (.bool false)], args := [d] }
  | _ => none }
def CodecSpoiltWrongFalsely : Prop := codecSpoiltRow.holds Try.pinned (OpenSpec.ofChange codecSpoiltWrong)

/-- 'jobshelllaw03.CodecUnique': WHATEVER THE INPUT: true; the input reads as it did. -/
def codecUniqueSpec : ChangeSpec := { name := "codecUnique", fn := fun _ => fun
  | [d] => { results := [.lit (.bool true)], args := [d] }
  | _ => none }
def codecUniqueRow : OpenClaim := { program := "ytdgdabgbdephnaa", sum := "d9b031487631fd10a8dd64206fddaf733476b5a8c34e1e9f2f0f78d7777998b0", func := "jobshell/jobshelllaw03.CodecUnique", spec := "codecUnique", apart := false }
def CodecUniqueSaid : Prop := codecUniqueRow.holds Try.pinned (OpenSpec.ofChange codecUniqueSpec)

/-- ITS FALSE NEIGHBOUR: 'it returns false'. Refute it at one input. -/
def codecUniqueWrong : ChangeSpec := { name := "codecUnique", fn := fun _ => fun
  | [d] => { results := [.lit (.bool false)], args := [d] }
  | _ => none }
def CodecUniqueWrongFalsely : Prop := codecUniqueRow.holds Try.pinned (OpenSpec.ofChange codecUniqueWrong)

/-- 'jobshelllaw03.CodecTexts': WHATEVER THE INPUT: true; the input reads as it did. -/
def codecTextsSpec : ChangeSpec := { name := "codecTexts", fn := fun _ => fun
  | [d1, d2] => { results := [.lit (.bool true)], args := [d1, d2] }
  | _ => none }
def codecTextsRow : OpenClaim := { program := "ytdgdabgbdephnaa", sum := "d9b031487631fd10a8dd64206fddaf733476b5a8c34e1e9f2f0f78d7777998b0", func := "jobshell/jobshelllaw03.CodecTexts", spec := "codecTexts", apart := false }
def CodecTextsSaid : Prop := codecTextsRow.holds Try.pinned (OpenSpec.ofChange codecTextsSpec)

/-- ITS FALSE NEIGHBOUR: 'it returns false'. Refute it at one input. -/
def codecTextsWrong : ChangeSpec := { name := "codecTexts", fn := fun _ => fun
  | [d1, d2] => { results := [.lit (.bool false)], args := [d1, d2] }
  | _ => none }
def CodecTextsWrongFalsely : Prop := codecTextsRow.holds Try.pinned (OpenSpec.ofChange codecTextsWrong)

/- THE SECOND FORM. 'bulk': how many values and letters a reading holds, each counted each time it is reached (what is shared counts as often as it is met; a slice's spare places count too). A statement '..UptoSaid' is the law's where the arguments, and the package variables that the reading takes, are together of bulk at most 1048576: NARROWER than '..Said'. Prove '..Said' where nothing that the law and all that it calls make is longer than what came in: it says more and counts as full. Else prove '..UptoSaid'. A law counts once. -/
mutual
def uptoBulk {H : Type} : DataW H → Nat
  | .lit (.string bytes) => bytes.length + 1
  | .lit _ => 1
  | .nil => 1
  | .ptr d => uptoBulk d + 1
  | .slice elems spare => uptoBulkAll elems + uptoBulkAll spare + 1
  | .agg parts => uptoBulkAll parts + 1
  | .iface _ d => uptoBulk d + 1
  | .map entries => uptoBulkEntries entries + 1
  | .held _ => 1
def uptoBulkAll {H : Type} : List (DataW H) → Nat
  | [] => 0
  | d :: r => uptoBulk d + uptoBulkAll r
def uptoBulkEntries {H : Type} : List (Lit × DataW H) → Nat
  | [] => 0
  | x :: r => uptoBulkEntry x + uptoBulkEntries r
def uptoBulkEntry {H : Type} : Lit × DataW H → Nat
  | (.string bytes, d) => bytes.length + uptoBulk d + 1
  | (_, d) => uptoBulk d + 1
 end
def uptoSmall : (H : Type) → List (DataW H) → Bool := fun _ ds => decide (uptoBulkAll ds ≤ 1048576)
def OpenSpec.upto (s : _root_.Go.ChangeSpec) : _root_.Go.OpenSpec := { _root_.Go.OpenSpec.ofChange s with cond := some uptoSmall }

/-- 'jobshelllaw03.CodecInts', WHERE WHAT IT READS IS OF BULK AT MOST 1048576: true; the input reads as it did. -/
def codecIntsUptoRow : OpenClaim := { program := "ytdgdabgbdephnaa", sum := "d9b031487631fd10a8dd64206fddaf733476b5a8c34e1e9f2f0f78d7777998b0", func := "jobshell/jobshelllaw03.CodecInts", spec := "codecInts", apart := false, narrowed := true }
def CodecIntsUptoSaid : Prop := codecIntsUptoRow.holds Try.pinned (OpenSpec.upto codecIntsSpec)

/-- 'jobshelllaw03.CodecSums', WHERE WHAT IT READS IS OF BULK AT MOST 1048576: true; the input reads as it did. -/
def codecSumsUptoRow : OpenClaim := { program := "ytdgdabgbdephnaa", sum := "d9b031487631fd10a8dd64206fddaf733476b5a8c34e1e9f2f0f78d7777998b0", func := "jobshell/jobshelllaw03.CodecSums", spec := "codecSums", apart := false, narrowed := true }
def CodecSumsUptoSaid : Prop := codecSumsUptoRow.holds Try.pinned (OpenSpec.upto codecSumsSpec)

/-- 'jobshelllaw03.CodecReads', WHERE WHAT IT READS IS OF BULK AT MOST 1048576: true; the input reads as it did. -/
def codecReadsUptoRow : OpenClaim := { program := "ytdgdabgbdephnaa", sum := "d9b031487631fd10a8dd64206fddaf733476b5a8c34e1e9f2f0f78d7777998b0", func := "jobshell/jobshelllaw03.CodecReads", spec := "codecReads", apart := false, narrowed := true }
def CodecReadsUptoSaid : Prop := codecReadsUptoRow.holds Try.pinned (OpenSpec.upto codecReadsSpec)

/-- 'jobshelllaw03.CodecFrames', WHERE WHAT IT READS IS OF BULK AT MOST 1048576: true; the input reads as it did. -/
def codecFramesUptoRow : OpenClaim := { program := "ytdgdabgbdephnaa", sum := "d9b031487631fd10a8dd64206fddaf733476b5a8c34e1e9f2f0f78d7777998b0", func := "jobshell/jobshelllaw03.CodecFrames", spec := "codecFrames", apart := false, narrowed := true }
def CodecFramesUptoSaid : Prop := codecFramesUptoRow.holds Try.pinned (OpenSpec.upto codecFramesSpec)

/-- 'jobshelllaw03.CodecOpens', WHERE WHAT IT READS IS OF BULK AT MOST 1048576: true; the input reads as it did. -/
def codecOpensUptoRow : OpenClaim := { program := "ytdgdabgbdephnaa", sum := "d9b031487631fd10a8dd64206fddaf733476b5a8c34e1e9f2f0f78d7777998b0", func := "jobshell/jobshelllaw03.CodecOpens", spec := "codecOpens", apart := false, narrowed := true }
def CodecOpensUptoSaid : Prop := codecOpensUptoRow.holds Try.pinned (OpenSpec.upto codecOpensSpec)

/-- 'jobshelllaw03.CodecSpoilt', WHERE WHAT IT READS IS OF BULK AT MOST 1048576: true; the input reads as it did. -/
def codecSpoiltUptoRow : OpenClaim := { program := "ytdgdabgbdephnaa", sum := "d9b031487631fd10a8dd64206fddaf733476b5a8c34e1e9f2f0f78d7777998b0", func := "jobshell/jobshelllaw03.CodecSpoilt", spec := "codecSpoilt", apart := false, narrowed := true }
def CodecSpoiltUptoSaid : Prop := codecSpoiltUptoRow.holds Try.pinned (OpenSpec.upto codecSpoiltSpec)

/-- 'jobshelllaw03.CodecUnique', WHERE WHAT IT READS IS OF BULK AT MOST 1048576: true; the input reads as it did. -/
def codecUniqueUptoRow : OpenClaim := { program := "ytdgdabgbdephnaa", sum := "d9b031487631fd10a8dd64206fddaf733476b5a8c34e1e9f2f0f78d7777998b0", func := "jobshell/jobshelllaw03.CodecUnique", spec := "codecUnique", apart := false, narrowed := true }
def CodecUniqueUptoSaid : Prop := codecUniqueUptoRow.holds Try.pinned (OpenSpec.upto codecUniqueSpec)

/-- 'jobshelllaw03.CodecTexts', WHERE WHAT IT READS IS OF BULK AT MOST 1048576: true; the input reads as it did. -/
def codecTextsUptoRow : OpenClaim := { program := "ytdgdabgbdephnaa", sum := "d9b031487631fd10a8dd64206fddaf733476b5a8c34e1e9f2f0f78d7777998b0", func := "jobshell/jobshelllaw03.CodecTexts", spec := "codecTexts", apart := false, narrowed := true }
def CodecTextsUptoSaid : Prop := codecTextsUptoRow.holds Try.pinned (OpenSpec.upto codecTextsSpec)

end Rows
end Go.Proofs.Ytdgdabgbdephnaa
