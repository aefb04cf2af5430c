/-
  No cell of these rows narrows 'for every input' (looked for: loops, veiled, ifaces, maps, wideKeys, modest, calm, conditions, laid).
  DERIVED. THE GIVEN ROWS OF THIS SEAT. 11 by the template 'for every input the law returns true; each argument reads behind the call as it read before'; 0 by the template 'total and deterministic' (their statements: YtgipepjpkmlmaaaTotals.lean).
  GIVEN WITH THE SEED: the statements are not yours to turn. If you find one false, say at which input.
  Laid BY PROGRAM, IN A SANDBOX (cutbox-rows.mjs): the forced cells as the released guide's own fill.sh prints them over the translation f1e9c8aa59849109… (all of the seat's roots in one cut). By AI agents, Wed Nov 11 2026. No macro, syntax, notation, axiom, sorry.
-/
import Derived.Test.YtgipepjpkmlmaaaChecked
import GoSem.Claim
import GoSem.ClaimJoined
import GoSem.ClaimMapViews
import Derived.JoinedTies
import Derived.KernelRfl
namespace Go.Proofs.Ytgipepjpkmlmaaa
/- THE CELL 'sum', in the pinned program and in every row, IS THE sha256 OF THE DUMP (.gsa) THAT YtgipepjpkmlmaaaProg.lean LOADS. Nothing in Lean hashes anything: it is a label: what it is worth is what the hold of that sum in a sandbox is worth. -/
noncomputable def Try.pinned : Pinned := { name := "ytgipepjpkmlmaaa", sum := "f1e9c8aa59849109ae5fb46806426ecaed3c31824937494d1d2767a524b97fac", checked := Try.checked }
namespace Rows
def none {H : Type} : Left H := { results := [], args := [] }

/-- 'headgatelaw16.EngineRuns': WHATEVER THE INPUT: true; the input reads as it did. -/
def engineRunsSpec : ChangeSpec := { name := "engineRuns", fn := fun _ => fun
  | [d1, d2] => { results := [.lit (.bool true)], args := [d1, d2] }
  | _ => none }
def engineRunsRow : OpenClaim := { program := "ytgipepjpkmlmaaa", sum := "f1e9c8aa59849109ae5fb46806426ecaed3c31824937494d1d2767a524b97fac", func := "headgate/headgatelaw16.EngineRuns", spec := "engineRuns", inPlace := ["slices.overlaps[headgate/api.Cell]"], unfollowed := true, recurses := true, apart := false }
def EngineRunsSaid : Prop := engineRunsRow.holds Try.pinned (OpenSpec.ofChange engineRunsSpec)

/-- ITS FALSE NEIGHBOUR: 'it returns false'. Refute it at one input. -/
def engineRunsWrong : ChangeSpec := { name := "engineRuns", fn := fun _ => fun
  | [d1, d2] => { results := [.lit (.bool false)], args := [d1, d2] }
  | _ => none }
def EngineRunsWrongFalsely : Prop := engineRunsRow.holds Try.pinned (OpenSpec.ofChange engineRunsWrong)

/-- 'headgatelaw16.EngineParts': WHATEVER THE INPUT: true; the input reads as it did. -/
def enginePartsSpec : ChangeSpec := { name := "engineParts", fn := fun _ => fun
  | [d1, d2, d3] => { results := [.lit (.bool true)], args := [d1, d2, d3] }
  | _ => none }
def enginePartsRow : OpenClaim := { program := "ytgipepjpkmlmaaa", sum := "f1e9c8aa59849109ae5fb46806426ecaed3c31824937494d1d2767a524b97fac", func := "headgate/headgatelaw16.EngineParts", spec := "engineParts", inPlace := ["slices.overlaps[headgate/api.Cell]"], unfollowed := true, recurses := true, apart := false }
def EnginePartsSaid : Prop := enginePartsRow.holds Try.pinned (OpenSpec.ofChange enginePartsSpec)

/-- ITS FALSE NEIGHBOUR: 'it returns false'. Refute it at one input. -/
def enginePartsWrong : ChangeSpec := { name := "engineParts", fn := fun _ => fun
  | [d1, d2, d3] => { results := [.lit (.bool false)], args := [d1, d2, d3] }
  | _ => none }
def EnginePartsWrongFalsely : Prop := enginePartsRow.holds Try.pinned (OpenSpec.ofChange enginePartsWrong)

/-- 'headgatelaw16.EngineOnce': WHATEVER THE INPUT: true; the input reads as it did. -/
def engineOnceSpec : ChangeSpec := { name := "engineOnce", fn := fun _ => fun
  | [d1, d2] => { results := [.lit (.bool true)], args := [d1, d2] }
  | _ => none }
def engineOnceRow : OpenClaim := { program := "ytgipepjpkmlmaaa", sum := "f1e9c8aa59849109ae5fb46806426ecaed3c31824937494d1d2767a524b97fac", func := "headgate/headgatelaw16.EngineOnce", spec := "engineOnce", inPlace := ["slices.overlaps[headgate/api.Cell]"], unfollowed := true, recurses := true, apart := false }
def EngineOnceSaid : Prop := engineOnceRow.holds Try.pinned (OpenSpec.ofChange engineOnceSpec)

/-- ITS FALSE NEIGHBOUR: 'it returns false'. Refute it at one input. -/
def engineOnceWrong : ChangeSpec := { name := "engineOnce", fn := fun _ => fun
  | [d1, d2] => { results := [.lit (.bool false)], args := [d1, d2] }
  | _ => none }
def EngineOnceWrongFalsely : Prop := engineOnceRow.holds Try.pinned (OpenSpec.ofChange engineOnceWrong)

/-- 'headgatelaw16.EngineMarks': WHATEVER THE INPUT: true; the input reads as it did. -/
def engineMarksSpec : ChangeSpec := { name := "engineMarks", fn := fun _ => fun
  | [d1, d2] => { results := [.lit (.bool true)], args := [d1, d2] }
  | _ => none }
def engineMarksRow : OpenClaim := { program := "ytgipepjpkmlmaaa", sum := "f1e9c8aa59849109ae5fb46806426ecaed3c31824937494d1d2767a524b97fac", func := "headgate/headgatelaw16.EngineMarks", spec := "engineMarks", inPlace := ["slices.overlaps[headgate/api.Cell]"], unfollowed := true, recurses := true, apart := false }
def EngineMarksSaid : Prop := engineMarksRow.holds Try.pinned (OpenSpec.ofChange engineMarksSpec)

/-- ITS FALSE NEIGHBOUR: 'it returns false'. Refute it at one input. -/
def engineMarksWrong : ChangeSpec := { name := "engineMarks", fn := fun _ => fun
  | [d1, d2] => { results := [.lit (.bool false)], args := [d1, d2] }
  | _ => none }
def EngineMarksWrongFalsely : Prop := engineMarksRow.holds Try.pinned (OpenSpec.ofChange engineMarksWrong)

/-- 'headgatelaw16.EngineWhole': WHATEVER THE INPUT: true; the input reads as it did. -/
def engineWholeSpec : ChangeSpec := { name := "engineWhole", fn := fun _ => fun
  | [d1, d2] => { results := [.lit (.bool true)], args := [d1, d2] }
  | _ => none }
def engineWholeRow : OpenClaim := { program := "ytgipepjpkmlmaaa", sum := "f1e9c8aa59849109ae5fb46806426ecaed3c31824937494d1d2767a524b97fac", func := "headgate/headgatelaw16.EngineWhole", spec := "engineWhole", inPlace := ["slices.overlaps[headgate/api.Cell]"], unfollowed := true, recurses := true, apart := false }
def EngineWholeSaid : Prop := engineWholeRow.holds Try.pinned (OpenSpec.ofChange engineWholeSpec)

/-- ITS FALSE NEIGHBOUR: 'it returns false'. Refute it at one input. -/
def engineWholeWrong : ChangeSpec := { name := "engineWhole", fn := fun _ => fun
  | [d1, d2] => { results := [.lit (.bool false)], args := [d1, d2] }
  | _ => none }
def EngineWholeWrongFalsely : Prop := engineWholeRow.holds Try.pinned (OpenSpec.ofChange engineWholeWrong)

/-- 'headgatelaw16.EngineLate': WHATEVER THE INPUT: true; the input reads as it did. -/
def engineLateSpec : ChangeSpec := { name := "engineLate", fn := fun _ => fun
  | [d1, d2, d3] => { results := [.lit (.bool true)], args := [d1, d2, d3] }
  | _ => none }
def engineLateRow : OpenClaim := { program := "ytgipepjpkmlmaaa", sum := "f1e9c8aa59849109ae5fb46806426ecaed3c31824937494d1d2767a524b97fac", func := "headgate/headgatelaw16.EngineLate", spec := "engineLate", inPlace := ["slices.overlaps[headgate/api.Cell]"], unfollowed := true, recurses := true, apart := false }
def EngineLateSaid : Prop := engineLateRow.holds Try.pinned (OpenSpec.ofChange engineLateSpec)

/-- ITS FALSE NEIGHBOUR: 'it returns false'. Refute it at one input. -/
def engineLateWrong : ChangeSpec := { name := "engineLate", fn := fun _ => fun
  | [d1, d2, d3] => { results := [.lit (.bool false)], args := [d1, d2, d3] }
  | _ => none }
def EngineLateWrongFalsely : Prop := engineLateRow.holds Try.pinned (OpenSpec.ofChange engineLateWrong)

/-- 'headgatelaw17.ChangeDiffs': WHATEVER THE INPUT: true; the input reads as it did. -/
def changeDiffsSpec : ChangeSpec := { name := "changeDiffs", fn := fun _ => fun
  | [d1, d2] => { results := [.lit (.bool true)], args := [d1, d2] }
  | _ => none }
def changeDiffsRow : OpenClaim := { program := "ytgipepjpkmlmaaa", sum := "f1e9c8aa59849109ae5fb46806426ecaed3c31824937494d1d2767a524b97fac", func := "headgate/headgatelaw17.ChangeDiffs", spec := "changeDiffs", inPlace := ["internal/abi.NoEscape", "slices.overlaps[headgate/api.Cell]"], unfollowed := true, recurses := true, apart := false }
def ChangeDiffsSaid : Prop := changeDiffsRow.holds Try.pinned (OpenSpec.ofChange changeDiffsSpec)

/-- ITS FALSE NEIGHBOUR: 'it returns false'. Refute it at one input. -/
def changeDiffsWrong : ChangeSpec := { name := "changeDiffs", fn := fun _ => fun
  | [d1, d2] => { results := [.lit (.bool false)], args := [d1, d2] }
  | _ => none }
def ChangeDiffsWrongFalsely : Prop := changeDiffsRow.holds Try.pinned (OpenSpec.ofChange changeDiffsWrong)

/-- 'headgatelaw17.ChangeBack': WHATEVER THE INPUT: true; the input reads as it did. -/
def changeBackSpec : ChangeSpec := { name := "changeBack", fn := fun _ => fun
  | [d1, d2, d3] => { results := [.lit (.bool true)], args := [d1, d2, d3] }
  | _ => none }
def changeBackRow : OpenClaim := { program := "ytgipepjpkmlmaaa", sum := "f1e9c8aa59849109ae5fb46806426ecaed3c31824937494d1d2767a524b97fac", func := "headgate/headgatelaw17.ChangeBack", spec := "changeBack", inPlace := ["internal/abi.NoEscape", "slices.overlaps[headgate/api.Cell]"], unfollowed := true, recurses := true, apart := false }
def ChangeBackSaid : Prop := changeBackRow.holds Try.pinned (OpenSpec.ofChange changeBackSpec)

/-- ITS FALSE NEIGHBOUR: 'it returns false'. Refute it at one input. -/
def changeBackWrong : ChangeSpec := { name := "changeBack", fn := fun _ => fun
  | [d1, d2, d3] => { results := [.lit (.bool false)], args := [d1, d2, d3] }
  | _ => none }
def ChangeBackWrongFalsely : Prop := changeBackRow.holds Try.pinned (OpenSpec.ofChange changeBackWrong)

/-- 'headgatelaw17.ChangeRuns': WHATEVER THE INPUT: true; the input reads as it did. -/
def changeRunsSpec : ChangeSpec := { name := "changeRuns", fn := fun _ => fun
  | [d1, d2, d3] => { results := [.lit (.bool true)], args := [d1, d2, d3] }
  | _ => none }
def changeRunsRow : OpenClaim := { program := "ytgipepjpkmlmaaa", sum := "f1e9c8aa59849109ae5fb46806426ecaed3c31824937494d1d2767a524b97fac", func := "headgate/headgatelaw17.ChangeRuns", spec := "changeRuns", inPlace := ["internal/abi.NoEscape", "slices.overlaps[headgate/api.Cell]"], unfollowed := true, recurses := true, apart := false }
def ChangeRunsSaid : Prop := changeRunsRow.holds Try.pinned (OpenSpec.ofChange changeRunsSpec)

/-- ITS FALSE NEIGHBOUR: 'it returns false'. Refute it at one input. -/
def changeRunsWrong : ChangeSpec := { name := "changeRuns", fn := fun _ => fun
  | [d1, d2, d3] => { results := [.lit (.bool false)], args := [d1, d2, d3] }
  | _ => none }
def ChangeRunsWrongFalsely : Prop := changeRunsRow.holds Try.pinned (OpenSpec.ofChange changeRunsWrong)

/-- 'headgatelaw17.ChangeSmall': WHATEVER THE INPUT: true; the input reads as it did. -/
def changeSmallSpec : ChangeSpec := { name := "changeSmall", fn := fun _ => fun
  | [d1, d2, d3] => { results := [.lit (.bool true)], args := [d1, d2, d3] }
  | _ => none }
def changeSmallRow : OpenClaim := { program := "ytgipepjpkmlmaaa", sum := "f1e9c8aa59849109ae5fb46806426ecaed3c31824937494d1d2767a524b97fac", func := "headgate/headgatelaw17.ChangeSmall", spec := "changeSmall", inPlace := ["internal/abi.NoEscape", "slices.overlaps[headgate/api.Cell]"], unfollowed := true, recurses := true, apart := false }
def ChangeSmallSaid : Prop := changeSmallRow.holds Try.pinned (OpenSpec.ofChange changeSmallSpec)

/-- ITS FALSE NEIGHBOUR: 'it returns false'. Refute it at one input. -/
def changeSmallWrong : ChangeSpec := { name := "changeSmall", fn := fun _ => fun
  | [d1, d2, d3] => { results := [.lit (.bool false)], args := [d1, d2, d3] }
  | _ => none }
def ChangeSmallWrongFalsely : Prop := changeSmallRow.holds Try.pinned (OpenSpec.ofChange changeSmallWrong)

/-- 'headgatelaw17.ChangeOuts': WHATEVER THE INPUT: true; the input reads as it did. -/
def changeOutsSpec : ChangeSpec := { name := "changeOuts", fn := fun _ => fun
  | [d1, d2] => { results := [.lit (.bool true)], args := [d1, d2] }
  | _ => none }
def changeOutsRow : OpenClaim := { program := "ytgipepjpkmlmaaa", sum := "f1e9c8aa59849109ae5fb46806426ecaed3c31824937494d1d2767a524b97fac", func := "headgate/headgatelaw17.ChangeOuts", spec := "changeOuts", inPlace := ["internal/abi.NoEscape", "slices.overlaps[headgate/api.Cell]"], unfollowed := true, recurses := true, apart := false }
def ChangeOutsSaid : Prop := changeOutsRow.holds Try.pinned (OpenSpec.ofChange changeOutsSpec)

/-- ITS FALSE NEIGHBOUR: 'it returns false'. Refute it at one input. -/
def changeOutsWrong : ChangeSpec := { name := "changeOuts", fn := fun _ => fun
  | [d1, d2] => { results := [.lit (.bool false)], args := [d1, d2] }
  | _ => none }
def ChangeOutsWrongFalsely : Prop := changeOutsRow.holds Try.pinned (OpenSpec.ofChange changeOutsWrong)

/- THE SECOND FORM. 'bulk': how many values and letters a reading holds, each counted each time it is reached (what is shared counts as often as it is met; a slice's spare places count too). A statement '..UptoSaid' is the law's where the arguments, and the package variables that the reading takes, are together of bulk at most 1048576: NARROWER than '..Said'. Prove '..Said' where nothing that the law and all that it calls make is longer than what came in: it says more and counts as full. Else prove '..UptoSaid'. A law counts once. -/
mutual
def uptoBulk {H : Type} : DataW H → Nat
  | .lit (.string bytes) => bytes.length + 1
  | .lit _ => 1
  | .nil => 1
  | .ptr d => uptoBulk d + 1
  | .slice elems spare => uptoBulkAll elems + uptoBulkAll spare + 1
  | .agg parts => uptoBulkAll parts + 1
  | .iface _ d => uptoBulk d + 1
  | .map entries => uptoBulkEntries entries + 1
  | .held _ => 1
def uptoBulkAll {H : Type} : List (DataW H) → Nat
  | [] => 0
  | d :: r => uptoBulk d + uptoBulkAll r
def uptoBulkEntries {H : Type} : List (Lit × DataW H) → Nat
  | [] => 0
  | x :: r => uptoBulkEntry x + uptoBulkEntries r
def uptoBulkEntry {H : Type} : Lit × DataW H → Nat
  | (.string bytes, d) => bytes.length + uptoBulk d + 1
  | (_, d) => uptoBulk d + 1
 end
def uptoSmall : (H : Type) → List (DataW H) → Bool := fun _ ds => decide (uptoBulkAll ds ≤ 1048576)
def OpenSpec.upto (s : _root_.Go.ChangeSpec) : _root_.Go.OpenSpec := { _root_.Go.OpenSpec.ofChange s with cond := some uptoSmall }

/-- 'headgatelaw16.EngineRuns', WHERE WHAT IT READS IS OF BULK AT MOST 1048576: true; the input reads as it did. -/
def engineRunsUptoRow : OpenClaim := { program := "ytgipepjpkmlmaaa", sum := "f1e9c8aa59849109ae5fb46806426ecaed3c31824937494d1d2767a524b97fac", func := "headgate/headgatelaw16.EngineRuns", spec := "engineRuns", inPlace := ["slices.overlaps[headgate/api.Cell]"], unfollowed := true, recurses := true, apart := false, narrowed := true }
def EngineRunsUptoSaid : Prop := engineRunsUptoRow.holds Try.pinned (OpenSpec.upto engineRunsSpec)

/-- 'headgatelaw16.EngineParts', WHERE WHAT IT READS IS OF BULK AT MOST 1048576: true; the input reads as it did. -/
def enginePartsUptoRow : OpenClaim := { program := "ytgipepjpkmlmaaa", sum := "f1e9c8aa59849109ae5fb46806426ecaed3c31824937494d1d2767a524b97fac", func := "headgate/headgatelaw16.EngineParts", spec := "engineParts", inPlace := ["slices.overlaps[headgate/api.Cell]"], unfollowed := true, recurses := true, apart := false, narrowed := true }
def EnginePartsUptoSaid : Prop := enginePartsUptoRow.holds Try.pinned (OpenSpec.upto enginePartsSpec)

/-- 'headgatelaw16.EngineOnce', WHERE WHAT IT READS IS OF BULK AT MOST 1048576: true; the input reads as it did. -/
def engineOnceUptoRow : OpenClaim := { program := "ytgipepjpkmlmaaa", sum := "f1e9c8aa59849109ae5fb46806426ecaed3c31824937494d1d2767a524b97fac", func := "headgate/headgatelaw16.EngineOnce", spec := "engineOnce", inPlace := ["slices.overlaps[headgate/api.Cell]"], unfollowed := true, recurses := true, apart := false, narrowed := true }
def EngineOnceUptoSaid : Prop := engineOnceUptoRow.holds Try.pinned (OpenSpec.upto engineOnceSpec)

/-- 'headgatelaw16.EngineMarks', WHERE WHAT IT READS IS OF BULK AT MOST 1048576: true; the input reads as it did. -/
def engineMarksUptoRow : OpenClaim := { program := "ytgipepjpkmlmaaa", sum := "f1e9c8aa59849109ae5fb46806426ecaed3c31824937494d1d2767a524b97fac", func := "headgate/headgatelaw16.EngineMarks", spec := "engineMarks", inPlace := ["slices.overlaps[headgate/api.Cell]"], unfollowed := true, recurses := true, apart := false, narrowed := true }
def EngineMarksUptoSaid : Prop := engineMarksUptoRow.holds Try.pinned (OpenSpec.upto engineMarksSpec)

/-- 'headgatelaw16.EngineWhole', WHERE WHAT IT READS IS OF BULK AT MOST 1048576: true; the input reads as it did. -/
def engineWholeUptoRow : OpenClaim := { program := "ytgipepjpkmlmaaa", sum := "f1e9c8aa59849109ae5fb46806426ecaed3c31824937494d1d2767a524b97fac", func := "headgate/headgatelaw16.EngineWhole", spec := "engineWhole", inPlace := ["slices.overlaps[headgate/api.Cell]"], unfollowed := true, recurses := true, apart := false, narrowed := true }
def EngineWholeUptoSaid : Prop := engineWholeUptoRow.holds Try.pinned (OpenSpec.upto engineWholeSpec)

/-- 'headgatelaw16.EngineLate', WHERE WHAT IT READS IS OF BULK AT MOST 1048576: true; the input reads as it did. -/
def engineLateUptoRow : OpenClaim := { program := "ytgipepjpkmlmaaa", sum := "f1e9c8aa59849109ae5fb46806426ecaed3c31824937494d1d2767a524b97fac", func := "headgate/headgatelaw16.EngineLate", spec := "engineLate", inPlace := ["slices.overlaps[headgate/api.Cell]"], unfollowed := true, recurses := true, apart := false, narrowed := true }
def EngineLateUptoSaid : Prop := engineLateUptoRow.holds Try.pinned (OpenSpec.upto engineLateSpec)

/-- 'headgatelaw17.ChangeDiffs', WHERE WHAT IT READS IS OF BULK AT MOST 1048576: true; the input reads as it did. -/
def changeDiffsUptoRow : OpenClaim := { program := "ytgipepjpkmlmaaa", sum := "f1e9c8aa59849109ae5fb46806426ecaed3c31824937494d1d2767a524b97fac", func := "headgate/headgatelaw17.ChangeDiffs", spec := "changeDiffs", inPlace := ["internal/abi.NoEscape", "slices.overlaps[headgate/api.Cell]"], unfollowed := true, recurses := true, apart := false, narrowed := true }
def ChangeDiffsUptoSaid : Prop := changeDiffsUptoRow.holds Try.pinned (OpenSpec.upto changeDiffsSpec)

/-- 'headgatelaw17.ChangeBack', WHERE WHAT IT READS IS OF BULK AT MOST 1048576: true; the input reads as it did. -/
def changeBackUptoRow : OpenClaim := { program := "ytgipepjpkmlmaaa", sum := "f1e9c8aa59849109ae5fb46806426ecaed3c31824937494d1d2767a524b97fac", func := "headgate/headgatelaw17.ChangeBack", spec := "changeBack", inPlace := ["internal/abi.NoEscape", "slices.overlaps[headgate/api.Cell]"], unfollowed := true, recurses := true, apart := false, narrowed := true }
def ChangeBackUptoSaid : Prop := changeBackUptoRow.holds Try.pinned (OpenSpec.upto changeBackSpec)

/-- 'headgatelaw17.ChangeRuns', WHERE WHAT IT READS IS OF BULK AT MOST 1048576: true; the input reads as it did. -/
def changeRunsUptoRow : OpenClaim := { program := "ytgipepjpkmlmaaa", sum := "f1e9c8aa59849109ae5fb46806426ecaed3c31824937494d1d2767a524b97fac", func := "headgate/headgatelaw17.ChangeRuns", spec := "changeRuns", inPlace := ["internal/abi.NoEscape", "slices.overlaps[headgate/api.Cell]"], unfollowed := true, recurses := true, apart := false, narrowed := true }
def ChangeRunsUptoSaid : Prop := changeRunsUptoRow.holds Try.pinned (OpenSpec.upto changeRunsSpec)

/-- 'headgatelaw17.ChangeSmall', WHERE WHAT IT READS IS OF BULK AT MOST 1048576: true; the input reads as it did. -/
def changeSmallUptoRow : OpenClaim := { program := "ytgipepjpkmlmaaa", sum := "f1e9c8aa59849109ae5fb46806426ecaed3c31824937494d1d2767a524b97fac", func := "headgate/headgatelaw17.ChangeSmall", spec := "changeSmall", inPlace := ["internal/abi.NoEscape", "slices.overlaps[headgate/api.Cell]"], unfollowed := true, recurses := true, apart := false, narrowed := true }
def ChangeSmallUptoSaid : Prop := changeSmallUptoRow.holds Try.pinned (OpenSpec.upto changeSmallSpec)

/-- 'headgatelaw17.ChangeOuts', WHERE WHAT IT READS IS OF BULK AT MOST 1048576: true; the input reads as it did. -/
def changeOutsUptoRow : OpenClaim := { program := "ytgipepjpkmlmaaa", sum := "f1e9c8aa59849109ae5fb46806426ecaed3c31824937494d1d2767a524b97fac", func := "headgate/headgatelaw17.ChangeOuts", spec := "changeOuts", inPlace := ["internal/abi.NoEscape", "slices.overlaps[headgate/api.Cell]"], unfollowed := true, recurses := true, apart := false, narrowed := true }
def ChangeOutsUptoSaid : Prop := changeOutsUptoRow.holds Try.pinned (OpenSpec.upto changeOutsSpec)

end Rows
end Go.Proofs.Ytgipepjpkmlmaaa
