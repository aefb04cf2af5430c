/-
  NARROWER THAN 'FOR EVERY INPUT', by the rows' own cells (each row's printed sentence says how): CodeCompiles: loops · CodeMeans: loops · CodeWhole: loops.
  DERIVED. THE GIVEN ROWS OF THIS SEAT. 7 by the template 'for every input the law returns true; each argument reads behind the call as it read before'; 0 by the template 'total and deterministic' (their statements: YtekbcfgcojecmaaTotals.lean).
  GIVEN WITH THE SEED: the statements are not yours to turn. If you find one false, say at which input.
  Laid BY PROGRAM, IN A SANDBOX (cutbox-rows.mjs): the forced cells as the released guide's own fill.sh prints them over the translation 3f6e30b8093a0660… (all of the seat's roots in one cut). By AI agents, Wed Nov 11 2026. No macro, syntax, notation, axiom, sorry.
-/
import Derived.Test.YtekbcfgcojecmaaChecked
import GoSem.Claim
import GoSem.ClaimJoined
import GoSem.ClaimMapViews
import Derived.JoinedTies
import Derived.KernelRfl
namespace Go.Proofs.Ytekbcfgcojecmaa
/- THE CELL 'sum', in the pinned program and in every row, IS THE sha256 OF THE DUMP (.gsa) THAT YtekbcfgcojecmaaProg.lean LOADS. Nothing in Lean hashes anything: it is a label: what it is worth is what the hold of that sum in a sandbox is worth. -/
noncomputable def Try.pinned : Pinned := { name := "ytekbcfgcojecmaa", sum := "3f6e30b8093a06604d7e0d6c1d6a3383f91b5b45caf7f7faf3d9040bde5e26c0", checked := Try.checked }
namespace Rows
def none {H : Type} : Left H := { results := [], args := [] }

/-- 'headgatelaw22.CodeMay': WHATEVER THE INPUT: true; the input reads as it did. -/
def codeMaySpec : ChangeSpec := { name := "codeMay", fn := fun _ => fun
  | [d] => { results := [.lit (.bool true)], args := [d] }
  | _ => none }
def codeMayRow : OpenClaim := { program := "ytekbcfgcojecmaa", sum := "3f6e30b8093a06604d7e0d6c1d6a3383f91b5b45caf7f7faf3d9040bde5e26c0", func := "headgate/headgatelaw22.CodeMay", spec := "codeMay", unfollowed := true, recurses := true, apart := false }
def CodeMaySaid : Prop := codeMayRow.holds Try.pinned (OpenSpec.ofChange codeMaySpec)

/-- ITS FALSE NEIGHBOUR: 'it returns false'. Refute it at one input. -/
def codeMayWrong : ChangeSpec := { name := "codeMay", fn := fun _ => fun
  | [d] => { results := [.lit (.bool false)], args := [d] }
  | _ => none }
def CodeMayWrongFalsely : Prop := codeMayRow.holds Try.pinned (OpenSpec.ofChange codeMayWrong)

/-- 'headgatelaw22.CodeRuns': WHATEVER THE INPUT: true; the input reads as it did. -/
def codeRunsSpec : ChangeSpec := { name := "codeRuns", fn := fun _ => fun
  | [d1, d2, d3, d4] => { results := [.lit (.bool true)], args := [d1, d2, d3, d4] }
  | _ => none }
def codeRunsRow : OpenClaim := { program := "ytekbcfgcojecmaa", sum := "3f6e30b8093a06604d7e0d6c1d6a3383f91b5b45caf7f7faf3d9040bde5e26c0", func := "headgate/headgatelaw22.CodeRuns", spec := "codeRuns", unfollowed := true, recurses := true, apart := false }
def CodeRunsSaid : Prop := codeRunsRow.holds Try.pinned (OpenSpec.ofChange codeRunsSpec)

/-- ITS FALSE NEIGHBOUR: 'it returns false'. Refute it at one input. -/
def codeRunsWrong : ChangeSpec := { name := "codeRuns", fn := fun _ => fun
  | [d1, d2, d3, d4] => { results := [.lit (.bool false)], args := [d1, d2, d3, d4] }
  | _ => none }
def CodeRunsWrongFalsely : Prop := codeRunsRow.holds Try.pinned (OpenSpec.ofChange codeRunsWrong)

/-- 'headgatelaw22.CodeCompiles': WHATEVER THE INPUT: true; the input reads as it did. -/
def codeCompilesSpec : ChangeSpec := { name := "codeCompiles", fn := fun _ => fun
  | [d] => { results := [.lit (.bool true)], args := [d] }
  | _ => none }
def codeCompilesRow : OpenClaim := { program := "ytekbcfgcojecmaa", sum := "3f6e30b8093a06604d7e0d6c1d6a3383f91b5b45caf7f7faf3d9040bde5e26c0", func := "headgate/headgatelaw22.CodeCompiles", spec := "codeCompiles", unfollowed := true, recurses := true, loops := true, apart := false }
def CodeCompilesSaid : Prop := codeCompilesRow.holds Try.pinned (OpenSpec.ofChange codeCompilesSpec)

/-- ITS FALSE NEIGHBOUR: 'it returns false'. Refute it at one input. -/
def codeCompilesWrong : ChangeSpec := { name := "codeCompiles", fn := fun _ => fun
  | [d] => { results := [.lit (.bool false)], args := [d] }
  | _ => none }
def CodeCompilesWrongFalsely : Prop := codeCompilesRow.holds Try.pinned (OpenSpec.ofChange codeCompilesWrong)

/-- 'headgatelaw22.CodeMeans': WHATEVER THE INPUT: true; the input reads as it did. -/
def codeMeansSpec : ChangeSpec := { name := "codeMeans", fn := fun _ => fun
  | [d1, d2, d3, d4] => { results := [.lit (.bool true)], args := [d1, d2, d3, d4] }
  | _ => none }
def codeMeansRow : OpenClaim := { program := "ytekbcfgcojecmaa", sum := "3f6e30b8093a06604d7e0d6c1d6a3383f91b5b45caf7f7faf3d9040bde5e26c0", func := "headgate/headgatelaw22.CodeMeans", spec := "codeMeans", unfollowed := true, recurses := true, loops := true, apart := false }
def CodeMeansSaid : Prop := codeMeansRow.holds Try.pinned (OpenSpec.ofChange codeMeansSpec)

/-- ITS FALSE NEIGHBOUR: 'it returns false'. Refute it at one input. -/
def codeMeansWrong : ChangeSpec := { name := "codeMeans", fn := fun _ => fun
  | [d1, d2, d3, d4] => { results := [.lit (.bool false)], args := [d1, d2, d3, d4] }
  | _ => none }
def CodeMeansWrongFalsely : Prop := codeMeansRow.holds Try.pinned (OpenSpec.ofChange codeMeansWrong)

/-- 'headgatelaw22.CodeBetters': WHATEVER THE INPUT: true; the input reads as it did. -/
def codeBettersSpec : ChangeSpec := { name := "codeBetters", fn := fun _ => fun
  | [d] => { results := [.lit (.bool true)], args := [d] }
  | _ => none }
def codeBettersRow : OpenClaim := { program := "ytekbcfgcojecmaa", sum := "3f6e30b8093a06604d7e0d6c1d6a3383f91b5b45caf7f7faf3d9040bde5e26c0", func := "headgate/headgatelaw22.CodeBetters", spec := "codeBetters", unfollowed := true, recurses := true, apart := false }
def CodeBettersSaid : Prop := codeBettersRow.holds Try.pinned (OpenSpec.ofChange codeBettersSpec)

/-- ITS FALSE NEIGHBOUR: 'it returns false'. Refute it at one input. -/
def codeBettersWrong : ChangeSpec := { name := "codeBetters", fn := fun _ => fun
  | [d] => { results := [.lit (.bool false)], args := [d] }
  | _ => none }
def CodeBettersWrongFalsely : Prop := codeBettersRow.holds Try.pinned (OpenSpec.ofChange codeBettersWrong)

/-- 'headgatelaw22.CodeKeeps': WHATEVER THE INPUT: true; the input reads as it did. -/
def codeKeepsSpec : ChangeSpec := { name := "codeKeeps", fn := fun _ => fun
  | [d1, d2, d3, d4] => { results := [.lit (.bool true)], args := [d1, d2, d3, d4] }
  | _ => none }
def codeKeepsRow : OpenClaim := { program := "ytekbcfgcojecmaa", sum := "3f6e30b8093a06604d7e0d6c1d6a3383f91b5b45caf7f7faf3d9040bde5e26c0", func := "headgate/headgatelaw22.CodeKeeps", spec := "codeKeeps", unfollowed := true, recurses := true, apart := false }
def CodeKeepsSaid : Prop := codeKeepsRow.holds Try.pinned (OpenSpec.ofChange codeKeepsSpec)

/-- ITS FALSE NEIGHBOUR: 'it returns false'. Refute it at one input. -/
def codeKeepsWrong : ChangeSpec := { name := "codeKeeps", fn := fun _ => fun
  | [d1, d2, d3, d4] => { results := [.lit (.bool false)], args := [d1, d2, d3, d4] }
  | _ => none }
def CodeKeepsWrongFalsely : Prop := codeKeepsRow.holds Try.pinned (OpenSpec.ofChange codeKeepsWrong)

/-- 'headgatelaw22.CodeWhole': WHATEVER THE INPUT: true; the input reads as it did. -/
def codeWholeSpec : ChangeSpec := { name := "codeWhole", fn := fun _ => fun
  | [d1, d2, d3, d4] => { results := [.lit (.bool true)], args := [d1, d2, d3, d4] }
  | _ => none }
def codeWholeRow : OpenClaim := { program := "ytekbcfgcojecmaa", sum := "3f6e30b8093a06604d7e0d6c1d6a3383f91b5b45caf7f7faf3d9040bde5e26c0", func := "headgate/headgatelaw22.CodeWhole", spec := "codeWhole", unfollowed := true, recurses := true, loops := true, apart := false }
def CodeWholeSaid : Prop := codeWholeRow.holds Try.pinned (OpenSpec.ofChange codeWholeSpec)

/-- ITS FALSE NEIGHBOUR: 'it returns false'. Refute it at one input. -/
def codeWholeWrong : ChangeSpec := { name := "codeWhole", fn := fun _ => fun
  | [d1, d2, d3, d4] => { results := [.lit (.bool false)], args := [d1, d2, d3, d4] }
  | _ => none }
def CodeWholeWrongFalsely : Prop := codeWholeRow.holds Try.pinned (OpenSpec.ofChange codeWholeWrong)

/- THE SECOND FORM. 'bulk': how many values and letters a reading holds, each counted each time it is reached (what is shared counts as often as it is met; a slice's spare places count too). A statement '..UptoSaid' is the law's where the arguments, and the package variables that the reading takes, are together of bulk at most 1048576: NARROWER than '..Said'. Prove '..Said' where nothing that the law and all that it calls make is longer than what came in: it says more and counts as full. Else prove '..UptoSaid'. A law counts once. -/
mutual
def uptoBulk {H : Type} : DataW H → Nat
  | .lit (.string bytes) => bytes.length + 1
  | .lit _ => 1
  | .nil => 1
  | .ptr d => uptoBulk d + 1
  | .slice elems spare => uptoBulkAll elems + uptoBulkAll spare + 1
  | .agg parts => uptoBulkAll parts + 1
  | .iface _ d => uptoBulk d + 1
  | .map entries => uptoBulkEntries entries + 1
  | .held _ => 1
def uptoBulkAll {H : Type} : List (DataW H) → Nat
  | [] => 0
  | d :: r => uptoBulk d + uptoBulkAll r
def uptoBulkEntries {H : Type} : List (Lit × DataW H) → Nat
  | [] => 0
  | x :: r => uptoBulkEntry x + uptoBulkEntries r
def uptoBulkEntry {H : Type} : Lit × DataW H → Nat
  | (.string bytes, d) => bytes.length + uptoBulk d + 1
  | (_, d) => uptoBulk d + 1
 end
def uptoSmall : (H : Type) → List (DataW H) → Bool := fun _ ds => decide (uptoBulkAll ds ≤ 1048576)
def OpenSpec.upto (s : _root_.Go.ChangeSpec) : _root_.Go.OpenSpec := { _root_.Go.OpenSpec.ofChange s with cond := some uptoSmall }

/-- 'headgatelaw22.CodeMay', WHERE WHAT IT READS IS OF BULK AT MOST 1048576: true; the input reads as it did. -/
def codeMayUptoRow : OpenClaim := { program := "ytekbcfgcojecmaa", sum := "3f6e30b8093a06604d7e0d6c1d6a3383f91b5b45caf7f7faf3d9040bde5e26c0", func := "headgate/headgatelaw22.CodeMay", spec := "codeMay", unfollowed := true, recurses := true, apart := false, narrowed := true }
def CodeMayUptoSaid : Prop := codeMayUptoRow.holds Try.pinned (OpenSpec.upto codeMaySpec)

/-- 'headgatelaw22.CodeRuns', WHERE WHAT IT READS IS OF BULK AT MOST 1048576: true; the input reads as it did. -/
def codeRunsUptoRow : OpenClaim := { program := "ytekbcfgcojecmaa", sum := "3f6e30b8093a06604d7e0d6c1d6a3383f91b5b45caf7f7faf3d9040bde5e26c0", func := "headgate/headgatelaw22.CodeRuns", spec := "codeRuns", unfollowed := true, recurses := true, apart := false, narrowed := true }
def CodeRunsUptoSaid : Prop := codeRunsUptoRow.holds Try.pinned (OpenSpec.upto codeRunsSpec)

/-- 'headgatelaw22.CodeCompiles', WHERE WHAT IT READS IS OF BULK AT MOST 1048576: true; the input reads as it did. -/
def codeCompilesUptoRow : OpenClaim := { program := "ytekbcfgcojecmaa", sum := "3f6e30b8093a06604d7e0d6c1d6a3383f91b5b45caf7f7faf3d9040bde5e26c0", func := "headgate/headgatelaw22.CodeCompiles", spec := "codeCompiles", unfollowed := true, recurses := true, loops := true, apart := false, narrowed := true }
def CodeCompilesUptoSaid : Prop := codeCompilesUptoRow.holds Try.pinned (OpenSpec.upto codeCompilesSpec)

/-- 'headgatelaw22.CodeMeans', WHERE WHAT IT READS IS OF BULK AT MOST 1048576: true; the input reads as it did. -/
def codeMeansUptoRow : OpenClaim := { program := "ytekbcfgcojecmaa", sum := "3f6e30b8093a06604d7e0d6c1d6a3383f91b5b45caf7f7faf3d9040bde5e26c0", func := "headgate/headgatelaw22.CodeMeans", spec := "codeMeans", unfollowed := true, recurses := true, loops := true, apart := false, narrowed := true }
def CodeMeansUptoSaid : Prop := codeMeansUptoRow.holds Try.pinned (OpenSpec.upto codeMeansSpec)

/-- 'headgatelaw22.CodeBetters', WHERE WHAT IT READS IS OF BULK AT MOST 1048576: true; the input reads as it did. -/
def codeBettersUptoRow : OpenClaim := { program := "ytekbcfgcojecmaa", sum := "3f6e30b8093a06604d7e0d6c1d6a3383f91b5b45caf7f7faf3d9040bde5e26c0", func := "headgate/headgatelaw22.CodeBetters", spec := "codeBetters", unfollowed := true, recurses := true, apart := false, narrowed := true }
def CodeBettersUptoSaid : Prop := codeBettersUptoRow.holds Try.pinned (OpenSpec.upto codeBettersSpec)

/-- 'headgatelaw22.CodeKeeps', WHERE WHAT IT READS IS OF BULK AT MOST 1048576: true; the input reads as it did. -/
def codeKeepsUptoRow : OpenClaim := { program := "ytekbcfgcojecmaa", sum := "3f6e30b8093a06604d7e0d6c1d6a3383f91b5b45caf7f7faf3d9040bde5e26c0", func := "headgate/headgatelaw22.CodeKeeps", spec := "codeKeeps", unfollowed := true, recurses := true, apart := false, narrowed := true }
def CodeKeepsUptoSaid : Prop := codeKeepsUptoRow.holds Try.pinned (OpenSpec.upto codeKeepsSpec)

/-- 'headgatelaw22.CodeWhole', WHERE WHAT IT READS IS OF BULK AT MOST 1048576: true; the input reads as it did. -/
def codeWholeUptoRow : OpenClaim := { program := "ytekbcfgcojecmaa", sum := "3f6e30b8093a06604d7e0d6c1d6a3383f91b5b45caf7f7faf3d9040bde5e26c0", func := "headgate/headgatelaw22.CodeWhole", spec := "codeWhole", unfollowed := true, recurses := true, loops := true, apart := false, narrowed := true }
def CodeWholeUptoSaid : Prop := codeWholeUptoRow.holds Try.pinned (OpenSpec.upto codeWholeSpec)

end Rows
end Go.Proofs.Ytekbcfgcojecmaa
