/-
  No cell of these rows narrows 'for every input' (looked for: loops, veiled, ifaces, maps, wideKeys, modest, calm, conditions, laid).
  DERIVED. THE GIVEN ROWS OF THIS SEAT. 6 by the template 'for every input the law returns true; each argument reads behind the call as it read before'; 0 by the template 'total and deterministic' (their statements: YtfjdihfflghfpaaTotals.lean).
  GIVEN WITH THE SEED: the statements are not yours to turn. If you find one false, say at which input.
  Laid BY PROGRAM, IN A SANDBOX (cutbox-rows.mjs): the forced cells as the released guide's own fill.sh prints them over the translation 853a95c393adb397… (all of the seat's roots in one cut). By AI agents, Wed Nov 11 2026. No macro, syntax, notation, axiom, sorry.
-/
import Derived.Test.YtfjdihfflghfpaaChecked
import GoSem.Claim
import GoSem.ClaimJoined
import GoSem.ClaimMapViews
import Derived.JoinedTies
import Derived.KernelRfl
namespace Go.Proofs.Ytfjdihfflghfpaa
/- THE CELL 'sum', in the pinned program and in every row, IS THE sha256 OF THE DUMP (.gsa) THAT YtfjdihfflghfpaaProg.lean LOADS. Nothing in Lean hashes anything: it is a label: what it is worth is what the hold of that sum in a sandbox is worth. -/
noncomputable def Try.pinned : Pinned := { name := "ytfjdihfflghfpaa", sum := "853a95c393adb397ca3e47b6c70c8d9524e4ba1308d1734647a0e57f04158f4a", checked := Try.checked }
namespace Rows
def none {H : Type} : Left H := { results := [], args := [] }

/-- 'lookoutlaw14.CfarLines': WHATEVER THE INPUT: true; the input reads as it did. -/
def cfarLinesSpec : ChangeSpec := { name := "cfarLines", fn := fun _ => fun
  | [d1, d2, d3] => { results := [.lit (.bool true)], args := [d1, d2, d3] }
  | _ => none }
def cfarLinesRow : OpenClaim := { program := "ytfjdihfflghfpaa", sum := "853a95c393adb397ca3e47b6c70c8d9524e4ba1308d1734647a0e57f04158f4a", func := "lookout/lookoutlaw14.CfarLines", spec := "cfarLines", inPlace := ["math.Float64bits", "math.Float64frombits"], unfollowed := true, recurses := true, apart := false }
def CfarLinesSaid : Prop := cfarLinesRow.holds Try.pinned (OpenSpec.ofChange cfarLinesSpec)

/-- ITS FALSE NEIGHBOUR: 'it returns false'. Refute it at one input. -/
def cfarLinesWrong : ChangeSpec := { name := "cfarLines", fn := fun _ => fun
  | [d1, d2, d3] => { results := [.lit (.bool false)], args := [d1, d2, d3] }
  | _ => none }
def CfarLinesWrongFalsely : Prop := cfarLinesRow.holds Try.pinned (OpenSpec.ofChange cfarLinesWrong)

/-- 'lookoutlaw03.SumsFloats': WHATEVER THE INPUT: true; the input reads as it did. -/
def sumsFloatsSpec : ChangeSpec := { name := "sumsFloats", fn := fun _ => fun
  | [d1, d2] => { results := [.lit (.bool true)], args := [d1, d2] }
  | _ => none }
def sumsFloatsRow : OpenClaim := { program := "ytfjdihfflghfpaa", sum := "853a95c393adb397ca3e47b6c70c8d9524e4ba1308d1734647a0e57f04158f4a", func := "lookout/lookoutlaw03.SumsFloats", spec := "sumsFloats", inPlace := ["math.Float64bits", "math.Float64frombits"], unfollowed := true, recurses := true, apart := false }
def SumsFloatsSaid : Prop := sumsFloatsRow.holds Try.pinned (OpenSpec.ofChange sumsFloatsSpec)

/-- ITS FALSE NEIGHBOUR: 'it returns false'. Refute it at one input. -/
def sumsFloatsWrong : ChangeSpec := { name := "sumsFloats", fn := fun _ => fun
  | [d1, d2] => { results := [.lit (.bool false)], args := [d1, d2] }
  | _ => none }
def SumsFloatsWrongFalsely : Prop := sumsFloatsRow.holds Try.pinned (OpenSpec.ofChange sumsFloatsWrong)

/-- 'lookoutlaw03.SumsSorted': WHATEVER THE INPUT: true; the input reads as it did. -/
def sumsSortedSpec : ChangeSpec := { name := "sumsSorted", fn := fun _ => fun
  | [d] => { results := [.lit (.bool true)], args := [d] }
  | _ => none }
def sumsSortedRow : OpenClaim := { program := "ytfjdihfflghfpaa", sum := "853a95c393adb397ca3e47b6c70c8d9524e4ba1308d1734647a0e57f04158f4a", func := "lookout/lookoutlaw03.SumsSorted", spec := "sumsSorted", inPlace := ["math.Float64bits", "math.Float64frombits"], unfollowed := true, recurses := true, apart := false }
def SumsSortedSaid : Prop := sumsSortedRow.holds Try.pinned (OpenSpec.ofChange sumsSortedSpec)

/-- ITS FALSE NEIGHBOUR: 'it returns false'. Refute it at one input. -/
def sumsSortedWrong : ChangeSpec := { name := "sumsSorted", fn := fun _ => fun
  | [d] => { results := [.lit (.bool false)], args := [d] }
  | _ => none }
def SumsSortedWrongFalsely : Prop := sumsSortedRow.holds Try.pinned (OpenSpec.ofChange sumsSortedWrong)

/-- 'lookoutlaw14.CfarMaps': WHATEVER THE INPUT: true; the input reads as it did. -/
def cfarMapsSpec : ChangeSpec := { name := "cfarMaps", fn := fun _ => fun
  | [d1, d2] => { results := [.lit (.bool true)], args := [d1, d2] }
  | _ => none }
def cfarMapsRow : OpenClaim := { program := "ytfjdihfflghfpaa", sum := "853a95c393adb397ca3e47b6c70c8d9524e4ba1308d1734647a0e57f04158f4a", func := "lookout/lookoutlaw14.CfarMaps", spec := "cfarMaps", inPlace := ["math.Float64bits", "math.Float64frombits"], unfollowed := true, recurses := true, apart := false }
def CfarMapsSaid : Prop := cfarMapsRow.holds Try.pinned (OpenSpec.ofChange cfarMapsSpec)

/-- ITS FALSE NEIGHBOUR: 'it returns false'. Refute it at one input. -/
def cfarMapsWrong : ChangeSpec := { name := "cfarMaps", fn := fun _ => fun
  | [d1, d2] => { results := [.lit (.bool false)], args := [d1, d2] }
  | _ => none }
def CfarMapsWrongFalsely : Prop := cfarMapsRow.holds Try.pinned (OpenSpec.ofChange cfarMapsWrong)

/-- 'lookoutlaw14.CfarMore': WHATEVER THE INPUT: true; the input reads as it did. -/
def cfarMoreSpec : ChangeSpec := { name := "cfarMore", fn := fun _ => fun
  | [d1, d2, d3, d4] => { results := [.lit (.bool true)], args := [d1, d2, d3, d4] }
  | _ => none }
def cfarMoreRow : OpenClaim := { program := "ytfjdihfflghfpaa", sum := "853a95c393adb397ca3e47b6c70c8d9524e4ba1308d1734647a0e57f04158f4a", func := "lookout/lookoutlaw14.CfarMore", spec := "cfarMore", inPlace := ["math.Float64bits", "math.Float64frombits", "math.archFloor", "math.archTrunc"], unfollowed := true, recurses := true, apart := false }
def CfarMoreSaid : Prop := cfarMoreRow.holds Try.pinned (OpenSpec.ofChange cfarMoreSpec)

/-- ITS FALSE NEIGHBOUR: 'it returns false'. Refute it at one input. -/
def cfarMoreWrong : ChangeSpec := { name := "cfarMore", fn := fun _ => fun
  | [d1, d2, d3, d4] => { results := [.lit (.bool false)], args := [d1, d2, d3, d4] }
  | _ => none }
def CfarMoreWrongFalsely : Prop := cfarMoreRow.holds Try.pinned (OpenSpec.ofChange cfarMoreWrong)

/-- 'lookoutlaw14.CfarCells': WHATEVER THE INPUT: true; the input reads as it did. -/
def cfarCellsSpec : ChangeSpec := { name := "cfarCells", fn := fun _ => fun
  | [d1, d2, d3, d4, d5, d6, d7] => { results := [.lit (.bool true)], args := [d1, d2, d3, d4, d5, d6, d7] }
  | _ => none }
def cfarCellsRow : OpenClaim := { program := "ytfjdihfflghfpaa", sum := "853a95c393adb397ca3e47b6c70c8d9524e4ba1308d1734647a0e57f04158f4a", func := "lookout/lookoutlaw14.CfarCells", spec := "cfarCells", inPlace := ["math.Float64bits", "math.Float64frombits"], unfollowed := true, recurses := true, apart := false }
def CfarCellsSaid : Prop := cfarCellsRow.holds Try.pinned (OpenSpec.ofChange cfarCellsSpec)

/-- ITS FALSE NEIGHBOUR: 'it returns false'. Refute it at one input. -/
def cfarCellsWrong : ChangeSpec := { name := "cfarCells", fn := fun _ => fun
  | [d1, d2, d3, d4, d5, d6, d7] => { results := [.lit (.bool false)], args := [d1, d2, d3, d4, d5, d6, d7] }
  | _ => none }
def CfarCellsWrongFalsely : Prop := cfarCellsRow.holds Try.pinned (OpenSpec.ofChange cfarCellsWrong)

/- THE SECOND FORM. 'bulk': how many values and letters a reading holds, each counted each time it is reached (what is shared counts as often as it is met; a slice's spare places count too). A statement '..UptoSaid' is the law's where the arguments, and the package variables that the reading takes, are together of bulk at most 1048576: NARROWER than '..Said'. Prove '..Said' where nothing that the law and all that it calls make is longer than what came in: it says more and counts as full. Else prove '..UptoSaid'. A law counts once. -/
mutual
def uptoBulk {H : Type} : DataW H → Nat
  | .lit (.string bytes) => bytes.length + 1
  | .lit _ => 1
  | .nil => 1
  | .ptr d => uptoBulk d + 1
  | .slice elems spare => uptoBulkAll elems + uptoBulkAll spare + 1
  | .agg parts => uptoBulkAll parts + 1
  | .iface _ d => uptoBulk d + 1
  | .map entries => uptoBulkEntries entries + 1
  | .held _ => 1
def uptoBulkAll {H : Type} : List (DataW H) → Nat
  | [] => 0
  | d :: r => uptoBulk d + uptoBulkAll r
def uptoBulkEntries {H : Type} : List (Lit × DataW H) → Nat
  | [] => 0
  | x :: r => uptoBulkEntry x + uptoBulkEntries r
def uptoBulkEntry {H : Type} : Lit × DataW H → Nat
  | (.string bytes, d) => bytes.length + uptoBulk d + 1
  | (_, d) => uptoBulk d + 1
 end
def uptoSmall : (H : Type) → List (DataW H) → Bool := fun _ ds => decide (uptoBulkAll ds ≤ 1048576)
def OpenSpec.upto (s : _root_.Go.ChangeSpec) : _root_.Go.OpenSpec := { _root_.Go.OpenSpec.ofChange s with cond := some uptoSmall }

/-- 'lookoutlaw14.CfarLines', WHERE WHAT IT READS IS OF BULK AT MOST 1048576: true; the input reads as it did. -/
def cfarLinesUptoRow : OpenClaim := { program := "ytfjdihfflghfpaa", sum := "853a95c393adb397ca3e47b6c70c8d9524e4ba1308d1734647a0e57f04158f4a", func := "lookout/lookoutlaw14.CfarLines", spec := "cfarLines", inPlace := ["math.Float64bits", "math.Float64frombits"], unfollowed := true, recurses := true, apart := false, narrowed := true }
def CfarLinesUptoSaid : Prop := cfarLinesUptoRow.holds Try.pinned (OpenSpec.upto cfarLinesSpec)

/-- 'lookoutlaw03.SumsFloats', WHERE WHAT IT READS IS OF BULK AT MOST 1048576: true; the input reads as it did. -/
def sumsFloatsUptoRow : OpenClaim := { program := "ytfjdihfflghfpaa", sum := "853a95c393adb397ca3e47b6c70c8d9524e4ba1308d1734647a0e57f04158f4a", func := "lookout/lookoutlaw03.SumsFloats", spec := "sumsFloats", inPlace := ["math.Float64bits", "math.Float64frombits"], unfollowed := true, recurses := true, apart := false, narrowed := true }
def SumsFloatsUptoSaid : Prop := sumsFloatsUptoRow.holds Try.pinned (OpenSpec.upto sumsFloatsSpec)

/-- 'lookoutlaw03.SumsSorted', WHERE WHAT IT READS IS OF BULK AT MOST 1048576: true; the input reads as it did. -/
def sumsSortedUptoRow : OpenClaim := { program := "ytfjdihfflghfpaa", sum := "853a95c393adb397ca3e47b6c70c8d9524e4ba1308d1734647a0e57f04158f4a", func := "lookout/lookoutlaw03.SumsSorted", spec := "sumsSorted", inPlace := ["math.Float64bits", "math.Float64frombits"], unfollowed := true, recurses := true, apart := false, narrowed := true }
def SumsSortedUptoSaid : Prop := sumsSortedUptoRow.holds Try.pinned (OpenSpec.upto sumsSortedSpec)

/-- 'lookoutlaw14.CfarMaps', WHERE WHAT IT READS IS OF BULK AT MOST 1048576: true; the input reads as it did. -/
def cfarMapsUptoRow : OpenClaim := { program := "ytfjdihfflghfpaa", sum := "853a95c393adb397ca3e47b6c70c8d9524e4ba1308d1734647a0e57f04158f4a", func := "lookout/lookoutlaw14.CfarMaps", spec := "cfarMaps", inPlace := ["math.Float64bits", "math.Float64frombits"], unfollowed := true, recurses := true, apart := false, narrowed := true }
def CfarMapsUptoSaid : Prop := cfarMapsUptoRow.holds Try.pinned (OpenSpec.upto cfarMapsSpec)

/-- 'lookoutlaw14.CfarMore', WHERE WHAT IT READS IS OF BULK AT MOST 1048576: true; the input reads as it did. -/
def cfarMoreUptoRow : OpenClaim := { program := "ytfjdihfflghfpaa", sum := "853a95c393adb397ca3e47b6c70c8d9524e4ba1308d1734647a0e57f04158f4a", func := "lookout/lookoutlaw14.CfarMore", spec := "cfarMore", inPlace := ["math.Float64bits", "math.Float64frombits", "math.archFloor", "math.archTrunc"], unfollowed := true, recurses := true, apart := false, narrowed := true }
def CfarMoreUptoSaid : Prop := cfarMoreUptoRow.holds Try.pinned (OpenSpec.upto cfarMoreSpec)

/-- 'lookoutlaw14.CfarCells', WHERE WHAT IT READS IS OF BULK AT MOST 1048576: true; the input reads as it did. -/
def cfarCellsUptoRow : OpenClaim := { program := "ytfjdihfflghfpaa", sum := "853a95c393adb397ca3e47b6c70c8d9524e4ba1308d1734647a0e57f04158f4a", func := "lookout/lookoutlaw14.CfarCells", spec := "cfarCells", inPlace := ["math.Float64bits", "math.Float64frombits"], unfollowed := true, recurses := true, apart := false, narrowed := true }
def CfarCellsUptoSaid : Prop := cfarCellsUptoRow.holds Try.pinned (OpenSpec.upto cfarCellsSpec)

end Rows
end Go.Proofs.Ytfjdihfflghfpaa
