/-
  No cell of these rows narrows 'for every input' (looked for: loops, veiled, ifaces, maps, wideKeys, modest, calm, conditions, laid).
  DERIVED. THE GIVEN ROWS OF THIS SEAT. 3 by the template 'for every input the law returns true; each argument reads behind the call as it read before'; 0 by the template 'total and deterministic' (their statements: YtfdnnakieokmbaaTotals.lean).
  GIVEN WITH THE SEED: the statements are not yours to turn. If you find one false, say at which input.
  Laid BY PROGRAM, IN A SANDBOX (cutbox-rows.mjs): the forced cells as the released guide's own fill.sh prints them over the translation bc22233e52d1716c… (all of the seat's roots in one cut). By AI agents, Wed Nov 11 2026. No macro, syntax, notation, axiom, sorry.
-/
import Derived.Test.YtfdnnakieokmbaaChecked
import GoSem.Claim
import GoSem.ClaimJoined
import GoSem.ClaimMapViews
import Derived.JoinedTies
import Derived.KernelRfl
namespace Go.Proofs.Ytfdnnakieokmbaa
/- THE CELL 'sum', in the pinned program and in every row, IS THE sha256 OF THE DUMP (.gsa) THAT YtfdnnakieokmbaaProg.lean LOADS. Nothing in Lean hashes anything: it is a label: what it is worth is what the hold of that sum in a sandbox is worth. -/
noncomputable def Try.pinned : Pinned := { name := "ytfdnnakieokmbaa", sum := "bc22233e52d1716c9bf0aa7d065a94662fdcb77d4a7a7dbf222708858edc9275", checked := Try.checked }
namespace Rows
def none {H : Type} : Left H := { results := [], args := [] }

/-- 'lookoutlaw03.SumsFloats': WHATEVER THE INPUT: true; the input reads as it did. -/
def sumsFloatsSpec : ChangeSpec := { name := "sumsFloats", fn := fun _ => fun
  | [d1, d2] => { results := [.lit (.bool true)], args := [d1, d2] }
  | _ => none }
def sumsFloatsRow : OpenClaim := { program := "ytfdnnakieokmbaa", sum := "bc22233e52d1716c9bf0aa7d065a94662fdcb77d4a7a7dbf222708858edc9275", func := "lookout/lookoutlaw03.SumsFloats", spec := "sumsFloats", inPlace := ["math.Float64bits", "math.Float64frombits"], unfollowed := true, recurses := true, apart := false }
def SumsFloatsSaid : Prop := sumsFloatsRow.holds Try.pinned (OpenSpec.ofChange sumsFloatsSpec)

/-- ITS FALSE NEIGHBOUR: 'it returns false'. Refute it at one input. -/
def sumsFloatsWrong : ChangeSpec := { name := "sumsFloats", fn := fun _ => fun
  | [d1, d2] => { results := [.lit (.bool false)], args := [d1, d2] }
  | _ => none }
def SumsFloatsWrongFalsely : Prop := sumsFloatsRow.holds Try.pinned (OpenSpec.ofChange sumsFloatsWrong)

/-- 'lookoutlaw03.SumsSorted': WHATEVER THE INPUT: true; the input reads as it did. -/
def sumsSortedSpec : ChangeSpec := { name := "sumsSorted", fn := fun _ => fun
  | [d] => { results := [.lit (.bool true)], args := [d] }
  | _ => none }
def sumsSortedRow : OpenClaim := { program := "ytfdnnakieokmbaa", sum := "bc22233e52d1716c9bf0aa7d065a94662fdcb77d4a7a7dbf222708858edc9275", func := "lookout/lookoutlaw03.SumsSorted", spec := "sumsSorted", inPlace := ["math.Float64bits", "math.Float64frombits"], unfollowed := true, recurses := true, apart := false }
def SumsSortedSaid : Prop := sumsSortedRow.holds Try.pinned (OpenSpec.ofChange sumsSortedSpec)

/-- ITS FALSE NEIGHBOUR: 'it returns false'. Refute it at one input. -/
def sumsSortedWrong : ChangeSpec := { name := "sumsSorted", fn := fun _ => fun
  | [d] => { results := [.lit (.bool false)], args := [d] }
  | _ => none }
def SumsSortedWrongFalsely : Prop := sumsSortedRow.holds Try.pinned (OpenSpec.ofChange sumsSortedWrong)

/-- 'lookoutlaw03.SumsKnown': WHATEVER THE INPUT: true; the input reads as it did. -/
def sumsKnownSpec : ChangeSpec := { name := "sumsKnown", fn := fun _ => fun
  | [] => { results := [.lit (.bool true)], args := [] }
  | _ => none }
def sumsKnownRow : OpenClaim := { program := "ytfdnnakieokmbaa", sum := "bc22233e52d1716c9bf0aa7d065a94662fdcb77d4a7a7dbf222708858edc9275", func := "lookout/lookoutlaw03.SumsKnown", spec := "sumsKnown", inPlace := ["math.Float64bits", "math.Float64frombits"], unfollowed := true, recurses := true, apart := false }
def SumsKnownSaid : Prop := sumsKnownRow.holds Try.pinned (OpenSpec.ofChange sumsKnownSpec)

/-- ITS FALSE NEIGHBOUR: 'it returns false'. Refute it at one input. -/
def sumsKnownWrong : ChangeSpec := { name := "sumsKnown", fn := fun _ => fun
  | [] => { results := [.lit (.bool false)], args := [] }
  | _ => none }
def SumsKnownWrongFalsely : Prop := sumsKnownRow.holds Try.pinned (OpenSpec.ofChange sumsKnownWrong)

/- THE SECOND FORM. 'bulk': how many values and letters a reading holds, each counted each time it is reached (what is shared counts as often as it is met; a slice's spare places count too). A statement '..UptoSaid' is the law's where the arguments, and the package variables that the reading takes, are together of bulk at most 1048576: NARROWER than '..Said'. Prove '..Said' where nothing that the law and all that it calls make is longer than what came in: it says more and counts as full. Else prove '..UptoSaid'. A law counts once. -/
mutual
def uptoBulk {H : Type} : DataW H → Nat
  | .lit (.string bytes) => bytes.length + 1
  | .lit _ => 1
  | .nil => 1
  | .ptr d => uptoBulk d + 1
  | .slice elems spare => uptoBulkAll elems + uptoBulkAll spare + 1
  | .agg parts => uptoBulkAll parts + 1
  | .iface _ d => uptoBulk d + 1
  | .map entries => uptoBulkEntries entries + 1
  | .held _ => 1
def uptoBulkAll {H : Type} : List (DataW H) → Nat
  | [] => 0
  | d :: r => uptoBulk d + uptoBulkAll r
def uptoBulkEntries {H : Type} : List (Lit × DataW H) → Nat
  | [] => 0
  | x :: r => uptoBulkEntry x + uptoBulkEntries r
def uptoBulkEntry {H : Type} : Lit × DataW H → Nat
  | (.string bytes, d) => bytes.length + uptoBulk d + 1
  | (_, d) => uptoBulk d + 1
 end
def uptoSmall : (H : Type) → List (DataW H) → Bool := fun _ ds => decide (uptoBulkAll ds ≤ 1048576)
def OpenSpec.upto (s : _root_.Go.ChangeSpec) : _root_.Go.OpenSpec := { _root_.Go.OpenSpec.ofChange s with cond := some uptoSmall }

/-- 'lookoutlaw03.SumsFloats', WHERE WHAT IT READS IS OF BULK AT MOST 1048576: true; the input reads as it did. -/
def sumsFloatsUptoRow : OpenClaim := { program := "ytfdnnakieokmbaa", sum := "bc22233e52d1716c9bf0aa7d065a94662fdcb77d4a7a7dbf222708858edc9275", func := "lookout/lookoutlaw03.SumsFloats", spec := "sumsFloats", inPlace := ["math.Float64bits", "math.Float64frombits"], unfollowed := true, recurses := true, apart := false, narrowed := true }
def SumsFloatsUptoSaid : Prop := sumsFloatsUptoRow.holds Try.pinned (OpenSpec.upto sumsFloatsSpec)

/-- 'lookoutlaw03.SumsSorted', WHERE WHAT IT READS IS OF BULK AT MOST 1048576: true; the input reads as it did. -/
def sumsSortedUptoRow : OpenClaim := { program := "ytfdnnakieokmbaa", sum := "bc22233e52d1716c9bf0aa7d065a94662fdcb77d4a7a7dbf222708858edc9275", func := "lookout/lookoutlaw03.SumsSorted", spec := "sumsSorted", inPlace := ["math.Float64bits", "math.Float64frombits"], unfollowed := true, recurses := true, apart := false, narrowed := true }
def SumsSortedUptoSaid : Prop := sumsSortedUptoRow.holds Try.pinned (OpenSpec.upto sumsSortedSpec)

/-- 'lookoutlaw03.SumsKnown', WHERE WHAT IT READS IS OF BULK AT MOST 1048576: true; the input reads as it did. -/
def sumsKnownUptoRow : OpenClaim := { program := "ytfdnnakieokmbaa", sum := "bc22233e52d1716c9bf0aa7d065a94662fdcb77d4a7a7dbf222708858edc9275", func := "lookout/lookoutlaw03.SumsKnown", spec := "sumsKnown", inPlace := ["math.Float64bits", "math.Float64frombits"], unfollowed := true, recurses := true, apart := false, narrowed := true }
def SumsKnownUptoSaid : Prop := sumsKnownUptoRow.holds Try.pinned (OpenSpec.upto sumsKnownSpec)

end Rows
end Go.Proofs.Ytfdnnakieokmbaa
