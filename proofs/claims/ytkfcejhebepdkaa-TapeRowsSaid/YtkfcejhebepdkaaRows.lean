/-
  No cell of these rows narrows 'for every input' (looked for: loops, veiled, ifaces, maps, wideKeys, modest, calm, conditions, laid).
  DERIVED. THE GIVEN ROWS OF THIS SEAT. 5 by the template 'for every input the law returns true; each argument reads behind the call as it read before'; 0 by the template 'total and deterministic' (their statements: YtkfcejhebepdkaaTotals.lean).
  GIVEN WITH THE SEED: the statements are not yours to turn. If you find one false, say at which input.
  Laid BY PROGRAM, IN A SANDBOX (cutbox-rows.mjs): the forced cells as the released guide's own fill.sh prints them over the translation 60bd6cd60a523678… (all of the seat's roots in one cut). By AI agents, Wed Nov 11 2026. No macro, syntax, notation, axiom, sorry.
-/
import Derived.Test.YtkfcejhebepdkaaChecked
import GoSem.Claim
import GoSem.ClaimJoined
import GoSem.ClaimMapViews
import Derived.JoinedTies
import Derived.KernelRfl
namespace Go.Proofs.Ytkfcejhebepdkaa
/- THE CELL 'sum', in the pinned program and in every row, IS THE sha256 OF THE DUMP (.gsa) THAT YtkfcejhebepdkaaProg.lean LOADS. Nothing in Lean hashes anything: it is a label: what it is worth is what the hold of that sum in a sandbox is worth. -/
noncomputable def Try.pinned : Pinned := { name := "ytkfcejhebepdkaa", sum := "60bd6cd60a5236781304352568c990701bc029a79e855c2412b1ca6181fb9256", checked := Try.checked }
namespace Rows
def none {H : Type} : Left H := { results := [], args := [] }

/-- 'lookoutlaw27.TapeReads': WHATEVER THE INPUT: true; the input reads as it did. -/
def tapeReadsSpec : ChangeSpec := { name := "tapeReads", fn := fun _ => fun
  | [d1, d2] => { results := [.lit (.bool true)], args := [d1, d2] }
  | _ => none }
def tapeReadsRow : OpenClaim := { program := "ytkfcejhebepdkaa", sum := "60bd6cd60a5236781304352568c990701bc029a79e855c2412b1ca6181fb9256", func := "lookout/lookoutlaw27.TapeReads", spec := "tapeReads", inPlace := ["math.Float64bits", "math.Float64frombits", "math.archFloor", "math.archTrunc"], apart := false }
def TapeReadsSaid : Prop := tapeReadsRow.holds Try.pinned (OpenSpec.ofChange tapeReadsSpec)

/-- ITS FALSE NEIGHBOUR: 'it returns false'. Refute it at one input. -/
def tapeReadsWrong : ChangeSpec := { name := "tapeReads", fn := fun _ => fun
  | [d1, d2] => { results := [.lit (.bool false)], args := [d1, d2] }
  | _ => none }
def TapeReadsWrongFalsely : Prop := tapeReadsRow.holds Try.pinned (OpenSpec.ofChange tapeReadsWrong)

/-- 'lookoutlaw27.TapeBack': WHATEVER THE INPUT: true; the input reads as it did. -/
def tapeBackSpec : ChangeSpec := { name := "tapeBack", fn := fun _ => fun
  | [d1, d2] => { results := [.lit (.bool true)], args := [d1, d2] }
  | _ => none }
def tapeBackRow : OpenClaim := { program := "ytkfcejhebepdkaa", sum := "60bd6cd60a5236781304352568c990701bc029a79e855c2412b1ca6181fb9256", func := "lookout/lookoutlaw27.TapeBack", spec := "tapeBack", inPlace := ["math.Float64bits", "math.Float64frombits", "math.archFloor", "math.archTrunc"], apart := false }
def TapeBackSaid : Prop := tapeBackRow.holds Try.pinned (OpenSpec.ofChange tapeBackSpec)

/-- ITS FALSE NEIGHBOUR: 'it returns false'. Refute it at one input. -/
def tapeBackWrong : ChangeSpec := { name := "tapeBack", fn := fun _ => fun
  | [d1, d2] => { results := [.lit (.bool false)], args := [d1, d2] }
  | _ => none }
def TapeBackWrongFalsely : Prop := tapeBackRow.holds Try.pinned (OpenSpec.ofChange tapeBackWrong)

/-- 'lookoutlaw27.TapeTurned': WHATEVER THE INPUT: true; the input reads as it did. -/
def tapeTurnedSpec : ChangeSpec := { name := "tapeTurned", fn := fun _ => fun
  | [d1, d2, d3] => { results := [.lit (.bool true)], args := [d1, d2, d3] }
  | _ => none }
def tapeTurnedRow : OpenClaim := { program := "ytkfcejhebepdkaa", sum := "60bd6cd60a5236781304352568c990701bc029a79e855c2412b1ca6181fb9256", func := "lookout/lookoutlaw27.TapeTurned", spec := "tapeTurned", inPlace := ["math.Float64bits", "math.Float64frombits", "math.archFloor", "math.archTrunc"], apart := false }
def TapeTurnedSaid : Prop := tapeTurnedRow.holds Try.pinned (OpenSpec.ofChange tapeTurnedSpec)

/-- ITS FALSE NEIGHBOUR: 'it returns false'. Refute it at one input. -/
def tapeTurnedWrong : ChangeSpec := { name := "tapeTurned", fn := fun _ => fun
  | [d1, d2, d3] => { results := [.lit (.bool false)], args := [d1, d2, d3] }
  | _ => none }
def TapeTurnedWrongFalsely : Prop := tapeTurnedRow.holds Try.pinned (OpenSpec.ofChange tapeTurnedWrong)

/-- 'lookoutlaw27.TapeRows': WHATEVER THE INPUT: true; the input reads as it did. -/
def tapeRowsSpec : ChangeSpec := { name := "tapeRows", fn := fun _ => fun
  | [d] => { results := [.lit (.bool true)], args := [d] }
  | _ => none }
def tapeRowsRow : OpenClaim := { program := "ytkfcejhebepdkaa", sum := "60bd6cd60a5236781304352568c990701bc029a79e855c2412b1ca6181fb9256", func := "lookout/lookoutlaw27.TapeRows", spec := "tapeRows", inPlace := ["math.Float64bits", "math.Float64frombits", "math.archFloor", "math.archTrunc"], apart := false }
def TapeRowsSaid : Prop := tapeRowsRow.holds Try.pinned (OpenSpec.ofChange tapeRowsSpec)

/-- ITS FALSE NEIGHBOUR: 'it returns false'. Refute it at one input. -/
def tapeRowsWrong : ChangeSpec := { name := "tapeRows", fn := fun _ => fun
  | [d] => { results := [.lit (.bool false)], args := [d] }
  | _ => none }
def TapeRowsWrongFalsely : Prop := tapeRowsRow.holds Try.pinned (OpenSpec.ofChange tapeRowsWrong)

/-- 'lookoutlaw27.TapeExact': WHATEVER THE INPUT: true; the input reads as it did. -/
def tapeExactSpec : ChangeSpec := { name := "tapeExact", fn := fun _ => fun
  | [d] => { results := [.lit (.bool true)], args := [d] }
  | _ => none }
def tapeExactRow : OpenClaim := { program := "ytkfcejhebepdkaa", sum := "60bd6cd60a5236781304352568c990701bc029a79e855c2412b1ca6181fb9256", func := "lookout/lookoutlaw27.TapeExact", spec := "tapeExact", inPlace := ["math.Float64bits", "math.Float64frombits", "math.archFloor", "math.archTrunc"], apart := false }
def TapeExactSaid : Prop := tapeExactRow.holds Try.pinned (OpenSpec.ofChange tapeExactSpec)

/-- ITS FALSE NEIGHBOUR: 'it returns false'. Refute it at one input. -/
def tapeExactWrong : ChangeSpec := { name := "tapeExact", fn := fun _ => fun
  | [d] => { results := [.lit (.bool false)], args := [d] }
  | _ => none }
def TapeExactWrongFalsely : Prop := tapeExactRow.holds Try.pinned (OpenSpec.ofChange tapeExactWrong)

/- THE SECOND FORM. 'bulk': how many values and letters a reading holds, each counted each time it is reached (what is shared counts as often as it is met; a slice's spare places count too). A statement '..UptoSaid' is the law's where the arguments, and the package variables that the reading takes, are together of bulk at most 1048576: NARROWER than '..Said'. Prove '..Said' where nothing that the law and all that it calls make is longer than what came in: it says more and counts as full. Else prove '..UptoSaid'. A law counts once. -/
mutual
def uptoBulk {H : Type} : DataW H → Nat
  | .lit (.string bytes) => bytes.length + 1
  | .lit _ => 1
  | .nil => 1
  | .ptr d => uptoBulk d + 1
  | .slice elems spare => uptoBulkAll elems + uptoBulkAll spare + 1
  | .agg parts => uptoBulkAll parts + 1
  | .iface _ d => uptoBulk d + 1
  | .map entries => uptoBulkEntries entries + 1
  | .held _ => 1
def uptoBulkAll {H : Type} : List (DataW H) → Nat
  | [] => 0
  | d :: r => uptoBulk d + uptoBulkAll r
def uptoBulkEntries {H : Type} : List (Lit × DataW H) → Nat
  | [] => 0
  | x :: r => uptoBulkEntry x + uptoBulkEntries r
def uptoBulkEntry {H : Type} : Lit × DataW H → Nat
  | (.string bytes, d) => bytes.length + uptoBulk d + 1
  | (_, d) => uptoBulk d + 1
 end
def uptoSmall : (H : Type) → List (DataW H) → Bool := fun _ ds => decide (uptoBulkAll ds ≤ 1048576)
def OpenSpec.upto (s : _root_.Go.ChangeSpec) : _root_.Go.OpenSpec := { _root_.Go.OpenSpec.ofChange s with cond := some uptoSmall }

/-- 'lookoutlaw27.TapeReads', WHERE WHAT IT READS IS OF BULK AT MOST 1048576: true; the input reads as it did. -/
def tapeReadsUptoRow : OpenClaim := { program := "ytkfcejhebepdkaa", sum := "60bd6cd60a5236781304352568c990701bc029a79e855c2412b1ca6181fb9256", func := "lookout/lookoutlaw27.TapeReads", spec := "tapeReads", inPlace := ["math.Float64bits", "math.Float64frombits", "math.archFloor", "math.archTrunc"], apart := false, narrowed := true }
def TapeReadsUptoSaid : Prop := tapeReadsUptoRow.holds Try.pinned (OpenSpec.upto tapeReadsSpec)

/-- 'lookoutlaw27.TapeBack', WHERE WHAT IT READS IS OF BULK AT MOST 1048576: true; the input reads as it did. -/
def tapeBackUptoRow : OpenClaim := { program := "ytkfcejhebepdkaa", sum := "60bd6cd60a5236781304352568c990701bc029a79e855c2412b1ca6181fb9256", func := "lookout/lookoutlaw27.TapeBack", spec := "tapeBack", inPlace := ["math.Float64bits", "math.Float64frombits", "math.archFloor", "math.archTrunc"], apart := false, narrowed := true }
def TapeBackUptoSaid : Prop := tapeBackUptoRow.holds Try.pinned (OpenSpec.upto tapeBackSpec)

/-- 'lookoutlaw27.TapeTurned', WHERE WHAT IT READS IS OF BULK AT MOST 1048576: true; the input reads as it did. -/
def tapeTurnedUptoRow : OpenClaim := { program := "ytkfcejhebepdkaa", sum := "60bd6cd60a5236781304352568c990701bc029a79e855c2412b1ca6181fb9256", func := "lookout/lookoutlaw27.TapeTurned", spec := "tapeTurned", inPlace := ["math.Float64bits", "math.Float64frombits", "math.archFloor", "math.archTrunc"], apart := false, narrowed := true }
def TapeTurnedUptoSaid : Prop := tapeTurnedUptoRow.holds Try.pinned (OpenSpec.upto tapeTurnedSpec)

/-- 'lookoutlaw27.TapeRows', WHERE WHAT IT READS IS OF BULK AT MOST 1048576: true; the input reads as it did. -/
def tapeRowsUptoRow : OpenClaim := { program := "ytkfcejhebepdkaa", sum := "60bd6cd60a5236781304352568c990701bc029a79e855c2412b1ca6181fb9256", func := "lookout/lookoutlaw27.TapeRows", spec := "tapeRows", inPlace := ["math.Float64bits", "math.Float64frombits", "math.archFloor", "math.archTrunc"], apart := false, narrowed := true }
def TapeRowsUptoSaid : Prop := tapeRowsUptoRow.holds Try.pinned (OpenSpec.upto tapeRowsSpec)

/-- 'lookoutlaw27.TapeExact', WHERE WHAT IT READS IS OF BULK AT MOST 1048576: true; the input reads as it did. -/
def tapeExactUptoRow : OpenClaim := { program := "ytkfcejhebepdkaa", sum := "60bd6cd60a5236781304352568c990701bc029a79e855c2412b1ca6181fb9256", func := "lookout/lookoutlaw27.TapeExact", spec := "tapeExact", inPlace := ["math.Float64bits", "math.Float64frombits", "math.archFloor", "math.archTrunc"], apart := false, narrowed := true }
def TapeExactUptoSaid : Prop := tapeExactUptoRow.holds Try.pinned (OpenSpec.upto tapeExactSpec)

end Rows
end Go.Proofs.Ytkfcejhebepdkaa
