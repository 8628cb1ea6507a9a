/-
  No cell of these rows narrows 'for every input' (looked for: loops, veiled, ifaces, maps, wideKeys, modest, calm, conditions, laid).
  DERIVED. THE GIVEN ROWS OF THIS SEAT. 8 by the template 'for every input the law returns true; each argument reads behind the call as it read before'; 0 by the template 'total and deterministic' (their statements: YtpphomoijlilfaaTotals.lean).
  GIVEN WITH THE SEED: the statements are not yours to turn. If you find one false, say at which input.
  Laid BY PROGRAM, IN A SANDBOX (cutbox-rows.mjs): the forced cells as the released guide's own fill.sh prints them over the translation 5e78391cd2b9114f… (all of the seat's roots in one cut). By AI agents, Wed Nov 11 2026. No macro, syntax, notation, axiom, sorry.
-/
import Derived.Test.YtpphomoijlilfaaChecked
import GoSem.Claim
import GoSem.ClaimJoined
import GoSem.ClaimMapViews
import Derived.JoinedTies
import Derived.KernelRfl
namespace Go.Proofs.Ytpphomoijlilfaa
/- THE CELL 'sum', in the pinned program and in every row, IS THE sha256 OF THE DUMP (.gsa) THAT YtpphomoijlilfaaProg.lean LOADS. Nothing in Lean hashes anything: it is a label: what it is worth is what the hold of that sum in a sandbox is worth. -/
noncomputable def Try.pinned : Pinned := { name := "ytpphomoijlilfaa", sum := "5e78391cd2b9114f372db2e909525dec6830129bee8911286502277895bb109f", checked := Try.checked }
namespace Rows
def none {H : Type} : Left H := { results := [], args := [] }

/-- 'lookoutlaw15.PeaksHighest': WHATEVER THE INPUT: true; the input reads as it did. -/
def peaksHighestSpec : ChangeSpec := { name := "peaksHighest", fn := fun _ => fun
  | [d] => { results := [.lit (.bool true)], args := [d] }
  | _ => none }
def peaksHighestRow : OpenClaim := { program := "ytpphomoijlilfaa", sum := "5e78391cd2b9114f372db2e909525dec6830129bee8911286502277895bb109f", func := "lookout/lookoutlaw15.PeaksHighest", spec := "peaksHighest", inPlace := ["math.Float64bits", "math.Float64frombits"], unfollowed := true, recurses := true, plainKeys := false, apart := false }
def PeaksHighestSaid : Prop := peaksHighestRow.holds Try.pinned (OpenSpec.ofChange peaksHighestSpec)

/-- ITS FALSE NEIGHBOUR: 'it returns false'. Refute it at one input. -/
def peaksHighestWrong : ChangeSpec := { name := "peaksHighest", fn := fun _ => fun
  | [d] => { results := [.lit (.bool false)], args := [d] }
  | _ => none }
def PeaksHighestWrongFalsely : Prop := peaksHighestRow.holds Try.pinned (OpenSpec.ofChange peaksHighestWrong)

/-- 'lookoutlaw15.PeaksGroups': WHATEVER THE INPUT: true; the input reads as it did. -/
def peaksGroupsSpec : ChangeSpec := { name := "peaksGroups", fn := fun _ => fun
  | [d1, d2] => { results := [.lit (.bool true)], args := [d1, d2] }
  | _ => none }
def peaksGroupsRow : OpenClaim := { program := "ytpphomoijlilfaa", sum := "5e78391cd2b9114f372db2e909525dec6830129bee8911286502277895bb109f", func := "lookout/lookoutlaw15.PeaksGroups", spec := "peaksGroups", inPlace := ["math.Float64bits", "math.Float64frombits"], unfollowed := true, recurses := true, plainKeys := false, apart := false }
def PeaksGroupsSaid : Prop := peaksGroupsRow.holds Try.pinned (OpenSpec.ofChange peaksGroupsSpec)

/-- ITS FALSE NEIGHBOUR: 'it returns false'. Refute it at one input. -/
def peaksGroupsWrong : ChangeSpec := { name := "peaksGroups", fn := fun _ => fun
  | [d1, d2] => { results := [.lit (.bool false)], args := [d1, d2] }
  | _ => none }
def PeaksGroupsWrongFalsely : Prop := peaksGroupsRow.holds Try.pinned (OpenSpec.ofChange peaksGroupsWrong)

/-- 'lookoutlaw15.PeaksCentre': WHATEVER THE INPUT: true; the input reads as it did. -/
def peaksCentreSpec : ChangeSpec := { name := "peaksCentre", fn := fun _ => fun
  | [d1, d2, d3] => { results := [.lit (.bool true)], args := [d1, d2, d3] }
  | _ => none }
def peaksCentreRow : OpenClaim := { program := "ytpphomoijlilfaa", sum := "5e78391cd2b9114f372db2e909525dec6830129bee8911286502277895bb109f", func := "lookout/lookoutlaw15.PeaksCentre", spec := "peaksCentre", inPlace := ["math.Float64bits", "math.Float64frombits"], unfollowed := true, recurses := true, plainKeys := false, apart := false }
def PeaksCentreSaid : Prop := peaksCentreRow.holds Try.pinned (OpenSpec.ofChange peaksCentreSpec)

/-- ITS FALSE NEIGHBOUR: 'it returns false'. Refute it at one input. -/
def peaksCentreWrong : ChangeSpec := { name := "peaksCentre", fn := fun _ => fun
  | [d1, d2, d3] => { results := [.lit (.bool false)], args := [d1, d2, d3] }
  | _ => none }
def PeaksCentreWrongFalsely : Prop := peaksCentreRow.holds Try.pinned (OpenSpec.ofChange peaksCentreWrong)

/-- 'lookoutlaw15.PeaksParts': WHATEVER THE INPUT: true; the input reads as it did. -/
def peaksPartsSpec : ChangeSpec := { name := "peaksParts", fn := fun _ => fun
  | [d1, d2, d3] => { results := [.lit (.bool true)], args := [d1, d2, d3] }
  | _ => none }
def peaksPartsRow : OpenClaim := { program := "ytpphomoijlilfaa", sum := "5e78391cd2b9114f372db2e909525dec6830129bee8911286502277895bb109f", func := "lookout/lookoutlaw15.PeaksParts", spec := "peaksParts", inPlace := ["math.Float64bits", "math.Float64frombits"], unfollowed := true, recurses := true, plainKeys := false, apart := false }
def PeaksPartsSaid : Prop := peaksPartsRow.holds Try.pinned (OpenSpec.ofChange peaksPartsSpec)

/-- ITS FALSE NEIGHBOUR: 'it returns false'. Refute it at one input. -/
def peaksPartsWrong : ChangeSpec := { name := "peaksParts", fn := fun _ => fun
  | [d1, d2, d3] => { results := [.lit (.bool false)], args := [d1, d2, d3] }
  | _ => none }
def PeaksPartsWrongFalsely : Prop := peaksPartsRow.holds Try.pinned (OpenSpec.ofChange peaksPartsWrong)

/-- 'lookoutlaw15.PeaksTops': WHATEVER THE INPUT: true; the input reads as it did. -/
def peaksTopsSpec : ChangeSpec := { name := "peaksTops", fn := fun _ => fun
  | [d] => { results := [.lit (.bool true)], args := [d] }
  | _ => none }
def peaksTopsRow : OpenClaim := { program := "ytpphomoijlilfaa", sum := "5e78391cd2b9114f372db2e909525dec6830129bee8911286502277895bb109f", func := "lookout/lookoutlaw15.PeaksTops", spec := "peaksTops", inPlace := ["math.Float64bits", "math.Float64frombits"], unfollowed := true, recurses := true, plainKeys := false, apart := false }
def PeaksTopsSaid : Prop := peaksTopsRow.holds Try.pinned (OpenSpec.ofChange peaksTopsSpec)

/-- ITS FALSE NEIGHBOUR: 'it returns false'. Refute it at one input. -/
def peaksTopsWrong : ChangeSpec := { name := "peaksTops", fn := fun _ => fun
  | [d] => { results := [.lit (.bool false)], args := [d] }
  | _ => none }
def PeaksTopsWrongFalsely : Prop := peaksTopsRow.holds Try.pinned (OpenSpec.ofChange peaksTopsWrong)

/-- 'lookoutlaw15.PeaksWithin': WHATEVER THE INPUT: true; the input reads as it did. -/
def peaksWithinSpec : ChangeSpec := { name := "peaksWithin", fn := fun _ => fun
  | [d1, d2] => { results := [.lit (.bool true)], args := [d1, d2] }
  | _ => none }
def peaksWithinRow : OpenClaim := { program := "ytpphomoijlilfaa", sum := "5e78391cd2b9114f372db2e909525dec6830129bee8911286502277895bb109f", func := "lookout/lookoutlaw15.PeaksWithin", spec := "peaksWithin", inPlace := ["math.Float64bits", "math.Float64frombits"], unfollowed := true, recurses := true, plainKeys := false, apart := false }
def PeaksWithinSaid : Prop := peaksWithinRow.holds Try.pinned (OpenSpec.ofChange peaksWithinSpec)

/-- ITS FALSE NEIGHBOUR: 'it returns false'. Refute it at one input. -/
def peaksWithinWrong : ChangeSpec := { name := "peaksWithin", fn := fun _ => fun
  | [d1, d2] => { results := [.lit (.bool false)], args := [d1, d2] }
  | _ => none }
def PeaksWithinWrongFalsely : Prop := peaksWithinRow.holds Try.pinned (OpenSpec.ofChange peaksWithinWrong)

/-- 'lookoutlaw15.PeaksTurned': WHATEVER THE INPUT: true; the input reads as it did. -/
def peaksTurnedSpec : ChangeSpec := { name := "peaksTurned", fn := fun _ => fun
  | [d1, d2, d3] => { results := [.lit (.bool true)], args := [d1, d2, d3] }
  | _ => none }
def peaksTurnedRow : OpenClaim := { program := "ytpphomoijlilfaa", sum := "5e78391cd2b9114f372db2e909525dec6830129bee8911286502277895bb109f", func := "lookout/lookoutlaw15.PeaksTurned", spec := "peaksTurned", inPlace := ["math.Float64bits", "math.Float64frombits"], unfollowed := true, recurses := true, plainKeys := false, apart := false }
def PeaksTurnedSaid : Prop := peaksTurnedRow.holds Try.pinned (OpenSpec.ofChange peaksTurnedSpec)

/-- ITS FALSE NEIGHBOUR: 'it returns false'. Refute it at one input. -/
def peaksTurnedWrong : ChangeSpec := { name := "peaksTurned", fn := fun _ => fun
  | [d1, d2, d3] => { results := [.lit (.bool false)], args := [d1, d2, d3] }
  | _ => none }
def PeaksTurnedWrongFalsely : Prop := peaksTurnedRow.holds Try.pinned (OpenSpec.ofChange peaksTurnedWrong)

/-- 'lookoutlaw15.PeaksKnown': WHATEVER THE INPUT: true; the input reads as it did. -/
def peaksKnownSpec : ChangeSpec := { name := "peaksKnown", fn := fun _ => fun
  | [] => { results := [.lit (.bool true)], args := [] }
  | _ => none }
def peaksKnownRow : OpenClaim := { program := "ytpphomoijlilfaa", sum := "5e78391cd2b9114f372db2e909525dec6830129bee8911286502277895bb109f", func := "lookout/lookoutlaw15.PeaksKnown", spec := "peaksKnown", inPlace := ["math.Float64bits", "math.Float64frombits"], unfollowed := true, recurses := true, plainKeys := false, apart := false }
def PeaksKnownSaid : Prop := peaksKnownRow.holds Try.pinned (OpenSpec.ofChange peaksKnownSpec)

/-- ITS FALSE NEIGHBOUR: 'it returns false'. Refute it at one input. -/
def peaksKnownWrong : ChangeSpec := { name := "peaksKnown", fn := fun _ => fun
  | [] => { results := [.lit (.bool false)], args := [] }
  | _ => none }
def PeaksKnownWrongFalsely : Prop := peaksKnownRow.holds Try.pinned (OpenSpec.ofChange peaksKnownWrong)

/- THE SECOND FORM. 'bulk': how many values and letters a reading holds, each counted each time it is reached (what is shared counts as often as it is met; a slice's spare places count too). A statement '..UptoSaid' is the law's where the arguments, and the package variables that the reading takes, are together of bulk at most 1048576: NARROWER than '..Said'. Prove '..Said' where nothing that the law and all that it calls make is longer than what came in: it says more and counts as full. Else prove '..UptoSaid'. A law counts once. -/
mutual
def uptoBulk {H : Type} : DataW H → Nat
  | .lit (.string bytes) => bytes.length + 1
  | .lit _ => 1
  | .nil => 1
  | .ptr d => uptoBulk d + 1
  | .slice elems spare => uptoBulkAll elems + uptoBulkAll spare + 1
  | .agg parts => uptoBulkAll parts + 1
  | .iface _ d => uptoBulk d + 1
  | .map entries => uptoBulkEntries entries + 1
  | .held _ => 1
def uptoBulkAll {H : Type} : List (DataW H) → Nat
  | [] => 0
  | d :: r => uptoBulk d + uptoBulkAll r
def uptoBulkEntries {H : Type} : List (Lit × DataW H) → Nat
  | [] => 0
  | x :: r => uptoBulkEntry x + uptoBulkEntries r
def uptoBulkEntry {H : Type} : Lit × DataW H → Nat
  | (.string bytes, d) => bytes.length + uptoBulk d + 1
  | (_, d) => uptoBulk d + 1
 end
def uptoSmall : (H : Type) → List (DataW H) → Bool := fun _ ds => decide (uptoBulkAll ds ≤ 1048576)
def OpenSpec.upto (s : _root_.Go.ChangeSpec) : _root_.Go.OpenSpec := { _root_.Go.OpenSpec.ofChange s with cond := some uptoSmall }

/-- 'lookoutlaw15.PeaksHighest', WHERE WHAT IT READS IS OF BULK AT MOST 1048576: true; the input reads as it did. -/
def peaksHighestUptoRow : OpenClaim := { program := "ytpphomoijlilfaa", sum := "5e78391cd2b9114f372db2e909525dec6830129bee8911286502277895bb109f", func := "lookout/lookoutlaw15.PeaksHighest", spec := "peaksHighest", inPlace := ["math.Float64bits", "math.Float64frombits"], unfollowed := true, recurses := true, plainKeys := false, apart := false, narrowed := true }
def PeaksHighestUptoSaid : Prop := peaksHighestUptoRow.holds Try.pinned (OpenSpec.upto peaksHighestSpec)

/-- 'lookoutlaw15.PeaksGroups', WHERE WHAT IT READS IS OF BULK AT MOST 1048576: true; the input reads as it did. -/
def peaksGroupsUptoRow : OpenClaim := { program := "ytpphomoijlilfaa", sum := "5e78391cd2b9114f372db2e909525dec6830129bee8911286502277895bb109f", func := "lookout/lookoutlaw15.PeaksGroups", spec := "peaksGroups", inPlace := ["math.Float64bits", "math.Float64frombits"], unfollowed := true, recurses := true, plainKeys := false, apart := false, narrowed := true }
def PeaksGroupsUptoSaid : Prop := peaksGroupsUptoRow.holds Try.pinned (OpenSpec.upto peaksGroupsSpec)

/-- 'lookoutlaw15.PeaksCentre', WHERE WHAT IT READS IS OF BULK AT MOST 1048576: true; the input reads as it did. -/
def peaksCentreUptoRow : OpenClaim := { program := "ytpphomoijlilfaa", sum := "5e78391cd2b9114f372db2e909525dec6830129bee8911286502277895bb109f", func := "lookout/lookoutlaw15.PeaksCentre", spec := "peaksCentre", inPlace := ["math.Float64bits", "math.Float64frombits"], unfollowed := true, recurses := true, plainKeys := false, apart := false, narrowed := true }
def PeaksCentreUptoSaid : Prop := peaksCentreUptoRow.holds Try.pinned (OpenSpec.upto peaksCentreSpec)

/-- 'lookoutlaw15.PeaksParts', WHERE WHAT IT READS IS OF BULK AT MOST 1048576: true; the input reads as it did. -/
def peaksPartsUptoRow : OpenClaim := { program := "ytpphomoijlilfaa", sum := "5e78391cd2b9114f372db2e909525dec6830129bee8911286502277895bb109f", func := "lookout/lookoutlaw15.PeaksParts", spec := "peaksParts", inPlace := ["math.Float64bits", "math.Float64frombits"], unfollowed := true, recurses := true, plainKeys := false, apart := false, narrowed := true }
def PeaksPartsUptoSaid : Prop := peaksPartsUptoRow.holds Try.pinned (OpenSpec.upto peaksPartsSpec)

/-- 'lookoutlaw15.PeaksTops', WHERE WHAT IT READS IS OF BULK AT MOST 1048576: true; the input reads as it did. -/
def peaksTopsUptoRow : OpenClaim := { program := "ytpphomoijlilfaa", sum := "5e78391cd2b9114f372db2e909525dec6830129bee8911286502277895bb109f", func := "lookout/lookoutlaw15.PeaksTops", spec := "peaksTops", inPlace := ["math.Float64bits", "math.Float64frombits"], unfollowed := true, recurses := true, plainKeys := false, apart := false, narrowed := true }
def PeaksTopsUptoSaid : Prop := peaksTopsUptoRow.holds Try.pinned (OpenSpec.upto peaksTopsSpec)

/-- 'lookoutlaw15.PeaksWithin', WHERE WHAT IT READS IS OF BULK AT MOST 1048576: true; the input reads as it did. -/
def peaksWithinUptoRow : OpenClaim := { program := "ytpphomoijlilfaa", sum := "5e78391cd2b9114f372db2e909525dec6830129bee8911286502277895bb109f", func := "lookout/lookoutlaw15.PeaksWithin", spec := "peaksWithin", inPlace := ["math.Float64bits", "math.Float64frombits"], unfollowed := true, recurses := true, plainKeys := false, apart := false, narrowed := true }
def PeaksWithinUptoSaid : Prop := peaksWithinUptoRow.holds Try.pinned (OpenSpec.upto peaksWithinSpec)

/-- 'lookoutlaw15.PeaksTurned', WHERE WHAT IT READS IS OF BULK AT MOST 1048576: true; the input reads as it did. -/
def peaksTurnedUptoRow : OpenClaim := { program := "ytpphomoijlilfaa", sum := "5e78391cd2b9114f372db2e909525dec6830129bee8911286502277895bb109f", func := "lookout/lookoutlaw15.PeaksTurned", spec := "peaksTurned", inPlace := ["math.Float64bits", "math.Float64frombits"], unfollowed := true, recurses := true, plainKeys := false, apart := false, narrowed := true }
def PeaksTurnedUptoSaid : Prop := peaksTurnedUptoRow.holds Try.pinned (OpenSpec.upto peaksTurnedSpec)

/-- 'lookoutlaw15.PeaksKnown', WHERE WHAT IT READS IS OF BULK AT MOST 1048576: true; the input reads as it did. -/
def peaksKnownUptoRow : OpenClaim := { program := "ytpphomoijlilfaa", sum := "5e78391cd2b9114f372db2e909525dec6830129bee8911286502277895bb109f", func := "lookout/lookoutlaw15.PeaksKnown", spec := "peaksKnown", inPlace := ["math.Float64bits", "math.Float64frombits"], unfollowed := true, recurses := true, plainKeys := false, apart := false, narrowed := true }
def PeaksKnownUptoSaid : Prop := peaksKnownUptoRow.holds Try.pinned (OpenSpec.upto peaksKnownSpec)

end Rows
end Go.Proofs.Ytpphomoijlilfaa
