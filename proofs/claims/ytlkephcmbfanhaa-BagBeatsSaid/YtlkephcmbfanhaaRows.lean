/-
  No cell of these rows narrows 'for every input' (looked for: loops, veiled, ifaces, maps, wideKeys, modest, calm, conditions, laid).
  DERIVED. THE GIVEN ROWS OF THIS SEAT. 5 by the template 'for every input the law returns true; each argument reads behind the call as it read before'; 0 by the template 'total and deterministic' (their statements: YtlkephcmbfanhaaTotals.lean).
  GIVEN WITH THE SEED: the statements are not yours to turn. If you find one false, say at which input.
  Laid BY PROGRAM, IN A SANDBOX (cutbox-rows.mjs): the forced cells as the released guide's own fill.sh prints them over the translation 9194228131b9fc48… (all of the seat's roots in one cut). By AI agents, Wed Nov 11 2026. No macro, syntax, notation, axiom, sorry.
-/
import Derived.Test.YtlkephcmbfanhaaChecked
import GoSem.Claim
import GoSem.ClaimJoined
import GoSem.ClaimMapViews
import Derived.JoinedTies
import Derived.KernelRfl
namespace Go.Proofs.Ytlkephcmbfanhaa
/- THE CELL 'sum', in the pinned program and in every row, IS THE sha256 OF THE DUMP (.gsa) THAT YtlkephcmbfanhaaProg.lean LOADS. Nothing in Lean hashes anything: it is a label: what it is worth is what the hold of that sum in a sandbox is worth. -/
noncomputable def Try.pinned : Pinned := { name := "ytlkephcmbfanhaa", sum := "9194228131b9fc484a80bf3003489143ba173e0b381aed042553fcedd7011a21", checked := Try.checked }
namespace Rows
def none {H : Type} : Left H := { results := [], args := [] }

/-- 'timetablelaw22.BagBeats': WHATEVER THE INPUT: true; the input reads as it did. -/
def bagBeatsSpec : ChangeSpec := { name := "bagBeats", fn := fun _ => fun
  | [d1, d2, d3] => { results := [.lit (.bool true)], args := [d1, d2, d3] }
  | _ => none }
def bagBeatsRow : OpenClaim := { program := "ytlkephcmbfanhaa", sum := "9194228131b9fc484a80bf3003489143ba173e0b381aed042553fcedd7011a21", func := "timetable/timetablelaw22.BagBeats", spec := "bagBeats", unfollowed := true, recurses := true, apart := false }
def BagBeatsSaid : Prop := bagBeatsRow.holds Try.pinned (OpenSpec.ofChange bagBeatsSpec)

/-- ITS FALSE NEIGHBOUR: 'it returns false'. Refute it at one input. -/
def bagBeatsWrong : ChangeSpec := { name := "bagBeats", fn := fun _ => fun
  | [d1, d2, d3] => { results := [.lit (.bool false)], args := [d1, d2, d3] }
  | _ => none }
def BagBeatsWrongFalsely : Prop := bagBeatsRow.holds Try.pinned (OpenSpec.ofChange bagBeatsWrong)

/-- 'timetablelaw22.BagLeast': WHATEVER THE INPUT: true; the input reads as it did. -/
def bagLeastSpec : ChangeSpec := { name := "bagLeast", fn := fun _ => fun
  | [d1, d2] => { results := [.lit (.bool true)], args := [d1, d2] }
  | _ => none }
def bagLeastRow : OpenClaim := { program := "ytlkephcmbfanhaa", sum := "9194228131b9fc484a80bf3003489143ba173e0b381aed042553fcedd7011a21", func := "timetable/timetablelaw22.BagLeast", spec := "bagLeast", unfollowed := true, recurses := true, apart := false }
def BagLeastSaid : Prop := bagLeastRow.holds Try.pinned (OpenSpec.ofChange bagLeastSpec)

/-- ITS FALSE NEIGHBOUR: 'it returns false'. Refute it at one input. -/
def bagLeastWrong : ChangeSpec := { name := "bagLeast", fn := fun _ => fun
  | [d1, d2] => { results := [.lit (.bool false)], args := [d1, d2] }
  | _ => none }
def BagLeastWrongFalsely : Prop := bagLeastRow.holds Try.pinned (OpenSpec.ofChange bagLeastWrong)

/-- 'timetablelaw22.BagParts': WHATEVER THE INPUT: true; the input reads as it did. -/
def bagPartsSpec : ChangeSpec := { name := "bagParts", fn := fun _ => fun
  | [d1, d2, d3] => { results := [.lit (.bool true)], args := [d1, d2, d3] }
  | _ => none }
def bagPartsRow : OpenClaim := { program := "ytlkephcmbfanhaa", sum := "9194228131b9fc484a80bf3003489143ba173e0b381aed042553fcedd7011a21", func := "timetable/timetablelaw22.BagParts", spec := "bagParts", unfollowed := true, recurses := true, apart := false }
def BagPartsSaid : Prop := bagPartsRow.holds Try.pinned (OpenSpec.ofChange bagPartsSpec)

/-- ITS FALSE NEIGHBOUR: 'it returns false'. Refute it at one input. -/
def bagPartsWrong : ChangeSpec := { name := "bagParts", fn := fun _ => fun
  | [d1, d2, d3] => { results := [.lit (.bool false)], args := [d1, d2, d3] }
  | _ => none }
def BagPartsWrongFalsely : Prop := bagPartsRow.holds Try.pinned (OpenSpec.ofChange bagPartsWrong)

/-- 'timetablelaw22.BagPairs': WHATEVER THE INPUT: true; the input reads as it did. -/
def bagPairsSpec : ChangeSpec := { name := "bagPairs", fn := fun _ => fun
  | [d1, d2, d3] => { results := [.lit (.bool true)], args := [d1, d2, d3] }
  | _ => none }
def bagPairsRow : OpenClaim := { program := "ytlkephcmbfanhaa", sum := "9194228131b9fc484a80bf3003489143ba173e0b381aed042553fcedd7011a21", func := "timetable/timetablelaw22.BagPairs", spec := "bagPairs", unfollowed := true, recurses := true, apart := false }
def BagPairsSaid : Prop := bagPairsRow.holds Try.pinned (OpenSpec.ofChange bagPairsSpec)

/-- ITS FALSE NEIGHBOUR: 'it returns false'. Refute it at one input. -/
def bagPairsWrong : ChangeSpec := { name := "bagPairs", fn := fun _ => fun
  | [d1, d2, d3] => { results := [.lit (.bool false)], args := [d1, d2, d3] }
  | _ => none }
def BagPairsWrongFalsely : Prop := bagPairsRow.holds Try.pinned (OpenSpec.ofChange bagPairsWrong)

/-- 'timetablelaw22.BagNames': WHATEVER THE INPUT: true; the input reads as it did. -/
def bagNamesSpec : ChangeSpec := { name := "bagNames", fn := fun _ => fun
  | [] => { results := [.lit (.bool true)], args := [] }
  | _ => none }
def bagNamesRow : OpenClaim := { program := "ytlkephcmbfanhaa", sum := "9194228131b9fc484a80bf3003489143ba173e0b381aed042553fcedd7011a21", func := "timetable/timetablelaw22.BagNames", spec := "bagNames", unfollowed := true, recurses := true, apart := false }
def BagNamesSaid : Prop := bagNamesRow.holds Try.pinned (OpenSpec.ofChange bagNamesSpec)

/-- ITS FALSE NEIGHBOUR: 'it returns false'. Refute it at one input. -/
def bagNamesWrong : ChangeSpec := { name := "bagNames", fn := fun _ => fun
  | [] => { results := [.lit (.bool false)], args := [] }
  | _ => none }
def BagNamesWrongFalsely : Prop := bagNamesRow.holds Try.pinned (OpenSpec.ofChange bagNamesWrong)

/- THE SECOND FORM. 'bulk': how many values and letters a reading holds, each counted each time it is reached (what is shared counts as often as it is met; a slice's spare places count too). A statement '..UptoSaid' is the law's where the arguments, and the package variables that the reading takes, are together of bulk at most 1048576: NARROWER than '..Said'. Prove '..Said' where nothing that the law and all that it calls make is longer than what came in: it says more and counts as full. Else prove '..UptoSaid'. A law counts once. -/
mutual
def uptoBulk {H : Type} : DataW H → Nat
  | .lit (.string bytes) => bytes.length + 1
  | .lit _ => 1
  | .nil => 1
  | .ptr d => uptoBulk d + 1
  | .slice elems spare => uptoBulkAll elems + uptoBulkAll spare + 1
  | .agg parts => uptoBulkAll parts + 1
  | .iface _ d => uptoBulk d + 1
  | .map entries => uptoBulkEntries entries + 1
  | .held _ => 1
def uptoBulkAll {H : Type} : List (DataW H) → Nat
  | [] => 0
  | d :: r => uptoBulk d + uptoBulkAll r
def uptoBulkEntries {H : Type} : List (Lit × DataW H) → Nat
  | [] => 0
  | x :: r => uptoBulkEntry x + uptoBulkEntries r
def uptoBulkEntry {H : Type} : Lit × DataW H → Nat
  | (.string bytes, d) => bytes.length + uptoBulk d + 1
  | (_, d) => uptoBulk d + 1
 end
def uptoSmall : (H : Type) → List (DataW H) → Bool := fun _ ds => decide (uptoBulkAll ds ≤ 1048576)
def OpenSpec.upto (s : _root_.Go.ChangeSpec) : _root_.Go.OpenSpec := { _root_.Go.OpenSpec.ofChange s with cond := some uptoSmall }

/-- 'timetablelaw22.BagBeats', WHERE WHAT IT READS IS OF BULK AT MOST 1048576: true; the input reads as it did. -/
def bagBeatsUptoRow : OpenClaim := { program := "ytlkephcmbfanhaa", sum := "9194228131b9fc484a80bf3003489143ba173e0b381aed042553fcedd7011a21", func := "timetable/timetablelaw22.BagBeats", spec := "bagBeats", unfollowed := true, recurses := true, apart := false, narrowed := true }
def BagBeatsUptoSaid : Prop := bagBeatsUptoRow.holds Try.pinned (OpenSpec.upto bagBeatsSpec)

/-- 'timetablelaw22.BagLeast', WHERE WHAT IT READS IS OF BULK AT MOST 1048576: true; the input reads as it did. -/
def bagLeastUptoRow : OpenClaim := { program := "ytlkephcmbfanhaa", sum := "9194228131b9fc484a80bf3003489143ba173e0b381aed042553fcedd7011a21", func := "timetable/timetablelaw22.BagLeast", spec := "bagLeast", unfollowed := true, recurses := true, apart := false, narrowed := true }
def BagLeastUptoSaid : Prop := bagLeastUptoRow.holds Try.pinned (OpenSpec.upto bagLeastSpec)

/-- 'timetablelaw22.BagParts', WHERE WHAT IT READS IS OF BULK AT MOST 1048576: true; the input reads as it did. -/
def bagPartsUptoRow : OpenClaim := { program := "ytlkephcmbfanhaa", sum := "9194228131b9fc484a80bf3003489143ba173e0b381aed042553fcedd7011a21", func := "timetable/timetablelaw22.BagParts", spec := "bagParts", unfollowed := true, recurses := true, apart := false, narrowed := true }
def BagPartsUptoSaid : Prop := bagPartsUptoRow.holds Try.pinned (OpenSpec.upto bagPartsSpec)

/-- 'timetablelaw22.BagPairs', WHERE WHAT IT READS IS OF BULK AT MOST 1048576: true; the input reads as it did. -/
def bagPairsUptoRow : OpenClaim := { program := "ytlkephcmbfanhaa", sum := "9194228131b9fc484a80bf3003489143ba173e0b381aed042553fcedd7011a21", func := "timetable/timetablelaw22.BagPairs", spec := "bagPairs", unfollowed := true, recurses := true, apart := false, narrowed := true }
def BagPairsUptoSaid : Prop := bagPairsUptoRow.holds Try.pinned (OpenSpec.upto bagPairsSpec)

/-- 'timetablelaw22.BagNames', WHERE WHAT IT READS IS OF BULK AT MOST 1048576: true; the input reads as it did. -/
def bagNamesUptoRow : OpenClaim := { program := "ytlkephcmbfanhaa", sum := "9194228131b9fc484a80bf3003489143ba173e0b381aed042553fcedd7011a21", func := "timetable/timetablelaw22.BagNames", spec := "bagNames", unfollowed := true, recurses := true, apart := false, narrowed := true }
def BagNamesUptoSaid : Prop := bagNamesUptoRow.holds Try.pinned (OpenSpec.upto bagNamesSpec)

end Rows
end Go.Proofs.Ytlkephcmbfanhaa
