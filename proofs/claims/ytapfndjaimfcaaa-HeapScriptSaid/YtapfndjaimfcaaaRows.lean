/-
  No cell of these rows narrows 'for every input' (looked for: loops, veiled, ifaces, maps, wideKeys, modest, calm, conditions, laid).
  DERIVED. THE GIVEN ROWS OF THIS SEAT. 11 by the template 'for every input the law returns true; each argument reads behind the call as it read before'; 0 by the template 'total and deterministic' (their statements: YtapfndjaimfcaaaTotals.lean).
  GIVEN WITH THE SEED: the statements are not yours to turn. If you find one false, say at which input.
  Laid BY PROGRAM, IN A SANDBOX (cutbox-rows.mjs): the forced cells as the released guide's own fill.sh prints them over the translation 7b822f6635e74793… (all of the seat's roots in one cut). By AI agents, Wed Nov 11 2026. No macro, syntax, notation, axiom, sorry.
-/
import Derived.Test.YtapfndjaimfcaaaChecked
import GoSem.Claim
import GoSem.ClaimJoined
import GoSem.ClaimMapViews
import Derived.JoinedTies
import Derived.KernelRfl
namespace Go.Proofs.Ytapfndjaimfcaaa
/- THE CELL 'sum', in the pinned program and in every row, IS THE sha256 OF THE DUMP (.gsa) THAT YtapfndjaimfcaaaProg.lean LOADS. Nothing in Lean hashes anything: it is a label: what it is worth is what the hold of that sum in a sandbox is worth. -/
noncomputable def Try.pinned : Pinned := { name := "ytapfndjaimfcaaa", sum := "7b822f6635e747939b97af335afc11258556465a104567f23b4ca9813399e2c0", checked := Try.checked }
namespace Rows
def none {H : Type} : Left H := { results := [], args := [] }

/-- 'timetablelaw13.WalkNear': WHATEVER THE INPUT: true; the input reads as it did. -/
def walkNearSpec : ChangeSpec := { name := "walkNear", fn := fun _ => fun
  | [d1, d2, d3, d4] => { results := [.lit (.bool true)], args := [d1, d2, d3, d4] }
  | _ => none }
def walkNearRow : OpenClaim := { program := "ytapfndjaimfcaaa", sum := "7b822f6635e747939b97af335afc11258556465a104567f23b4ca9813399e2c0", func := "timetable/timetablelaw13.WalkNear", spec := "walkNear", unfollowed := true, recurses := true, apart := false }
def WalkNearSaid : Prop := walkNearRow.holds Try.pinned (OpenSpec.ofChange walkNearSpec)

/-- ITS FALSE NEIGHBOUR: 'it returns false'. Refute it at one input. -/
def walkNearWrong : ChangeSpec := { name := "walkNear", fn := fun _ => fun
  | [d1, d2, d3, d4] => { results := [.lit (.bool false)], args := [d1, d2, d3, d4] }
  | _ => none }
def WalkNearWrongFalsely : Prop := walkNearRow.holds Try.pinned (OpenSpec.ofChange walkNearWrong)

/-- 'timetablelaw13.WalkTimes': WHATEVER THE INPUT: true; the input reads as it did. -/
def walkTimesSpec : ChangeSpec := { name := "walkTimes", fn := fun _ => fun
  | [d1, d2, d3, d4, d5] => { results := [.lit (.bool true)], args := [d1, d2, d3, d4, d5] }
  | _ => none }
def walkTimesRow : OpenClaim := { program := "ytapfndjaimfcaaa", sum := "7b822f6635e747939b97af335afc11258556465a104567f23b4ca9813399e2c0", func := "timetable/timetablelaw13.WalkTimes", spec := "walkTimes", unfollowed := true, recurses := true, apart := false }
def WalkTimesSaid : Prop := walkTimesRow.holds Try.pinned (OpenSpec.ofChange walkTimesSpec)

/-- ITS FALSE NEIGHBOUR: 'it returns false'. Refute it at one input. -/
def walkTimesWrong : ChangeSpec := { name := "walkTimes", fn := fun _ => fun
  | [d1, d2, d3, d4, d5] => { results := [.lit (.bool false)], args := [d1, d2, d3, d4, d5] }
  | _ => none }
def WalkTimesWrongFalsely : Prop := walkTimesRow.holds Try.pinned (OpenSpec.ofChange walkTimesWrong)

/-- 'timetablelaw13.WalkNames': WHATEVER THE INPUT: true; the input reads as it did. -/
def walkNamesSpec : ChangeSpec := { name := "walkNames", fn := fun _ => fun
  | [] => { results := [.lit (.bool true)], args := [] }
  | _ => none }
def walkNamesRow : OpenClaim := { program := "ytapfndjaimfcaaa", sum := "7b822f6635e747939b97af335afc11258556465a104567f23b4ca9813399e2c0", func := "timetable/timetablelaw13.WalkNames", spec := "walkNames", unfollowed := true, recurses := true, apart := false }
def WalkNamesSaid : Prop := walkNamesRow.holds Try.pinned (OpenSpec.ofChange walkNamesSpec)

/-- ITS FALSE NEIGHBOUR: 'it returns false'. Refute it at one input. -/
def walkNamesWrong : ChangeSpec := { name := "walkNames", fn := fun _ => fun
  | [] => { results := [.lit (.bool false)], args := [] }
  | _ => none }
def WalkNamesWrongFalsely : Prop := walkNamesRow.holds Try.pinned (OpenSpec.ofChange walkNamesWrong)

/-- 'timetablelaw13.WalkCalls': WHATEVER THE INPUT: true; the input reads as it did. -/
def walkCallsSpec : ChangeSpec := { name := "walkCalls", fn := fun _ => fun
  | [d1, d2, d3, d4] => { results := [.lit (.bool true)], args := [d1, d2, d3, d4] }
  | _ => none }
def walkCallsRow : OpenClaim := { program := "ytapfndjaimfcaaa", sum := "7b822f6635e747939b97af335afc11258556465a104567f23b4ca9813399e2c0", func := "timetable/timetablelaw13.WalkCalls", spec := "walkCalls", unfollowed := true, recurses := true, apart := false }
def WalkCallsSaid : Prop := walkCallsRow.holds Try.pinned (OpenSpec.ofChange walkCallsSpec)

/-- ITS FALSE NEIGHBOUR: 'it returns false'. Refute it at one input. -/
def walkCallsWrong : ChangeSpec := { name := "walkCalls", fn := fun _ => fun
  | [d1, d2, d3, d4] => { results := [.lit (.bool false)], args := [d1, d2, d3, d4] }
  | _ => none }
def WalkCallsWrongFalsely : Prop := walkCallsRow.holds Try.pinned (OpenSpec.ofChange walkCallsWrong)

/-- 'timetablelaw13.WalkMore': WHATEVER THE INPUT: true; the input reads as it did. -/
def walkMoreSpec : ChangeSpec := { name := "walkMore", fn := fun _ => fun
  | [d1, d2, d3, d4] => { results := [.lit (.bool true)], args := [d1, d2, d3, d4] }
  | _ => none }
def walkMoreRow : OpenClaim := { program := "ytapfndjaimfcaaa", sum := "7b822f6635e747939b97af335afc11258556465a104567f23b4ca9813399e2c0", func := "timetable/timetablelaw13.WalkMore", spec := "walkMore", unfollowed := true, recurses := true, apart := false }
def WalkMoreSaid : Prop := walkMoreRow.holds Try.pinned (OpenSpec.ofChange walkMoreSpec)

/-- ITS FALSE NEIGHBOUR: 'it returns false'. Refute it at one input. -/
def walkMoreWrong : ChangeSpec := { name := "walkMore", fn := fun _ => fun
  | [d1, d2, d3, d4] => { results := [.lit (.bool false)], args := [d1, d2, d3, d4] }
  | _ => none }
def WalkMoreWrongFalsely : Prop := walkMoreRow.holds Try.pinned (OpenSpec.ofChange walkMoreWrong)

/-- 'timetablelaw13.WalkTriangle': WHATEVER THE INPUT: true; the input reads as it did. -/
def walkTriangleSpec : ChangeSpec := { name := "walkTriangle", fn := fun _ => fun
  | [d1, d2] => { results := [.lit (.bool true)], args := [d1, d2] }
  | _ => none }
def walkTriangleRow : OpenClaim := { program := "ytapfndjaimfcaaa", sum := "7b822f6635e747939b97af335afc11258556465a104567f23b4ca9813399e2c0", func := "timetable/timetablelaw13.WalkTriangle", spec := "walkTriangle", unfollowed := true, recurses := true, apart := false }
def WalkTriangleSaid : Prop := walkTriangleRow.holds Try.pinned (OpenSpec.ofChange walkTriangleSpec)

/-- ITS FALSE NEIGHBOUR: 'it returns false'. Refute it at one input. -/
def walkTriangleWrong : ChangeSpec := { name := "walkTriangle", fn := fun _ => fun
  | [d1, d2] => { results := [.lit (.bool false)], args := [d1, d2] }
  | _ => none }
def WalkTriangleWrongFalsely : Prop := walkTriangleRow.holds Try.pinned (OpenSpec.ofChange walkTriangleWrong)

/-- 'timetablelaw12.HeapOrder': WHATEVER THE INPUT: true; the input reads as it did. -/
def heapOrderSpec : ChangeSpec := { name := "heapOrder", fn := fun _ => fun
  | [d1, d2] => { results := [.lit (.bool true)], args := [d1, d2] }
  | _ => none }
def heapOrderRow : OpenClaim := { program := "ytapfndjaimfcaaa", sum := "7b822f6635e747939b97af335afc11258556465a104567f23b4ca9813399e2c0", func := "timetable/timetablelaw12.HeapOrder", spec := "heapOrder", unfollowed := true, recurses := true, apart := false }
def HeapOrderSaid : Prop := heapOrderRow.holds Try.pinned (OpenSpec.ofChange heapOrderSpec)

/-- ITS FALSE NEIGHBOUR: 'it returns false'. Refute it at one input. -/
def heapOrderWrong : ChangeSpec := { name := "heapOrder", fn := fun _ => fun
  | [d1, d2] => { results := [.lit (.bool false)], args := [d1, d2] }
  | _ => none }
def HeapOrderWrongFalsely : Prop := heapOrderRow.holds Try.pinned (OpenSpec.ofChange heapOrderWrong)

/-- 'timetablelaw12.HeapNames': WHATEVER THE INPUT: true; the input reads as it did. -/
def heapNamesSpec : ChangeSpec := { name := "heapNames", fn := fun _ => fun
  | [] => { results := [.lit (.bool true)], args := [] }
  | _ => none }
def heapNamesRow : OpenClaim := { program := "ytapfndjaimfcaaa", sum := "7b822f6635e747939b97af335afc11258556465a104567f23b4ca9813399e2c0", func := "timetable/timetablelaw12.HeapNames", spec := "heapNames", unfollowed := true, recurses := true, apart := false }
def HeapNamesSaid : Prop := heapNamesRow.holds Try.pinned (OpenSpec.ofChange heapNamesSpec)

/-- ITS FALSE NEIGHBOUR: 'it returns false'. Refute it at one input. -/
def heapNamesWrong : ChangeSpec := { name := "heapNames", fn := fun _ => fun
  | [] => { results := [.lit (.bool false)], args := [] }
  | _ => none }
def HeapNamesWrongFalsely : Prop := heapNamesRow.holds Try.pinned (OpenSpec.ofChange heapNamesWrong)

/-- 'timetablelaw12.HeapScript': WHATEVER THE INPUT: true; the input reads as it did. -/
def heapScriptSpec : ChangeSpec := { name := "heapScript", fn := fun _ => fun
  | [d] => { results := [.lit (.bool true)], args := [d] }
  | _ => none }
def heapScriptRow : OpenClaim := { program := "ytapfndjaimfcaaa", sum := "7b822f6635e747939b97af335afc11258556465a104567f23b4ca9813399e2c0", func := "timetable/timetablelaw12.HeapScript", spec := "heapScript", unfollowed := true, recurses := true, apart := false }
def HeapScriptSaid : Prop := heapScriptRow.holds Try.pinned (OpenSpec.ofChange heapScriptSpec)

/-- ITS FALSE NEIGHBOUR: 'it returns false'. Refute it at one input. -/
def heapScriptWrong : ChangeSpec := { name := "heapScript", fn := fun _ => fun
  | [d] => { results := [.lit (.bool false)], args := [d] }
  | _ => none }
def HeapScriptWrongFalsely : Prop := heapScriptRow.holds Try.pinned (OpenSpec.ofChange heapScriptWrong)

/-- 'timetablelaw12.HeapNil': WHATEVER THE INPUT: true; the input reads as it did. -/
def heapNilSpec : ChangeSpec := { name := "heapNil", fn := fun _ => fun
  | [d] => { results := [.lit (.bool true)], args := [d] }
  | _ => none }
def heapNilRow : OpenClaim := { program := "ytapfndjaimfcaaa", sum := "7b822f6635e747939b97af335afc11258556465a104567f23b4ca9813399e2c0", func := "timetable/timetablelaw12.HeapNil", spec := "heapNil", unfollowed := true, recurses := true, apart := false }
def HeapNilSaid : Prop := heapNilRow.holds Try.pinned (OpenSpec.ofChange heapNilSpec)

/-- ITS FALSE NEIGHBOUR: 'it returns false'. Refute it at one input. -/
def heapNilWrong : ChangeSpec := { name := "heapNil", fn := fun _ => fun
  | [d] => { results := [.lit (.bool false)], args := [d] }
  | _ => none }
def HeapNilWrongFalsely : Prop := heapNilRow.holds Try.pinned (OpenSpec.ofChange heapNilWrong)

/-- 'timetablelaw12.HeapSorts': WHATEVER THE INPUT: true; the input reads as it did. -/
def heapSortsSpec : ChangeSpec := { name := "heapSorts", fn := fun _ => fun
  | [d1, d2, d3] => { results := [.lit (.bool true)], args := [d1, d2, d3] }
  | _ => none }
def heapSortsRow : OpenClaim := { program := "ytapfndjaimfcaaa", sum := "7b822f6635e747939b97af335afc11258556465a104567f23b4ca9813399e2c0", func := "timetable/timetablelaw12.HeapSorts", spec := "heapSorts", unfollowed := true, recurses := true, apart := false }
def HeapSortsSaid : Prop := heapSortsRow.holds Try.pinned (OpenSpec.ofChange heapSortsSpec)

/-- ITS FALSE NEIGHBOUR: 'it returns false'. Refute it at one input. -/
def heapSortsWrong : ChangeSpec := { name := "heapSorts", fn := fun _ => fun
  | [d1, d2, d3] => { results := [.lit (.bool false)], args := [d1, d2, d3] }
  | _ => none }
def HeapSortsWrongFalsely : Prop := heapSortsRow.holds Try.pinned (OpenSpec.ofChange heapSortsWrong)

/- THE SECOND FORM. 'bulk': how many values and letters a reading holds, each counted each time it is reached (what is shared counts as often as it is met; a slice's spare places count too). A statement '..UptoSaid' is the law's where the arguments, and the package variables that the reading takes, are together of bulk at most 1048576: NARROWER than '..Said'. Prove '..Said' where nothing that the law and all that it calls make is longer than what came in: it says more and counts as full. Else prove '..UptoSaid'. A law counts once. -/
mutual
def uptoBulk {H : Type} : DataW H → Nat
  | .lit (.string bytes) => bytes.length + 1
  | .lit _ => 1
  | .nil => 1
  | .ptr d => uptoBulk d + 1
  | .slice elems spare => uptoBulkAll elems + uptoBulkAll spare + 1
  | .agg parts => uptoBulkAll parts + 1
  | .iface _ d => uptoBulk d + 1
  | .map entries => uptoBulkEntries entries + 1
  | .held _ => 1
def uptoBulkAll {H : Type} : List (DataW H) → Nat
  | [] => 0
  | d :: r => uptoBulk d + uptoBulkAll r
def uptoBulkEntries {H : Type} : List (Lit × DataW H) → Nat
  | [] => 0
  | x :: r => uptoBulkEntry x + uptoBulkEntries r
def uptoBulkEntry {H : Type} : Lit × DataW H → Nat
  | (.string bytes, d) => bytes.length + uptoBulk d + 1
  | (_, d) => uptoBulk d + 1
 end
def uptoSmall : (H : Type) → List (DataW H) → Bool := fun _ ds => decide (uptoBulkAll ds ≤ 1048576)
def OpenSpec.upto (s : _root_.Go.ChangeSpec) : _root_.Go.OpenSpec := { _root_.Go.OpenSpec.ofChange s with cond := some uptoSmall }

/-- 'timetablelaw13.WalkNear', WHERE WHAT IT READS IS OF BULK AT MOST 1048576: true; the input reads as it did. -/
def walkNearUptoRow : OpenClaim := { program := "ytapfndjaimfcaaa", sum := "7b822f6635e747939b97af335afc11258556465a104567f23b4ca9813399e2c0", func := "timetable/timetablelaw13.WalkNear", spec := "walkNear", unfollowed := true, recurses := true, apart := false, narrowed := true }
def WalkNearUptoSaid : Prop := walkNearUptoRow.holds Try.pinned (OpenSpec.upto walkNearSpec)

/-- 'timetablelaw13.WalkTimes', WHERE WHAT IT READS IS OF BULK AT MOST 1048576: true; the input reads as it did. -/
def walkTimesUptoRow : OpenClaim := { program := "ytapfndjaimfcaaa", sum := "7b822f6635e747939b97af335afc11258556465a104567f23b4ca9813399e2c0", func := "timetable/timetablelaw13.WalkTimes", spec := "walkTimes", unfollowed := true, recurses := true, apart := false, narrowed := true }
def WalkTimesUptoSaid : Prop := walkTimesUptoRow.holds Try.pinned (OpenSpec.upto walkTimesSpec)

/-- 'timetablelaw13.WalkNames', WHERE WHAT IT READS IS OF BULK AT MOST 1048576: true; the input reads as it did. -/
def walkNamesUptoRow : OpenClaim := { program := "ytapfndjaimfcaaa", sum := "7b822f6635e747939b97af335afc11258556465a104567f23b4ca9813399e2c0", func := "timetable/timetablelaw13.WalkNames", spec := "walkNames", unfollowed := true, recurses := true, apart := false, narrowed := true }
def WalkNamesUptoSaid : Prop := walkNamesUptoRow.holds Try.pinned (OpenSpec.upto walkNamesSpec)

/-- 'timetablelaw13.WalkCalls', WHERE WHAT IT READS IS OF BULK AT MOST 1048576: true; the input reads as it did. -/
def walkCallsUptoRow : OpenClaim := { program := "ytapfndjaimfcaaa", sum := "7b822f6635e747939b97af335afc11258556465a104567f23b4ca9813399e2c0", func := "timetable/timetablelaw13.WalkCalls", spec := "walkCalls", unfollowed := true, recurses := true, apart := false, narrowed := true }
def WalkCallsUptoSaid : Prop := walkCallsUptoRow.holds Try.pinned (OpenSpec.upto walkCallsSpec)

/-- 'timetablelaw13.WalkMore', WHERE WHAT IT READS IS OF BULK AT MOST 1048576: true; the input reads as it did. -/
def walkMoreUptoRow : OpenClaim := { program := "ytapfndjaimfcaaa", sum := "7b822f6635e747939b97af335afc11258556465a104567f23b4ca9813399e2c0", func := "timetable/timetablelaw13.WalkMore", spec := "walkMore", unfollowed := true, recurses := true, apart := false, narrowed := true }
def WalkMoreUptoSaid : Prop := walkMoreUptoRow.holds Try.pinned (OpenSpec.upto walkMoreSpec)

/-- 'timetablelaw13.WalkTriangle', WHERE WHAT IT READS IS OF BULK AT MOST 1048576: true; the input reads as it did. -/
def walkTriangleUptoRow : OpenClaim := { program := "ytapfndjaimfcaaa", sum := "7b822f6635e747939b97af335afc11258556465a104567f23b4ca9813399e2c0", func := "timetable/timetablelaw13.WalkTriangle", spec := "walkTriangle", unfollowed := true, recurses := true, apart := false, narrowed := true }
def WalkTriangleUptoSaid : Prop := walkTriangleUptoRow.holds Try.pinned (OpenSpec.upto walkTriangleSpec)

/-- 'timetablelaw12.HeapOrder', WHERE WHAT IT READS IS OF BULK AT MOST 1048576: true; the input reads as it did. -/
def heapOrderUptoRow : OpenClaim := { program := "ytapfndjaimfcaaa", sum := "7b822f6635e747939b97af335afc11258556465a104567f23b4ca9813399e2c0", func := "timetable/timetablelaw12.HeapOrder", spec := "heapOrder", unfollowed := true, recurses := true, apart := false, narrowed := true }
def HeapOrderUptoSaid : Prop := heapOrderUptoRow.holds Try.pinned (OpenSpec.upto heapOrderSpec)

/-- 'timetablelaw12.HeapNames', WHERE WHAT IT READS IS OF BULK AT MOST 1048576: true; the input reads as it did. -/
def heapNamesUptoRow : OpenClaim := { program := "ytapfndjaimfcaaa", sum := "7b822f6635e747939b97af335afc11258556465a104567f23b4ca9813399e2c0", func := "timetable/timetablelaw12.HeapNames", spec := "heapNames", unfollowed := true, recurses := true, apart := false, narrowed := true }
def HeapNamesUptoSaid : Prop := heapNamesUptoRow.holds Try.pinned (OpenSpec.upto heapNamesSpec)

/-- 'timetablelaw12.HeapScript', WHERE WHAT IT READS IS OF BULK AT MOST 1048576: true; the input reads as it did. -/
def heapScriptUptoRow : OpenClaim := { program := "ytapfndjaimfcaaa", sum := "7b822f6635e747939b97af335afc11258556465a104567f23b4ca9813399e2c0", func := "timetable/timetablelaw12.HeapScript", spec := "heapScript", unfollowed := true, recurses := true, apart := false, narrowed := true }
def HeapScriptUptoSaid : Prop := heapScriptUptoRow.holds Try.pinned (OpenSpec.upto heapScriptSpec)

/-- 'timetablelaw12.HeapNil', WHERE WHAT IT READS IS OF BULK AT MOST 1048576: true; the input reads as it did. -/
def heapNilUptoRow : OpenClaim := { program := "ytapfndjaimfcaaa", sum := "7b822f6635e747939b97af335afc11258556465a104567f23b4ca9813399e2c0", func := "timetable/timetablelaw12.HeapNil", spec := "heapNil", unfollowed := true, recurses := true, apart := false, narrowed := true }
def HeapNilUptoSaid : Prop := heapNilUptoRow.holds Try.pinned (OpenSpec.upto heapNilSpec)

/-- 'timetablelaw12.HeapSorts', WHERE WHAT IT READS IS OF BULK AT MOST 1048576: true; the input reads as it did. -/
def heapSortsUptoRow : OpenClaim := { program := "ytapfndjaimfcaaa", sum := "7b822f6635e747939b97af335afc11258556465a104567f23b4ca9813399e2c0", func := "timetable/timetablelaw12.HeapSorts", spec := "heapSorts", unfollowed := true, recurses := true, apart := false, narrowed := true }
def HeapSortsUptoSaid : Prop := heapSortsUptoRow.holds Try.pinned (OpenSpec.upto heapSortsSpec)

end Rows
end Go.Proofs.Ytapfndjaimfcaaa
