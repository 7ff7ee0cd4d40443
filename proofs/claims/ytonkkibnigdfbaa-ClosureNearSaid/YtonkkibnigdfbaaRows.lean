/-
  No cell of these rows narrows 'for every input' (looked for: loops, veiled, ifaces, maps, wideKeys, modest, calm, conditions, laid).
  DERIVED. THE GIVEN ROWS OF THIS SEAT. 13 by the template 'for every input the law returns true; each argument reads behind the call as it read before'; 0 by the template 'total and deterministic' (their statements: YtonkkibnigdfbaaTotals.lean).
  GIVEN WITH THE SEED: the statements are not yours to turn. If you find one false, say at which input.
  Laid BY PROGRAM, IN A SANDBOX (cutbox-rows.mjs): the forced cells as the released guide's own fill.sh prints them over the translation 729e8e16642aa2fa… (all of the seat's roots in one cut). By AI agents, Wed Nov 11 2026. No macro, syntax, notation, axiom, sorry.
-/
import Derived.Test.YtonkkibnigdfbaaChecked
import GoSem.Claim
import GoSem.ClaimJoined
import GoSem.ClaimMapViews
import Derived.JoinedTies
import Derived.KernelRfl
namespace Go.Proofs.Ytonkkibnigdfbaa
/- THE CELL 'sum', in the pinned program and in every row, IS THE sha256 OF THE DUMP (.gsa) THAT YtonkkibnigdfbaaProg.lean LOADS. Nothing in Lean hashes anything: it is a label: what it is worth is what the hold of that sum in a sandbox is worth. -/
noncomputable def Try.pinned : Pinned := { name := "ytonkkibnigdfbaa", sum := "729e8e16642aa2fa6dd73b9b927d4d26cff26cb0c2763e049271eec8fc740f64", checked := Try.checked }
namespace Rows
def none {H : Type} : Left H := { results := [], args := [] }

/-- 'timetablelaw15.SpreadPlain': WHATEVER THE INPUT: true; the input reads as it did. -/
def spreadPlainSpec : ChangeSpec := { name := "spreadPlain", fn := fun _ => fun
  | [d1, d2, d3] => { results := [.lit (.bool true)], args := [d1, d2, d3] }
  | _ => none }
def spreadPlainRow : OpenClaim := { program := "ytonkkibnigdfbaa", sum := "729e8e16642aa2fa6dd73b9b927d4d26cff26cb0c2763e049271eec8fc740f64", func := "timetable/timetablelaw15.SpreadPlain", spec := "spreadPlain", unfollowed := true, recurses := true, plainKeys := false, apart := false }
def SpreadPlainSaid : Prop := spreadPlainRow.holds Try.pinned (OpenSpec.ofChange spreadPlainSpec)

/-- ITS FALSE NEIGHBOUR: 'it returns false'. Refute it at one input. -/
def spreadPlainWrong : ChangeSpec := { name := "spreadPlain", fn := fun _ => fun
  | [d1, d2, d3] => { results := [.lit (.bool false)], args := [d1, d2, d3] }
  | _ => none }
def SpreadPlainWrongFalsely : Prop := spreadPlainRow.holds Try.pinned (OpenSpec.ofChange spreadPlainWrong)

/-- 'timetablelaw15.SpreadLater': WHATEVER THE INPUT: true; the input reads as it did. -/
def spreadLaterSpec : ChangeSpec := { name := "spreadLater", fn := fun _ => fun
  | [d1, d2, d3] => { results := [.lit (.bool true)], args := [d1, d2, d3] }
  | _ => none }
def spreadLaterRow : OpenClaim := { program := "ytonkkibnigdfbaa", sum := "729e8e16642aa2fa6dd73b9b927d4d26cff26cb0c2763e049271eec8fc740f64", func := "timetable/timetablelaw15.SpreadLater", spec := "spreadLater", unfollowed := true, recurses := true, plainKeys := false, apart := false }
def SpreadLaterSaid : Prop := spreadLaterRow.holds Try.pinned (OpenSpec.ofChange spreadLaterSpec)

/-- ITS FALSE NEIGHBOUR: 'it returns false'. Refute it at one input. -/
def spreadLaterWrong : ChangeSpec := { name := "spreadLater", fn := fun _ => fun
  | [d1, d2, d3] => { results := [.lit (.bool false)], args := [d1, d2, d3] }
  | _ => none }
def SpreadLaterWrongFalsely : Prop := spreadLaterRow.holds Try.pinned (OpenSpec.ofChange spreadLaterWrong)

/-- 'timetablelaw15.SpreadMore': WHATEVER THE INPUT: true; the input reads as it did. -/
def spreadMoreSpec : ChangeSpec := { name := "spreadMore", fn := fun _ => fun
  | [d1, d2, d3, d4, d5, d6] => { results := [.lit (.bool true)], args := [d1, d2, d3, d4, d5, d6] }
  | _ => none }
def spreadMoreRow : OpenClaim := { program := "ytonkkibnigdfbaa", sum := "729e8e16642aa2fa6dd73b9b927d4d26cff26cb0c2763e049271eec8fc740f64", func := "timetable/timetablelaw15.SpreadMore", spec := "spreadMore", unfollowed := true, recurses := true, plainKeys := false, apart := false }
def SpreadMoreSaid : Prop := spreadMoreRow.holds Try.pinned (OpenSpec.ofChange spreadMoreSpec)

/-- ITS FALSE NEIGHBOUR: 'it returns false'. Refute it at one input. -/
def spreadMoreWrong : ChangeSpec := { name := "spreadMore", fn := fun _ => fun
  | [d1, d2, d3, d4, d5, d6] => { results := [.lit (.bool false)], args := [d1, d2, d3, d4, d5, d6] }
  | _ => none }
def SpreadMoreWrongFalsely : Prop := spreadMoreRow.holds Try.pinned (OpenSpec.ofChange spreadMoreWrong)

/-- 'timetablelaw15.SpreadAgain': WHATEVER THE INPUT: true; the input reads as it did. -/
def spreadAgainSpec : ChangeSpec := { name := "spreadAgain", fn := fun _ => fun
  | [d1, d2, d3] => { results := [.lit (.bool true)], args := [d1, d2, d3] }
  | _ => none }
def spreadAgainRow : OpenClaim := { program := "ytonkkibnigdfbaa", sum := "729e8e16642aa2fa6dd73b9b927d4d26cff26cb0c2763e049271eec8fc740f64", func := "timetable/timetablelaw15.SpreadAgain", spec := "spreadAgain", unfollowed := true, recurses := true, plainKeys := false, apart := false }
def SpreadAgainSaid : Prop := spreadAgainRow.holds Try.pinned (OpenSpec.ofChange spreadAgainSpec)

/-- ITS FALSE NEIGHBOUR: 'it returns false'. Refute it at one input. -/
def spreadAgainWrong : ChangeSpec := { name := "spreadAgain", fn := fun _ => fun
  | [d1, d2, d3] => { results := [.lit (.bool false)], args := [d1, d2, d3] }
  | _ => none }
def SpreadAgainWrongFalsely : Prop := spreadAgainRow.holds Try.pinned (OpenSpec.ofChange spreadAgainWrong)

/-- 'timetablelaw15.SpreadStill': WHATEVER THE INPUT: true; the input reads as it did. -/
def spreadStillSpec : ChangeSpec := { name := "spreadStill", fn := fun _ => fun
  | [d1, d2] => { results := [.lit (.bool true)], args := [d1, d2] }
  | _ => none }
def spreadStillRow : OpenClaim := { program := "ytonkkibnigdfbaa", sum := "729e8e16642aa2fa6dd73b9b927d4d26cff26cb0c2763e049271eec8fc740f64", func := "timetable/timetablelaw15.SpreadStill", spec := "spreadStill", unfollowed := true, recurses := true, plainKeys := false, apart := false }
def SpreadStillSaid : Prop := spreadStillRow.holds Try.pinned (OpenSpec.ofChange spreadStillSpec)

/-- ITS FALSE NEIGHBOUR: 'it returns false'. Refute it at one input. -/
def spreadStillWrong : ChangeSpec := { name := "spreadStill", fn := fun _ => fun
  | [d1, d2] => { results := [.lit (.bool false)], args := [d1, d2] }
  | _ => none }
def SpreadStillWrongFalsely : Prop := spreadStillRow.holds Try.pinned (OpenSpec.ofChange spreadStillWrong)

/-- 'timetablelaw15.SpreadTrails': WHATEVER THE INPUT: true; the input reads as it did. -/
def spreadTrailsSpec : ChangeSpec := { name := "spreadTrails", fn := fun _ => fun
  | [d1, d2, d3] => { results := [.lit (.bool true)], args := [d1, d2, d3] }
  | _ => none }
def spreadTrailsRow : OpenClaim := { program := "ytonkkibnigdfbaa", sum := "729e8e16642aa2fa6dd73b9b927d4d26cff26cb0c2763e049271eec8fc740f64", func := "timetable/timetablelaw15.SpreadTrails", spec := "spreadTrails", unfollowed := true, recurses := true, plainKeys := false, apart := false }
def SpreadTrailsSaid : Prop := spreadTrailsRow.holds Try.pinned (OpenSpec.ofChange spreadTrailsSpec)

/-- ITS FALSE NEIGHBOUR: 'it returns false'. Refute it at one input. -/
def spreadTrailsWrong : ChangeSpec := { name := "spreadTrails", fn := fun _ => fun
  | [d1, d2, d3] => { results := [.lit (.bool false)], args := [d1, d2, d3] }
  | _ => none }
def SpreadTrailsWrongFalsely : Prop := spreadTrailsRow.holds Try.pinned (OpenSpec.ofChange spreadTrailsWrong)

/-- 'timetablelaw15.SpreadNames': WHATEVER THE INPUT: true; the input reads as it did. -/
def spreadNamesSpec : ChangeSpec := { name := "spreadNames", fn := fun _ => fun
  | [] => { results := [.lit (.bool true)], args := [] }
  | _ => none }
def spreadNamesRow : OpenClaim := { program := "ytonkkibnigdfbaa", sum := "729e8e16642aa2fa6dd73b9b927d4d26cff26cb0c2763e049271eec8fc740f64", func := "timetable/timetablelaw15.SpreadNames", spec := "spreadNames", unfollowed := true, recurses := true, plainKeys := false, apart := false }
def SpreadNamesSaid : Prop := spreadNamesRow.holds Try.pinned (OpenSpec.ofChange spreadNamesSpec)

/-- ITS FALSE NEIGHBOUR: 'it returns false'. Refute it at one input. -/
def spreadNamesWrong : ChangeSpec := { name := "spreadNames", fn := fun _ => fun
  | [] => { results := [.lit (.bool false)], args := [] }
  | _ => none }
def SpreadNamesWrongFalsely : Prop := spreadNamesRow.holds Try.pinned (OpenSpec.ofChange spreadNamesWrong)

/-- 'timetablelaw15.SpreadCalls': WHATEVER THE INPUT: true; the input reads as it did. -/
def spreadCallsSpec : ChangeSpec := { name := "spreadCalls", fn := fun _ => fun
  | [d1, d2, d3, d4] => { results := [.lit (.bool true)], args := [d1, d2, d3, d4] }
  | _ => none }
def spreadCallsRow : OpenClaim := { program := "ytonkkibnigdfbaa", sum := "729e8e16642aa2fa6dd73b9b927d4d26cff26cb0c2763e049271eec8fc740f64", func := "timetable/timetablelaw15.SpreadCalls", spec := "spreadCalls", unfollowed := true, recurses := true, plainKeys := false, apart := false }
def SpreadCallsSaid : Prop := spreadCallsRow.holds Try.pinned (OpenSpec.ofChange spreadCallsSpec)

/-- ITS FALSE NEIGHBOUR: 'it returns false'. Refute it at one input. -/
def spreadCallsWrong : ChangeSpec := { name := "spreadCalls", fn := fun _ => fun
  | [d1, d2, d3, d4] => { results := [.lit (.bool false)], args := [d1, d2, d3, d4] }
  | _ => none }
def SpreadCallsWrongFalsely : Prop := spreadCallsRow.holds Try.pinned (OpenSpec.ofChange spreadCallsWrong)

/-- 'timetablelaw14.ClosureNear': WHATEVER THE INPUT: true; the input reads as it did. -/
def closureNearSpec : ChangeSpec := { name := "closureNear", fn := fun _ => fun
  | [d] => { results := [.lit (.bool true)], args := [d] }
  | _ => none }
def closureNearRow : OpenClaim := { program := "ytonkkibnigdfbaa", sum := "729e8e16642aa2fa6dd73b9b927d4d26cff26cb0c2763e049271eec8fc740f64", func := "timetable/timetablelaw14.ClosureNear", spec := "closureNear", unfollowed := true, recurses := true, plainKeys := false, apart := false }
def ClosureNearSaid : Prop := closureNearRow.holds Try.pinned (OpenSpec.ofChange closureNearSpec)

/-- ITS FALSE NEIGHBOUR: 'it returns false'. Refute it at one input. -/
def closureNearWrong : ChangeSpec := { name := "closureNear", fn := fun _ => fun
  | [d] => { results := [.lit (.bool false)], args := [d] }
  | _ => none }
def ClosureNearWrongFalsely : Prop := closureNearRow.holds Try.pinned (OpenSpec.ofChange closureNearWrong)

/-- 'timetablelaw14.ClosureMore': WHATEVER THE INPUT: true; the input reads as it did. -/
def closureMoreSpec : ChangeSpec := { name := "closureMore", fn := fun _ => fun
  | [d1, d2, d3, d4, d5] => { results := [.lit (.bool true)], args := [d1, d2, d3, d4, d5] }
  | _ => none }
def closureMoreRow : OpenClaim := { program := "ytonkkibnigdfbaa", sum := "729e8e16642aa2fa6dd73b9b927d4d26cff26cb0c2763e049271eec8fc740f64", func := "timetable/timetablelaw14.ClosureMore", spec := "closureMore", unfollowed := true, recurses := true, plainKeys := false, apart := false }
def ClosureMoreSaid : Prop := closureMoreRow.holds Try.pinned (OpenSpec.ofChange closureMoreSpec)

/-- ITS FALSE NEIGHBOUR: 'it returns false'. Refute it at one input. -/
def closureMoreWrong : ChangeSpec := { name := "closureMore", fn := fun _ => fun
  | [d1, d2, d3, d4, d5] => { results := [.lit (.bool false)], args := [d1, d2, d3, d4, d5] }
  | _ => none }
def ClosureMoreWrongFalsely : Prop := closureMoreRow.holds Try.pinned (OpenSpec.ofChange closureMoreWrong)

/-- 'timetablelaw14.ClosureNames': WHATEVER THE INPUT: true; the input reads as it did. -/
def closureNamesSpec : ChangeSpec := { name := "closureNames", fn := fun _ => fun
  | [] => { results := [.lit (.bool true)], args := [] }
  | _ => none }
def closureNamesRow : OpenClaim := { program := "ytonkkibnigdfbaa", sum := "729e8e16642aa2fa6dd73b9b927d4d26cff26cb0c2763e049271eec8fc740f64", func := "timetable/timetablelaw14.ClosureNames", spec := "closureNames", unfollowed := true, recurses := true, plainKeys := false, apart := false }
def ClosureNamesSaid : Prop := closureNamesRow.holds Try.pinned (OpenSpec.ofChange closureNamesSpec)

/-- ITS FALSE NEIGHBOUR: 'it returns false'. Refute it at one input. -/
def closureNamesWrong : ChangeSpec := { name := "closureNames", fn := fun _ => fun
  | [] => { results := [.lit (.bool false)], args := [] }
  | _ => none }
def ClosureNamesWrongFalsely : Prop := closureNamesRow.holds Try.pinned (OpenSpec.ofChange closureNamesWrong)

/-- 'timetablelaw14.ClosureCalls': WHATEVER THE INPUT: true; the input reads as it did. -/
def closureCallsSpec : ChangeSpec := { name := "closureCalls", fn := fun _ => fun
  | [d1, d2, d3, d4, d5] => { results := [.lit (.bool true)], args := [d1, d2, d3, d4, d5] }
  | _ => none }
def closureCallsRow : OpenClaim := { program := "ytonkkibnigdfbaa", sum := "729e8e16642aa2fa6dd73b9b927d4d26cff26cb0c2763e049271eec8fc740f64", func := "timetable/timetablelaw14.ClosureCalls", spec := "closureCalls", unfollowed := true, recurses := true, plainKeys := false, apart := false }
def ClosureCallsSaid : Prop := closureCallsRow.holds Try.pinned (OpenSpec.ofChange closureCallsSpec)

/-- ITS FALSE NEIGHBOUR: 'it returns false'. Refute it at one input. -/
def closureCallsWrong : ChangeSpec := { name := "closureCalls", fn := fun _ => fun
  | [d1, d2, d3, d4, d5] => { results := [.lit (.bool false)], args := [d1, d2, d3, d4, d5] }
  | _ => none }
def ClosureCallsWrongFalsely : Prop := closureCallsRow.holds Try.pinned (OpenSpec.ofChange closureCallsWrong)

/-- 'timetablelaw14.ClosureWithin': WHATEVER THE INPUT: true; the input reads as it did. -/
def closureWithinSpec : ChangeSpec := { name := "closureWithin", fn := fun _ => fun
  | [d1, d2, d3, d4] => { results := [.lit (.bool true)], args := [d1, d2, d3, d4] }
  | _ => none }
def closureWithinRow : OpenClaim := { program := "ytonkkibnigdfbaa", sum := "729e8e16642aa2fa6dd73b9b927d4d26cff26cb0c2763e049271eec8fc740f64", func := "timetable/timetablelaw14.ClosureWithin", spec := "closureWithin", unfollowed := true, recurses := true, plainKeys := false, apart := false }
def ClosureWithinSaid : Prop := closureWithinRow.holds Try.pinned (OpenSpec.ofChange closureWithinSpec)

/-- ITS FALSE NEIGHBOUR: 'it returns false'. Refute it at one input. -/
def closureWithinWrong : ChangeSpec := { name := "closureWithin", fn := fun _ => fun
  | [d1, d2, d3, d4] => { results := [.lit (.bool false)], args := [d1, d2, d3, d4] }
  | _ => none }
def ClosureWithinWrongFalsely : Prop := closureWithinRow.holds Try.pinned (OpenSpec.ofChange closureWithinWrong)

/- THE SECOND FORM. 'bulk': how many values and letters a reading holds, each counted each time it is reached (what is shared counts as often as it is met; a slice's spare places count too). A statement '..UptoSaid' is the law's where the arguments, and the package variables that the reading takes, are together of bulk at most 1048576: NARROWER than '..Said'. Prove '..Said' where nothing that the law and all that it calls make is longer than what came in: it says more and counts as full. Else prove '..UptoSaid'. A law counts once. -/
mutual
def uptoBulk {H : Type} : DataW H → Nat
  | .lit (.string bytes) => bytes.length + 1
  | .lit _ => 1
  | .nil => 1
  | .ptr d => uptoBulk d + 1
  | .slice elems spare => uptoBulkAll elems + uptoBulkAll spare + 1
  | .agg parts => uptoBulkAll parts + 1
  | .iface _ d => uptoBulk d + 1
  | .map entries => uptoBulkEntries entries + 1
  | .held _ => 1
def uptoBulkAll {H : Type} : List (DataW H) → Nat
  | [] => 0
  | d :: r => uptoBulk d + uptoBulkAll r
def uptoBulkEntries {H : Type} : List (Lit × DataW H) → Nat
  | [] => 0
  | x :: r => uptoBulkEntry x + uptoBulkEntries r
def uptoBulkEntry {H : Type} : Lit × DataW H → Nat
  | (.string bytes, d) => bytes.length + uptoBulk d + 1
  | (_, d) => uptoBulk d + 1
 end
def uptoSmall : (H : Type) → List (DataW H) → Bool := fun _ ds => decide (uptoBulkAll ds ≤ 1048576)
def OpenSpec.upto (s : _root_.Go.ChangeSpec) : _root_.Go.OpenSpec := { _root_.Go.OpenSpec.ofChange s with cond := some uptoSmall }

/-- 'timetablelaw15.SpreadPlain', WHERE WHAT IT READS IS OF BULK AT MOST 1048576: true; the input reads as it did. -/
def spreadPlainUptoRow : OpenClaim := { program := "ytonkkibnigdfbaa", sum := "729e8e16642aa2fa6dd73b9b927d4d26cff26cb0c2763e049271eec8fc740f64", func := "timetable/timetablelaw15.SpreadPlain", spec := "spreadPlain", unfollowed := true, recurses := true, plainKeys := false, apart := false, narrowed := true }
def SpreadPlainUptoSaid : Prop := spreadPlainUptoRow.holds Try.pinned (OpenSpec.upto spreadPlainSpec)

/-- 'timetablelaw15.SpreadLater', WHERE WHAT IT READS IS OF BULK AT MOST 1048576: true; the input reads as it did. -/
def spreadLaterUptoRow : OpenClaim := { program := "ytonkkibnigdfbaa", sum := "729e8e16642aa2fa6dd73b9b927d4d26cff26cb0c2763e049271eec8fc740f64", func := "timetable/timetablelaw15.SpreadLater", spec := "spreadLater", unfollowed := true, recurses := true, plainKeys := false, apart := false, narrowed := true }
def SpreadLaterUptoSaid : Prop := spreadLaterUptoRow.holds Try.pinned (OpenSpec.upto spreadLaterSpec)

/-- 'timetablelaw15.SpreadMore', WHERE WHAT IT READS IS OF BULK AT MOST 1048576: true; the input reads as it did. -/
def spreadMoreUptoRow : OpenClaim := { program := "ytonkkibnigdfbaa", sum := "729e8e16642aa2fa6dd73b9b927d4d26cff26cb0c2763e049271eec8fc740f64", func := "timetable/timetablelaw15.SpreadMore", spec := "spreadMore", unfollowed := true, recurses := true, plainKeys := false, apart := false, narrowed := true }
def SpreadMoreUptoSaid : Prop := spreadMoreUptoRow.holds Try.pinned (OpenSpec.upto spreadMoreSpec)

/-- 'timetablelaw15.SpreadAgain', WHERE WHAT IT READS IS OF BULK AT MOST 1048576: true; the input reads as it did. -/
def spreadAgainUptoRow : OpenClaim := { program := "ytonkkibnigdfbaa", sum := "729e8e16642aa2fa6dd73b9b927d4d26cff26cb0c2763e049271eec8fc740f64", func := "timetable/timetablelaw15.SpreadAgain", spec := "spreadAgain", unfollowed := true, recurses := true, plainKeys := false, apart := false, narrowed := true }
def SpreadAgainUptoSaid : Prop := spreadAgainUptoRow.holds Try.pinned (OpenSpec.upto spreadAgainSpec)

/-- 'timetablelaw15.SpreadStill', WHERE WHAT IT READS IS OF BULK AT MOST 1048576: true; the input reads as it did. -/
def spreadStillUptoRow : OpenClaim := { program := "ytonkkibnigdfbaa", sum := "729e8e16642aa2fa6dd73b9b927d4d26cff26cb0c2763e049271eec8fc740f64", func := "timetable/timetablelaw15.SpreadStill", spec := "spreadStill", unfollowed := true, recurses := true, plainKeys := false, apart := false, narrowed := true }
def SpreadStillUptoSaid : Prop := spreadStillUptoRow.holds Try.pinned (OpenSpec.upto spreadStillSpec)

/-- 'timetablelaw15.SpreadTrails', WHERE WHAT IT READS IS OF BULK AT MOST 1048576: true; the input reads as it did. -/
def spreadTrailsUptoRow : OpenClaim := { program := "ytonkkibnigdfbaa", sum := "729e8e16642aa2fa6dd73b9b927d4d26cff26cb0c2763e049271eec8fc740f64", func := "timetable/timetablelaw15.SpreadTrails", spec := "spreadTrails", unfollowed := true, recurses := true, plainKeys := false, apart := false, narrowed := true }
def SpreadTrailsUptoSaid : Prop := spreadTrailsUptoRow.holds Try.pinned (OpenSpec.upto spreadTrailsSpec)

/-- 'timetablelaw15.SpreadNames', WHERE WHAT IT READS IS OF BULK AT MOST 1048576: true; the input reads as it did. -/
def spreadNamesUptoRow : OpenClaim := { program := "ytonkkibnigdfbaa", sum := "729e8e16642aa2fa6dd73b9b927d4d26cff26cb0c2763e049271eec8fc740f64", func := "timetable/timetablelaw15.SpreadNames", spec := "spreadNames", unfollowed := true, recurses := true, plainKeys := false, apart := false, narrowed := true }
def SpreadNamesUptoSaid : Prop := spreadNamesUptoRow.holds Try.pinned (OpenSpec.upto spreadNamesSpec)

/-- 'timetablelaw15.SpreadCalls', WHERE WHAT IT READS IS OF BULK AT MOST 1048576: true; the input reads as it did. -/
def spreadCallsUptoRow : OpenClaim := { program := "ytonkkibnigdfbaa", sum := "729e8e16642aa2fa6dd73b9b927d4d26cff26cb0c2763e049271eec8fc740f64", func := "timetable/timetablelaw15.SpreadCalls", spec := "spreadCalls", unfollowed := true, recurses := true, plainKeys := false, apart := false, narrowed := true }
def SpreadCallsUptoSaid : Prop := spreadCallsUptoRow.holds Try.pinned (OpenSpec.upto spreadCallsSpec)

/-- 'timetablelaw14.ClosureNear', WHERE WHAT IT READS IS OF BULK AT MOST 1048576: true; the input reads as it did. -/
def closureNearUptoRow : OpenClaim := { program := "ytonkkibnigdfbaa", sum := "729e8e16642aa2fa6dd73b9b927d4d26cff26cb0c2763e049271eec8fc740f64", func := "timetable/timetablelaw14.ClosureNear", spec := "closureNear", unfollowed := true, recurses := true, plainKeys := false, apart := false, narrowed := true }
def ClosureNearUptoSaid : Prop := closureNearUptoRow.holds Try.pinned (OpenSpec.upto closureNearSpec)

/-- 'timetablelaw14.ClosureMore', WHERE WHAT IT READS IS OF BULK AT MOST 1048576: true; the input reads as it did. -/
def closureMoreUptoRow : OpenClaim := { program := "ytonkkibnigdfbaa", sum := "729e8e16642aa2fa6dd73b9b927d4d26cff26cb0c2763e049271eec8fc740f64", func := "timetable/timetablelaw14.ClosureMore", spec := "closureMore", unfollowed := true, recurses := true, plainKeys := false, apart := false, narrowed := true }
def ClosureMoreUptoSaid : Prop := closureMoreUptoRow.holds Try.pinned (OpenSpec.upto closureMoreSpec)

/-- 'timetablelaw14.ClosureNames', WHERE WHAT IT READS IS OF BULK AT MOST 1048576: true; the input reads as it did. -/
def closureNamesUptoRow : OpenClaim := { program := "ytonkkibnigdfbaa", sum := "729e8e16642aa2fa6dd73b9b927d4d26cff26cb0c2763e049271eec8fc740f64", func := "timetable/timetablelaw14.ClosureNames", spec := "closureNames", unfollowed := true, recurses := true, plainKeys := false, apart := false, narrowed := true }
def ClosureNamesUptoSaid : Prop := closureNamesUptoRow.holds Try.pinned (OpenSpec.upto closureNamesSpec)

/-- 'timetablelaw14.ClosureCalls', WHERE WHAT IT READS IS OF BULK AT MOST 1048576: true; the input reads as it did. -/
def closureCallsUptoRow : OpenClaim := { program := "ytonkkibnigdfbaa", sum := "729e8e16642aa2fa6dd73b9b927d4d26cff26cb0c2763e049271eec8fc740f64", func := "timetable/timetablelaw14.ClosureCalls", spec := "closureCalls", unfollowed := true, recurses := true, plainKeys := false, apart := false, narrowed := true }
def ClosureCallsUptoSaid : Prop := closureCallsUptoRow.holds Try.pinned (OpenSpec.upto closureCallsSpec)

/-- 'timetablelaw14.ClosureWithin', WHERE WHAT IT READS IS OF BULK AT MOST 1048576: true; the input reads as it did. -/
def closureWithinUptoRow : OpenClaim := { program := "ytonkkibnigdfbaa", sum := "729e8e16642aa2fa6dd73b9b927d4d26cff26cb0c2763e049271eec8fc740f64", func := "timetable/timetablelaw14.ClosureWithin", spec := "closureWithin", unfollowed := true, recurses := true, plainKeys := false, apart := false, narrowed := true }
def ClosureWithinUptoSaid : Prop := closureWithinUptoRow.holds Try.pinned (OpenSpec.upto closureWithinSpec)

end Rows
end Go.Proofs.Ytonkkibnigdfbaa
