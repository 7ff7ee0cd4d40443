/-
  No cell of these rows narrows 'for every input' (looked for: loops, veiled, ifaces, maps, wideKeys, modest, calm, conditions, laid).
  DERIVED. THE GIVEN ROWS OF THIS SEAT. 6 by the template 'for every input the law returns true; each argument reads behind the call as it read before'; 0 by the template 'total and deterministic' (their statements: YtjbhdfjbockkfaaTotals.lean).
  GIVEN WITH THE SEED: the statements are not yours to turn. If you find one false, say at which input.
  Laid BY PROGRAM, IN A SANDBOX (cutbox-rows.mjs): the forced cells as the released guide's own fill.sh prints them over the translation d3d4260eb814b864… (all of the seat's roots in one cut). By AI agents, Wed Nov 11 2026. No macro, syntax, notation, axiom, sorry.
-/
import Derived.Test.YtjbhdfjbockkfaaChecked
import GoSem.Claim
import GoSem.ClaimJoined
import GoSem.ClaimMapViews
import Derived.JoinedTies
import Derived.KernelRfl
namespace Go.Proofs.Ytjbhdfjbockkfaa
/- THE CELL 'sum', in the pinned program and in every row, IS THE sha256 OF THE DUMP (.gsa) THAT YtjbhdfjbockkfaaProg.lean LOADS. Nothing in Lean hashes anything: it is a label: what it is worth is what the hold of that sum in a sandbox is worth. -/
noncomputable def Try.pinned : Pinned := { name := "ytjbhdfjbockkfaa", sum := "d3d4260eb814b86489e42d62e84e62388d338a2a9d855c948039e32c865a5ad2", checked := Try.checked }
namespace Rows
def none {H : Type} : Left H := { results := [], args := [] }

/-- 'timetablelaw08.WindowFinds': WHATEVER THE INPUT: true; the input reads as it did. -/
def windowFindsSpec : ChangeSpec := { name := "windowFinds", fn := fun _ => fun
  | [d1, d2, d3, d4] => { results := [.lit (.bool true)], args := [d1, d2, d3, d4] }
  | _ => none }
def windowFindsRow : OpenClaim := { program := "ytjbhdfjbockkfaa", sum := "d3d4260eb814b86489e42d62e84e62388d338a2a9d855c948039e32c865a5ad2", func := "timetable/timetablelaw08.WindowFinds", spec := "windowFinds", unfollowed := true, recurses := true, apart := false }
def WindowFindsSaid : Prop := windowFindsRow.holds Try.pinned (OpenSpec.ofChange windowFindsSpec)

/-- ITS FALSE NEIGHBOUR: 'it returns false'. Refute it at one input. -/
def windowFindsWrong : ChangeSpec := { name := "windowFinds", fn := fun _ => fun
  | [d1, d2, d3, d4] => { results := [.lit (.bool false)], args := [d1, d2, d3, d4] }
  | _ => none }
def WindowFindsWrongFalsely : Prop := windowFindsRow.holds Try.pinned (OpenSpec.ofChange windowFindsWrong)

/-- 'timetablelaw08.WindowMoves': WHATEVER THE INPUT: true; the input reads as it did. -/
def windowMovesSpec : ChangeSpec := { name := "windowMoves", fn := fun _ => fun
  | [d1, d2, d3, d4, d5] => { results := [.lit (.bool true)], args := [d1, d2, d3, d4, d5] }
  | _ => none }
def windowMovesRow : OpenClaim := { program := "ytjbhdfjbockkfaa", sum := "d3d4260eb814b86489e42d62e84e62388d338a2a9d855c948039e32c865a5ad2", func := "timetable/timetablelaw08.WindowMoves", spec := "windowMoves", unfollowed := true, recurses := true, apart := false }
def WindowMovesSaid : Prop := windowMovesRow.holds Try.pinned (OpenSpec.ofChange windowMovesSpec)

/-- ITS FALSE NEIGHBOUR: 'it returns false'. Refute it at one input. -/
def windowMovesWrong : ChangeSpec := { name := "windowMoves", fn := fun _ => fun
  | [d1, d2, d3, d4, d5] => { results := [.lit (.bool false)], args := [d1, d2, d3, d4, d5] }
  | _ => none }
def WindowMovesWrongFalsely : Prop := windowMovesRow.holds Try.pinned (OpenSpec.ofChange windowMovesWrong)

/-- 'timetablelaw08.WindowBrackets': WHATEVER THE INPUT: true; the input reads as it did. -/
def windowBracketsSpec : ChangeSpec := { name := "windowBrackets", fn := fun _ => fun
  | [d1, d2, d3] => { results := [.lit (.bool true)], args := [d1, d2, d3] }
  | _ => none }
def windowBracketsRow : OpenClaim := { program := "ytjbhdfjbockkfaa", sum := "d3d4260eb814b86489e42d62e84e62388d338a2a9d855c948039e32c865a5ad2", func := "timetable/timetablelaw08.WindowBrackets", spec := "windowBrackets", unfollowed := true, recurses := true, apart := false }
def WindowBracketsSaid : Prop := windowBracketsRow.holds Try.pinned (OpenSpec.ofChange windowBracketsSpec)

/-- ITS FALSE NEIGHBOUR: 'it returns false'. Refute it at one input. -/
def windowBracketsWrong : ChangeSpec := { name := "windowBrackets", fn := fun _ => fun
  | [d1, d2, d3] => { results := [.lit (.bool false)], args := [d1, d2, d3] }
  | _ => none }
def WindowBracketsWrongFalsely : Prop := windowBracketsRow.holds Try.pinned (OpenSpec.ofChange windowBracketsWrong)

/-- 'timetablelaw08.WindowNames': WHATEVER THE INPUT: true; the input reads as it did. -/
def windowNamesSpec : ChangeSpec := { name := "windowNames", fn := fun _ => fun
  | [] => { results := [.lit (.bool true)], args := [] }
  | _ => none }
def windowNamesRow : OpenClaim := { program := "ytjbhdfjbockkfaa", sum := "d3d4260eb814b86489e42d62e84e62388d338a2a9d855c948039e32c865a5ad2", func := "timetable/timetablelaw08.WindowNames", spec := "windowNames", unfollowed := true, recurses := true, apart := false }
def WindowNamesSaid : Prop := windowNamesRow.holds Try.pinned (OpenSpec.ofChange windowNamesSpec)

/-- ITS FALSE NEIGHBOUR: 'it returns false'. Refute it at one input. -/
def windowNamesWrong : ChangeSpec := { name := "windowNames", fn := fun _ => fun
  | [] => { results := [.lit (.bool false)], args := [] }
  | _ => none }
def WindowNamesWrongFalsely : Prop := windowNamesRow.holds Try.pinned (OpenSpec.ofChange windowNamesWrong)

/-- 'timetablelaw08.WindowCalls': WHATEVER THE INPUT: true; the input reads as it did. -/
def windowCallsSpec : ChangeSpec := { name := "windowCalls", fn := fun _ => fun
  | [d1, d2, d3, d4, d5, d6] => { results := [.lit (.bool true)], args := [d1, d2, d3, d4, d5, d6] }
  | _ => none }
def windowCallsRow : OpenClaim := { program := "ytjbhdfjbockkfaa", sum := "d3d4260eb814b86489e42d62e84e62388d338a2a9d855c948039e32c865a5ad2", func := "timetable/timetablelaw08.WindowCalls", spec := "windowCalls", unfollowed := true, recurses := true, apart := false }
def WindowCallsSaid : Prop := windowCallsRow.holds Try.pinned (OpenSpec.ofChange windowCallsSpec)

/-- ITS FALSE NEIGHBOUR: 'it returns false'. Refute it at one input. -/
def windowCallsWrong : ChangeSpec := { name := "windowCalls", fn := fun _ => fun
  | [d1, d2, d3, d4, d5, d6] => { results := [.lit (.bool false)], args := [d1, d2, d3, d4, d5, d6] }
  | _ => none }
def WindowCallsWrongFalsely : Prop := windowCallsRow.holds Try.pinned (OpenSpec.ofChange windowCallsWrong)

/-- 'timetablelaw08.WindowTicks': WHATEVER THE INPUT: true; the input reads as it did. -/
def windowTicksSpec : ChangeSpec := { name := "windowTicks", fn := fun _ => fun
  | [d1, d2, d3, d4] => { results := [.lit (.bool true)], args := [d1, d2, d3, d4] }
  | _ => none }
def windowTicksRow : OpenClaim := { program := "ytjbhdfjbockkfaa", sum := "d3d4260eb814b86489e42d62e84e62388d338a2a9d855c948039e32c865a5ad2", func := "timetable/timetablelaw08.WindowTicks", spec := "windowTicks", unfollowed := true, recurses := true, apart := false }
def WindowTicksSaid : Prop := windowTicksRow.holds Try.pinned (OpenSpec.ofChange windowTicksSpec)

/-- ITS FALSE NEIGHBOUR: 'it returns false'. Refute it at one input. -/
def windowTicksWrong : ChangeSpec := { name := "windowTicks", fn := fun _ => fun
  | [d1, d2, d3, d4] => { results := [.lit (.bool false)], args := [d1, d2, d3, d4] }
  | _ => none }
def WindowTicksWrongFalsely : Prop := windowTicksRow.holds Try.pinned (OpenSpec.ofChange windowTicksWrong)

/- THE SECOND FORM. 'bulk': how many values and letters a reading holds, each counted each time it is reached (what is shared counts as often as it is met; a slice's spare places count too). A statement '..UptoSaid' is the law's where the arguments, and the package variables that the reading takes, are together of bulk at most 1048576: NARROWER than '..Said'. Prove '..Said' where nothing that the law and all that it calls make is longer than what came in: it says more and counts as full. Else prove '..UptoSaid'. A law counts once. -/
mutual
def uptoBulk {H : Type} : DataW H → Nat
  | .lit (.string bytes) => bytes.length + 1
  | .lit _ => 1
  | .nil => 1
  | .ptr d => uptoBulk d + 1
  | .slice elems spare => uptoBulkAll elems + uptoBulkAll spare + 1
  | .agg parts => uptoBulkAll parts + 1
  | .iface _ d => uptoBulk d + 1
  | .map entries => uptoBulkEntries entries + 1
  | .held _ => 1
def uptoBulkAll {H : Type} : List (DataW H) → Nat
  | [] => 0
  | d :: r => uptoBulk d + uptoBulkAll r
def uptoBulkEntries {H : Type} : List (Lit × DataW H) → Nat
  | [] => 0
  | x :: r => uptoBulkEntry x + uptoBulkEntries r
def uptoBulkEntry {H : Type} : Lit × DataW H → Nat
  | (.string bytes, d) => bytes.length + uptoBulk d + 1
  | (_, d) => uptoBulk d + 1
 end
def uptoSmall : (H : Type) → List (DataW H) → Bool := fun _ ds => decide (uptoBulkAll ds ≤ 1048576)
def OpenSpec.upto (s : _root_.Go.ChangeSpec) : _root_.Go.OpenSpec := { _root_.Go.OpenSpec.ofChange s with cond := some uptoSmall }

/-- 'timetablelaw08.WindowFinds', WHERE WHAT IT READS IS OF BULK AT MOST 1048576: true; the input reads as it did. -/
def windowFindsUptoRow : OpenClaim := { program := "ytjbhdfjbockkfaa", sum := "d3d4260eb814b86489e42d62e84e62388d338a2a9d855c948039e32c865a5ad2", func := "timetable/timetablelaw08.WindowFinds", spec := "windowFinds", unfollowed := true, recurses := true, apart := false, narrowed := true }
def WindowFindsUptoSaid : Prop := windowFindsUptoRow.holds Try.pinned (OpenSpec.upto windowFindsSpec)

/-- 'timetablelaw08.WindowMoves', WHERE WHAT IT READS IS OF BULK AT MOST 1048576: true; the input reads as it did. -/
def windowMovesUptoRow : OpenClaim := { program := "ytjbhdfjbockkfaa", sum := "d3d4260eb814b86489e42d62e84e62388d338a2a9d855c948039e32c865a5ad2", func := "timetable/timetablelaw08.WindowMoves", spec := "windowMoves", unfollowed := true, recurses := true, apart := false, narrowed := true }
def WindowMovesUptoSaid : Prop := windowMovesUptoRow.holds Try.pinned (OpenSpec.upto windowMovesSpec)

/-- 'timetablelaw08.WindowBrackets', WHERE WHAT IT READS IS OF BULK AT MOST 1048576: true; the input reads as it did. -/
def windowBracketsUptoRow : OpenClaim := { program := "ytjbhdfjbockkfaa", sum := "d3d4260eb814b86489e42d62e84e62388d338a2a9d855c948039e32c865a5ad2", func := "timetable/timetablelaw08.WindowBrackets", spec := "windowBrackets", unfollowed := true, recurses := true, apart := false, narrowed := true }
def WindowBracketsUptoSaid : Prop := windowBracketsUptoRow.holds Try.pinned (OpenSpec.upto windowBracketsSpec)

/-- 'timetablelaw08.WindowNames', WHERE WHAT IT READS IS OF BULK AT MOST 1048576: true; the input reads as it did. -/
def windowNamesUptoRow : OpenClaim := { program := "ytjbhdfjbockkfaa", sum := "d3d4260eb814b86489e42d62e84e62388d338a2a9d855c948039e32c865a5ad2", func := "timetable/timetablelaw08.WindowNames", spec := "windowNames", unfollowed := true, recurses := true, apart := false, narrowed := true }
def WindowNamesUptoSaid : Prop := windowNamesUptoRow.holds Try.pinned (OpenSpec.upto windowNamesSpec)

/-- 'timetablelaw08.WindowCalls', WHERE WHAT IT READS IS OF BULK AT MOST 1048576: true; the input reads as it did. -/
def windowCallsUptoRow : OpenClaim := { program := "ytjbhdfjbockkfaa", sum := "d3d4260eb814b86489e42d62e84e62388d338a2a9d855c948039e32c865a5ad2", func := "timetable/timetablelaw08.WindowCalls", spec := "windowCalls", unfollowed := true, recurses := true, apart := false, narrowed := true }
def WindowCallsUptoSaid : Prop := windowCallsUptoRow.holds Try.pinned (OpenSpec.upto windowCallsSpec)

/-- 'timetablelaw08.WindowTicks', WHERE WHAT IT READS IS OF BULK AT MOST 1048576: true; the input reads as it did. -/
def windowTicksUptoRow : OpenClaim := { program := "ytjbhdfjbockkfaa", sum := "d3d4260eb814b86489e42d62e84e62388d338a2a9d855c948039e32c865a5ad2", func := "timetable/timetablelaw08.WindowTicks", spec := "windowTicks", unfollowed := true, recurses := true, apart := false, narrowed := true }
def WindowTicksUptoSaid : Prop := windowTicksUptoRow.holds Try.pinned (OpenSpec.upto windowTicksSpec)

end Rows
end Go.Proofs.Ytjbhdfjbockkfaa
