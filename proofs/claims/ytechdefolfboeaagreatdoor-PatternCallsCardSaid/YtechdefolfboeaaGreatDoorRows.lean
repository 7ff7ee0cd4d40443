/-
  NARROWER THAN 'FOR EVERY INPUT', by the rows' own cells (each row's printed sentence says how): ConnsJoin: laid · ConnsRise: laid · ConnsParts: laid · ConnsNames: laid · ConnsCalls: laid · PatternOne: laid · PatternTurned: laid · PatternRows: laid · PatternNames: laid · PatternCalls: laid.
  DERIVED. THE GIVEN ROWS OF THIS SEAT. 10 by the template 'for every input the law returns true; each argument reads behind the call as it read before'; 0 by the template 'total and deterministic' (their statements: YtechdefolfboeaaGreatDoorTotals.lean).
  GIVEN WITH THE SEED: the statements are not yours to turn. If you find one false, say at which input.
  Laid BY PROGRAM, IN A SANDBOX (cutbox-rows.mjs): the forced cells as the released guide's own fill.sh prints them over the translation 561c572b482018bb… (all of the seat's roots in one cut). By AI agents, Wed Nov 11 2026. No macro, syntax, notation, axiom, sorry.
-/
import Derived.Test.YtechdefolfboeaaGreatDoorChecked
import GoSem.Claim
import GoSem.ClaimJoined
import GoSem.ClaimMapViews
import Derived.JoinedTies
import Derived.KernelRfl
namespace Go.Proofs.YtechdefolfboeaaGreatDoor
/- THE CELL 'sum', in the pinned program and in every row, IS THE sha256 OF THE DUMP (.gsa) THAT YtechdefolfboeaaGreatDoorProg.lean LOADS. Nothing in Lean hashes anything: it is a label: what it is worth is what the hold of that sum in a sandbox is worth. -/
noncomputable def Tryz.pinned : Pinned := { name := "ytechdefolfboeaagreatdoor", sum := "561c572b482018bbfa230682e14cba92f01ab578be9cbcf04d635ec8de83a2d4", checked := Tryz.checked }
namespace Rows
def none {H : Type} : Left H := { results := [], args := [] }

/- WHAT THE LISTED PACKAGE-LEVEL VARIABLES READ AS WHEN THE CALL BEGINS. Each datum BY PROGRAM (the guide's laid-datum.mjs) off the statement by which the dump's own 'gosem.cut.vars' lays the variable. In a bare row this is a premise. The card (YtechdefolfboeaaGreatDoorCards.lean) ties it to the program's text. -/
def laid_unicode_White_Space {H : Type} : DataW H := .ptr (.agg [.slice [.agg [.lit (.int .u16 9), .lit (.int .u16 13), .lit (.int .u16 1)], .agg [.lit (.int .u16 32), .lit (.int .u16 133), .lit (.int .u16 101)], .agg [.lit (.int .u16 160), .lit (.int .u16 5760), .lit (.int .u16 5600)], .agg [.lit (.int .u16 8192), .lit (.int .u16 8202), .lit (.int .u16 1)], .agg [.lit (.int .u16 8232), .lit (.int .u16 8233), .lit (.int .u16 1)], .agg [.lit (.int .u16 8239), .lit (.int .u16 8287), .lit (.int .u16 48)], .agg [.lit (.int .u16 12288), .lit (.int .u16 12288), .lit (.int .u16 1)]] [], .nil, .lit (.int .i64 2)])
def laid_strings_asciiSpace {H : Type} : DataW H := .agg [.lit (.int .u8 0), .lit (.int .u8 0), .lit (.int .u8 0), .lit (.int .u8 0), .lit (.int .u8 0), .lit (.int .u8 0), .lit (.int .u8 0), .lit (.int .u8 0), .lit (.int .u8 0), .lit (.int .u8 1), .lit (.int .u8 1), .lit (.int .u8 1), .lit (.int .u8 1), .lit (.int .u8 1), .lit (.int .u8 0), .lit (.int .u8 0), .lit (.int .u8 0), .lit (.int .u8 0), .lit (.int .u8 0), .lit (.int .u8 0), .lit (.int .u8 0), .lit (.int .u8 0), .lit (.int .u8 0), .lit (.int .u8 0), .lit (.int .u8 0), .lit (.int .u8 0), .lit (.int .u8 0), .lit (.int .u8 0), .lit (.int .u8 0), .lit (.int .u8 0), .lit (.int .u8 0), .lit (.int .u8 0), .lit (.int .u8 1), .lit (.int .u8 0), .lit (.int .u8 0), .lit (.int .u8 0), .lit (.int .u8 0), .lit (.int .u8 0), .lit (.int .u8 0), .lit (.int .u8 0), .lit (.int .u8 0), .lit (.int .u8 0), .lit (.int .u8 0), .lit (.int .u8 0), .lit (.int .u8 0), .lit (.int .u8 0), .lit (.int .u8 0), .lit (.int .u8 0), .lit (.int .u8 0), .lit (.int .u8 0), .lit (.int .u8 0), .lit (.int .u8 0), .lit (.int .u8 0), .lit (.int .u8 0), .lit (.int .u8 0), .lit (.int .u8 0), .lit (.int .u8 0), .lit (.int .u8 0), .lit (.int .u8 0), .lit (.int .u8 0), .lit (.int .u8 0), .lit (.int .u8 0), .lit (.int .u8 0), .lit (.int .u8 0), .lit (.int .u8 0), .lit (.int .u8 0), .lit (.int .u8 0), .lit (.int .u8 0), .lit (.int .u8 0), .lit (.int .u8 0), .lit (.int .u8 0), .lit (.int .u8 0), .lit (.int .u8 0), .lit (.int .u8 0), .lit (.int .u8 0), .lit (.int .u8 0), .lit (.int .u8 0), .lit (.int .u8 0), .lit (.int .u8 0), .lit (.int .u8 0), .lit (.int .u8 0), .lit (.int .u8 0), .lit (.int .u8 0), .lit (.int .u8 0), .lit (.int .u8 0), .lit (.int .u8 0), .lit (.int .u8 0), .lit (.int .u8 0), .lit (.int .u8 0), .lit (.int .u8 0), .lit (.int .u8 0), .lit (.int .u8 0), .lit (.int .u8 0), .lit (.int .u8 0), .lit (.int .u8 0), .lit (.int .u8 0), .lit (.int .u8 0), .lit (.int .u8 0), .lit (.int .u8 0), .lit (.int .u8 0), .lit (.int .u8 0), .lit (.int .u8 0), .lit (.int .u8 0), .lit (.int .u8 0), .lit (.int .u8 0), .lit (.int .u8 0), .lit (.int .u8 0), .lit (.int .u8 0), .lit (.int .u8 0), .lit (.int .u8 0), .lit (.int .u8 0), .lit (.int .u8 0), .lit (.int .u8 0), .lit (.int .u8 0), .lit (.int .u8 0), .lit (.int .u8 0), .lit (.int .u8 0), .lit (.int .u8 0), .lit (.int .u8 0), .lit (.int .u8 0), .lit (.int .u8 0), .lit (.int .u8 0), .lit (.int .u8 0), .lit (.int .u8 0), .lit (.int .u8 0), .lit (.int .u8 0), .lit (.int .u8 0), .lit (.int .u8 0), .lit (.int .u8 0), .lit (.int .u8 0), .lit (.int .u8 0), .lit (.int .u8 0), .lit (.int .u8 0), .lit (.int .u8 0), .lit (.int .u8 0), .lit (.int .u8 0), .lit (.int .u8 0), .lit (.int .u8 0), .lit (.int .u8 0), .lit (.int .u8 0), .lit (.int .u8 0), .lit (.int .u8 0), .lit (.int .u8 0), .lit (.int .u8 0), .lit (.int .u8 0), .lit (.int .u8 0), .lit (.int .u8 0), .lit (.int .u8 0), .lit (.int .u8 0), .lit (.int .u8 0), .lit (.int .u8 0), .lit (.int .u8 0), .lit (.int .u8 0), .lit (.int .u8 0), .lit (.int .u8 0), .lit (.int .u8 0), .lit (.int .u8 0), .lit (.int .u8 0), .lit (.int .u8 0), .lit (.int .u8 0), .lit (.int .u8 0), .lit (.int .u8 0), .lit (.int .u8 0), .lit (.int .u8 0), .lit (.int .u8 0), .lit (.int .u8 0), .lit (.int .u8 0), .lit (.int .u8 0), .lit (.int .u8 0), .lit (.int .u8 0), .lit (.int .u8 0), .lit (.int .u8 0), .lit (.int .u8 0), .lit (.int .u8 0), .lit (.int .u8 0), .lit (.int .u8 0), .lit (.int .u8 0), .lit (.int .u8 0), .lit (.int .u8 0), .lit (.int .u8 0), .lit (.int .u8 0), .lit (.int .u8 0), .lit (.int .u8 0), .lit (.int .u8 0), .lit (.int .u8 0), .lit (.int .u8 0), .lit (.int .u8 0), .lit (.int .u8 0), .lit (.int .u8 0), .lit (.int .u8 0), .lit (.int .u8 0), .lit (.int .u8 0), .lit (.int .u8 0), .lit (.int .u8 0), .lit (.int .u8 0), .lit (.int .u8 0), .lit (.int .u8 0), .lit (.int .u8 0), .lit (.int .u8 0), .lit (.int .u8 0), .lit (.int .u8 0), .lit (.int .u8 0), .lit (.int .u8 0), .lit (.int .u8 0), .lit (.int .u8 0), .lit (.int .u8 0), .lit (.int .u8 0), .lit (.int .u8 0), .lit (.int .u8 0), .lit (.int .u8 0), .lit (.int .u8 0), .lit (.int .u8 0), .lit (.int .u8 0), .lit (.int .u8 0), .lit (.int .u8 0), .lit (.int .u8 0), .lit (.int .u8 0), .lit (.int .u8 0), .lit (.int .u8 0), .lit (.int .u8 0), .lit (.int .u8 0), .lit (.int .u8 0), .lit (.int .u8 0), .lit (.int .u8 0), .lit (.int .u8 0), .lit (.int .u8 0), .lit (.int .u8 0), .lit (.int .u8 0), .lit (.int .u8 0), .lit (.int .u8 0), .lit (.int .u8 0), .lit (.int .u8 0), .lit (.int .u8 0), .lit (.int .u8 0), .lit (.int .u8 0), .lit (.int .u8 0), .lit (.int .u8 0), .lit (.int .u8 0), .lit (.int .u8 0), .lit (.int .u8 0), .lit (.int .u8 0), .lit (.int .u8 0), .lit (.int .u8 0), .lit (.int .u8 0), .lit (.int .u8 0), .lit (.int .u8 0), .lit (.int .u8 0), .lit (.int .u8 0), .lit (.int .u8 0), .lit (.int .u8 0), .lit (.int .u8 0), .lit (.int .u8 0), .lit (.int .u8 0), .lit (.int .u8 0), .lit (.int .u8 0), .lit (.int .u8 0)]

/-- 'timetablelaw19.ConnsJoin': WHATEVER THE INPUT: true; the input reads as it did. -/
def connsJoinSpec : ChangeSpec := { name := "connsJoin", fn := fun _ => fun
  | [d1, d2, d3, d4] => { results := [.lit (.bool true)], args := [d1, d2, d3, d4] }
  | _ => none }
def connsJoinRow : OpenClaim := { program := "ytechdefolfboeaagreatdoor", sum := "561c572b482018bbfa230682e14cba92f01ab578be9cbcf04d635ec8de83a2d4", func := "timetable/timetablelaw19.ConnsJoin", spec := "connsJoin", unfollowed := true, recurses := true, named := ["strings.asciiSpace", "unicode.White_Space"], apart := false, laid := [("unicode.White_Space", laid_unicode_White_Space), ("strings.asciiSpace", laid_strings_asciiSpace)] }
def ConnsJoinSaid : Prop := connsJoinRow.holds Tryz.pinned (OpenSpec.ofChange connsJoinSpec)

/-- ITS FALSE NEIGHBOUR: 'it returns false'. Refute it at one input. -/
def connsJoinWrong : ChangeSpec := { name := "connsJoin", fn := fun _ => fun
  | [d1, d2, d3, d4] => { results := [.lit (.bool false)], args := [d1, d2, d3, d4] }
  | _ => none }
def ConnsJoinWrongFalsely : Prop := connsJoinRow.holds Tryz.pinned (OpenSpec.ofChange connsJoinWrong)

/-- 'timetablelaw19.ConnsRise': WHATEVER THE INPUT: true; the input reads as it did. -/
def connsRiseSpec : ChangeSpec := { name := "connsRise", fn := fun _ => fun
  | [d1, d2] => { results := [.lit (.bool true)], args := [d1, d2] }
  | _ => none }
def connsRiseRow : OpenClaim := { program := "ytechdefolfboeaagreatdoor", sum := "561c572b482018bbfa230682e14cba92f01ab578be9cbcf04d635ec8de83a2d4", func := "timetable/timetablelaw19.ConnsRise", spec := "connsRise", unfollowed := true, recurses := true, named := ["strings.asciiSpace", "unicode.White_Space"], apart := false, laid := [("unicode.White_Space", laid_unicode_White_Space), ("strings.asciiSpace", laid_strings_asciiSpace)] }
def ConnsRiseSaid : Prop := connsRiseRow.holds Tryz.pinned (OpenSpec.ofChange connsRiseSpec)

/-- ITS FALSE NEIGHBOUR: 'it returns false'. Refute it at one input. -/
def connsRiseWrong : ChangeSpec := { name := "connsRise", fn := fun _ => fun
  | [d1, d2] => { results := [.lit (.bool false)], args := [d1, d2] }
  | _ => none }
def ConnsRiseWrongFalsely : Prop := connsRiseRow.holds Tryz.pinned (OpenSpec.ofChange connsRiseWrong)

/-- 'timetablelaw19.ConnsParts': WHATEVER THE INPUT: true; the input reads as it did. -/
def connsPartsSpec : ChangeSpec := { name := "connsParts", fn := fun _ => fun
  | [d1, d2] => { results := [.lit (.bool true)], args := [d1, d2] }
  | _ => none }
def connsPartsRow : OpenClaim := { program := "ytechdefolfboeaagreatdoor", sum := "561c572b482018bbfa230682e14cba92f01ab578be9cbcf04d635ec8de83a2d4", func := "timetable/timetablelaw19.ConnsParts", spec := "connsParts", unfollowed := true, recurses := true, named := ["strings.asciiSpace", "unicode.White_Space"], apart := false, laid := [("unicode.White_Space", laid_unicode_White_Space), ("strings.asciiSpace", laid_strings_asciiSpace)] }
def ConnsPartsSaid : Prop := connsPartsRow.holds Tryz.pinned (OpenSpec.ofChange connsPartsSpec)

/-- ITS FALSE NEIGHBOUR: 'it returns false'. Refute it at one input. -/
def connsPartsWrong : ChangeSpec := { name := "connsParts", fn := fun _ => fun
  | [d1, d2] => { results := [.lit (.bool false)], args := [d1, d2] }
  | _ => none }
def ConnsPartsWrongFalsely : Prop := connsPartsRow.holds Tryz.pinned (OpenSpec.ofChange connsPartsWrong)

/-- 'timetablelaw19.ConnsNames': WHATEVER THE INPUT: true; the input reads as it did. -/
def connsNamesSpec : ChangeSpec := { name := "connsNames", fn := fun _ => fun
  | [] => { results := [.lit (.bool true)], args := [] }
  | _ => none }
def connsNamesRow : OpenClaim := { program := "ytechdefolfboeaagreatdoor", sum := "561c572b482018bbfa230682e14cba92f01ab578be9cbcf04d635ec8de83a2d4", func := "timetable/timetablelaw19.ConnsNames", spec := "connsNames", unfollowed := true, recurses := true, named := ["strings.asciiSpace", "unicode.White_Space"], apart := false, laid := [("unicode.White_Space", laid_unicode_White_Space), ("strings.asciiSpace", laid_strings_asciiSpace)] }
def ConnsNamesSaid : Prop := connsNamesRow.holds Tryz.pinned (OpenSpec.ofChange connsNamesSpec)

/-- ITS FALSE NEIGHBOUR: 'it returns false'. Refute it at one input. -/
def connsNamesWrong : ChangeSpec := { name := "connsNames", fn := fun _ => fun
  | [] => { results := [.lit (.bool false)], args := [] }
  | _ => none }
def ConnsNamesWrongFalsely : Prop := connsNamesRow.holds Tryz.pinned (OpenSpec.ofChange connsNamesWrong)

/-- 'timetablelaw19.ConnsCalls': WHATEVER THE INPUT: true; the input reads as it did. -/
def connsCallsSpec : ChangeSpec := { name := "connsCalls", fn := fun _ => fun
  | [d1, d2, d3, d4, d5, d6] => { results := [.lit (.bool true)], args := [d1, d2, d3, d4, d5, d6] }
  | _ => none }
def connsCallsRow : OpenClaim := { program := "ytechdefolfboeaagreatdoor", sum := "561c572b482018bbfa230682e14cba92f01ab578be9cbcf04d635ec8de83a2d4", func := "timetable/timetablelaw19.ConnsCalls", spec := "connsCalls", unfollowed := true, recurses := true, named := ["strings.asciiSpace", "unicode.White_Space"], apart := false, laid := [("unicode.White_Space", laid_unicode_White_Space), ("strings.asciiSpace", laid_strings_asciiSpace)] }
def ConnsCallsSaid : Prop := connsCallsRow.holds Tryz.pinned (OpenSpec.ofChange connsCallsSpec)

/-- ITS FALSE NEIGHBOUR: 'it returns false'. Refute it at one input. -/
def connsCallsWrong : ChangeSpec := { name := "connsCalls", fn := fun _ => fun
  | [d1, d2, d3, d4, d5, d6] => { results := [.lit (.bool false)], args := [d1, d2, d3, d4, d5, d6] }
  | _ => none }
def ConnsCallsWrongFalsely : Prop := connsCallsRow.holds Tryz.pinned (OpenSpec.ofChange connsCallsWrong)

/-- 'timetablelaw20.PatternOne': WHATEVER THE INPUT: true; the input reads as it did. -/
def patternOneSpec : ChangeSpec := { name := "patternOne", fn := fun _ => fun
  | [d1, d2, d3] => { results := [.lit (.bool true)], args := [d1, d2, d3] }
  | _ => none }
def patternOneRow : OpenClaim := { program := "ytechdefolfboeaagreatdoor", sum := "561c572b482018bbfa230682e14cba92f01ab578be9cbcf04d635ec8de83a2d4", func := "timetable/timetablelaw20.PatternOne", spec := "patternOne", unfollowed := true, recurses := true, named := ["strings.asciiSpace", "unicode.White_Space"], apart := false, laid := [("unicode.White_Space", laid_unicode_White_Space), ("strings.asciiSpace", laid_strings_asciiSpace)] }
def PatternOneSaid : Prop := patternOneRow.holds Tryz.pinned (OpenSpec.ofChange patternOneSpec)

/-- ITS FALSE NEIGHBOUR: 'it returns false'. Refute it at one input. -/
def patternOneWrong : ChangeSpec := { name := "patternOne", fn := fun _ => fun
  | [d1, d2, d3] => { results := [.lit (.bool false)], args := [d1, d2, d3] }
  | _ => none }
def PatternOneWrongFalsely : Prop := patternOneRow.holds Tryz.pinned (OpenSpec.ofChange patternOneWrong)

/-- 'timetablelaw20.PatternTurned': WHATEVER THE INPUT: true; the input reads as it did. -/
def patternTurnedSpec : ChangeSpec := { name := "patternTurned", fn := fun _ => fun
  | [d1, d2, d3] => { results := [.lit (.bool true)], args := [d1, d2, d3] }
  | _ => none }
def patternTurnedRow : OpenClaim := { program := "ytechdefolfboeaagreatdoor", sum := "561c572b482018bbfa230682e14cba92f01ab578be9cbcf04d635ec8de83a2d4", func := "timetable/timetablelaw20.PatternTurned", spec := "patternTurned", unfollowed := true, recurses := true, named := ["strings.asciiSpace", "unicode.White_Space"], apart := false, laid := [("unicode.White_Space", laid_unicode_White_Space), ("strings.asciiSpace", laid_strings_asciiSpace)] }
def PatternTurnedSaid : Prop := patternTurnedRow.holds Tryz.pinned (OpenSpec.ofChange patternTurnedSpec)

/-- ITS FALSE NEIGHBOUR: 'it returns false'. Refute it at one input. -/
def patternTurnedWrong : ChangeSpec := { name := "patternTurned", fn := fun _ => fun
  | [d1, d2, d3] => { results := [.lit (.bool false)], args := [d1, d2, d3] }
  | _ => none }
def PatternTurnedWrongFalsely : Prop := patternTurnedRow.holds Tryz.pinned (OpenSpec.ofChange patternTurnedWrong)

/-- 'timetablelaw20.PatternRows': WHATEVER THE INPUT: true; the input reads as it did. -/
def patternRowsSpec : ChangeSpec := { name := "patternRows", fn := fun _ => fun
  | [d1, d2, d3, d4] => { results := [.lit (.bool true)], args := [d1, d2, d3, d4] }
  | _ => none }
def patternRowsRow : OpenClaim := { program := "ytechdefolfboeaagreatdoor", sum := "561c572b482018bbfa230682e14cba92f01ab578be9cbcf04d635ec8de83a2d4", func := "timetable/timetablelaw20.PatternRows", spec := "patternRows", unfollowed := true, recurses := true, named := ["strings.asciiSpace", "unicode.White_Space"], apart := false, laid := [("unicode.White_Space", laid_unicode_White_Space), ("strings.asciiSpace", laid_strings_asciiSpace)] }
def PatternRowsSaid : Prop := patternRowsRow.holds Tryz.pinned (OpenSpec.ofChange patternRowsSpec)

/-- ITS FALSE NEIGHBOUR: 'it returns false'. Refute it at one input. -/
def patternRowsWrong : ChangeSpec := { name := "patternRows", fn := fun _ => fun
  | [d1, d2, d3, d4] => { results := [.lit (.bool false)], args := [d1, d2, d3, d4] }
  | _ => none }
def PatternRowsWrongFalsely : Prop := patternRowsRow.holds Tryz.pinned (OpenSpec.ofChange patternRowsWrong)

/-- 'timetablelaw20.PatternNames': WHATEVER THE INPUT: true; the input reads as it did. -/
def patternNamesSpec : ChangeSpec := { name := "patternNames", fn := fun _ => fun
  | [] => { results := [.lit (.bool true)], args := [] }
  | _ => none }
def patternNamesRow : OpenClaim := { program := "ytechdefolfboeaagreatdoor", sum := "561c572b482018bbfa230682e14cba92f01ab578be9cbcf04d635ec8de83a2d4", func := "timetable/timetablelaw20.PatternNames", spec := "patternNames", unfollowed := true, recurses := true, named := ["strings.asciiSpace", "unicode.White_Space"], apart := false, laid := [("unicode.White_Space", laid_unicode_White_Space), ("strings.asciiSpace", laid_strings_asciiSpace)] }
def PatternNamesSaid : Prop := patternNamesRow.holds Tryz.pinned (OpenSpec.ofChange patternNamesSpec)

/-- ITS FALSE NEIGHBOUR: 'it returns false'. Refute it at one input. -/
def patternNamesWrong : ChangeSpec := { name := "patternNames", fn := fun _ => fun
  | [] => { results := [.lit (.bool false)], args := [] }
  | _ => none }
def PatternNamesWrongFalsely : Prop := patternNamesRow.holds Tryz.pinned (OpenSpec.ofChange patternNamesWrong)

/-- 'timetablelaw20.PatternCalls': WHATEVER THE INPUT: true; the input reads as it did. -/
def patternCallsSpec : ChangeSpec := { name := "patternCalls", fn := fun _ => fun
  | [d1, d2, d3, d4, d5, d6] => { results := [.lit (.bool true)], args := [d1, d2, d3, d4, d5, d6] }
  | _ => none }
def patternCallsRow : OpenClaim := { program := "ytechdefolfboeaagreatdoor", sum := "561c572b482018bbfa230682e14cba92f01ab578be9cbcf04d635ec8de83a2d4", func := "timetable/timetablelaw20.PatternCalls", spec := "patternCalls", unfollowed := true, recurses := true, named := ["strings.asciiSpace", "unicode.White_Space"], apart := false, laid := [("unicode.White_Space", laid_unicode_White_Space), ("strings.asciiSpace", laid_strings_asciiSpace)] }
def PatternCallsSaid : Prop := patternCallsRow.holds Tryz.pinned (OpenSpec.ofChange patternCallsSpec)

/-- ITS FALSE NEIGHBOUR: 'it returns false'. Refute it at one input. -/
def patternCallsWrong : ChangeSpec := { name := "patternCalls", fn := fun _ => fun
  | [d1, d2, d3, d4, d5, d6] => { results := [.lit (.bool false)], args := [d1, d2, d3, d4, d5, d6] }
  | _ => none }
def PatternCallsWrongFalsely : Prop := patternCallsRow.holds Tryz.pinned (OpenSpec.ofChange patternCallsWrong)

/- THE SECOND FORM. 'bulk': how many values and letters a reading holds, each counted each time it is reached (what is shared counts as often as it is met; a slice's spare places count too). A statement '..UptoSaid' is the law's where the arguments, and the package variables that the reading takes, are together of bulk at most 1048576: NARROWER than '..Said'. Prove '..Said' where nothing that the law and all that it calls make is longer than what came in: it says more and counts as full. Else prove '..UptoSaid'. A law counts once. -/
mutual
def uptoBulk {H : Type} : DataW H → Nat
  | .lit (.string bytes) => bytes.length + 1
  | .lit _ => 1
  | .nil => 1
  | .ptr d => uptoBulk d + 1
  | .slice elems spare => uptoBulkAll elems + uptoBulkAll spare + 1
  | .agg parts => uptoBulkAll parts + 1
  | .iface _ d => uptoBulk d + 1
  | .map entries => uptoBulkEntries entries + 1
  | .held _ => 1
def uptoBulkAll {H : Type} : List (DataW H) → Nat
  | [] => 0
  | d :: r => uptoBulk d + uptoBulkAll r
def uptoBulkEntries {H : Type} : List (Lit × DataW H) → Nat
  | [] => 0
  | x :: r => uptoBulkEntry x + uptoBulkEntries r
def uptoBulkEntry {H : Type} : Lit × DataW H → Nat
  | (.string bytes, d) => bytes.length + uptoBulk d + 1
  | (_, d) => uptoBulk d + 1
 end
def uptoSmall : (H : Type) → List (DataW H) → Bool := fun _ ds => decide (uptoBulkAll ds ≤ 1048576)
def OpenSpec.upto (s : _root_.Go.ChangeSpec) : _root_.Go.OpenSpec := { _root_.Go.OpenSpec.ofChange s with cond := some uptoSmall }

/-- 'timetablelaw19.ConnsJoin', WHERE WHAT IT READS IS OF BULK AT MOST 1048576: true; the input reads as it did. -/
def connsJoinUptoRow : OpenClaim := { program := "ytechdefolfboeaagreatdoor", sum := "561c572b482018bbfa230682e14cba92f01ab578be9cbcf04d635ec8de83a2d4", func := "timetable/timetablelaw19.ConnsJoin", spec := "connsJoin", unfollowed := true, recurses := true, named := ["strings.asciiSpace", "unicode.White_Space"], apart := false, laid := [("unicode.White_Space", laid_unicode_White_Space), ("strings.asciiSpace", laid_strings_asciiSpace)], narrowed := true }
def ConnsJoinUptoSaid : Prop := connsJoinUptoRow.holds Tryz.pinned (OpenSpec.upto connsJoinSpec)

/-- 'timetablelaw19.ConnsRise', WHERE WHAT IT READS IS OF BULK AT MOST 1048576: true; the input reads as it did. -/
def connsRiseUptoRow : OpenClaim := { program := "ytechdefolfboeaagreatdoor", sum := "561c572b482018bbfa230682e14cba92f01ab578be9cbcf04d635ec8de83a2d4", func := "timetable/timetablelaw19.ConnsRise", spec := "connsRise", unfollowed := true, recurses := true, named := ["strings.asciiSpace", "unicode.White_Space"], apart := false, laid := [("unicode.White_Space", laid_unicode_White_Space), ("strings.asciiSpace", laid_strings_asciiSpace)], narrowed := true }
def ConnsRiseUptoSaid : Prop := connsRiseUptoRow.holds Tryz.pinned (OpenSpec.upto connsRiseSpec)

/-- 'timetablelaw19.ConnsParts', WHERE WHAT IT READS IS OF BULK AT MOST 1048576: true; the input reads as it did. -/
def connsPartsUptoRow : OpenClaim := { program := "ytechdefolfboeaagreatdoor", sum := "561c572b482018bbfa230682e14cba92f01ab578be9cbcf04d635ec8de83a2d4", func := "timetable/timetablelaw19.ConnsParts", spec := "connsParts", unfollowed := true, recurses := true, named := ["strings.asciiSpace", "unicode.White_Space"], apart := false, laid := [("unicode.White_Space", laid_unicode_White_Space), ("strings.asciiSpace", laid_strings_asciiSpace)], narrowed := true }
def ConnsPartsUptoSaid : Prop := connsPartsUptoRow.holds Tryz.pinned (OpenSpec.upto connsPartsSpec)

/-- 'timetablelaw19.ConnsNames', WHERE WHAT IT READS IS OF BULK AT MOST 1048576: true; the input reads as it did. -/
def connsNamesUptoRow : OpenClaim := { program := "ytechdefolfboeaagreatdoor", sum := "561c572b482018bbfa230682e14cba92f01ab578be9cbcf04d635ec8de83a2d4", func := "timetable/timetablelaw19.ConnsNames", spec := "connsNames", unfollowed := true, recurses := true, named := ["strings.asciiSpace", "unicode.White_Space"], apart := false, laid := [("unicode.White_Space", laid_unicode_White_Space), ("strings.asciiSpace", laid_strings_asciiSpace)], narrowed := true }
def ConnsNamesUptoSaid : Prop := connsNamesUptoRow.holds Tryz.pinned (OpenSpec.upto connsNamesSpec)

/-- 'timetablelaw19.ConnsCalls', WHERE WHAT IT READS IS OF BULK AT MOST 1048576: true; the input reads as it did. -/
def connsCallsUptoRow : OpenClaim := { program := "ytechdefolfboeaagreatdoor", sum := "561c572b482018bbfa230682e14cba92f01ab578be9cbcf04d635ec8de83a2d4", func := "timetable/timetablelaw19.ConnsCalls", spec := "connsCalls", unfollowed := true, recurses := true, named := ["strings.asciiSpace", "unicode.White_Space"], apart := false, laid := [("unicode.White_Space", laid_unicode_White_Space), ("strings.asciiSpace", laid_strings_asciiSpace)], narrowed := true }
def ConnsCallsUptoSaid : Prop := connsCallsUptoRow.holds Tryz.pinned (OpenSpec.upto connsCallsSpec)

/-- 'timetablelaw20.PatternOne', WHERE WHAT IT READS IS OF BULK AT MOST 1048576: true; the input reads as it did. -/
def patternOneUptoRow : OpenClaim := { program := "ytechdefolfboeaagreatdoor", sum := "561c572b482018bbfa230682e14cba92f01ab578be9cbcf04d635ec8de83a2d4", func := "timetable/timetablelaw20.PatternOne", spec := "patternOne", unfollowed := true, recurses := true, named := ["strings.asciiSpace", "unicode.White_Space"], apart := false, laid := [("unicode.White_Space", laid_unicode_White_Space), ("strings.asciiSpace", laid_strings_asciiSpace)], narrowed := true }
def PatternOneUptoSaid : Prop := patternOneUptoRow.holds Tryz.pinned (OpenSpec.upto patternOneSpec)

/-- 'timetablelaw20.PatternTurned', WHERE WHAT IT READS IS OF BULK AT MOST 1048576: true; the input reads as it did. -/
def patternTurnedUptoRow : OpenClaim := { program := "ytechdefolfboeaagreatdoor", sum := "561c572b482018bbfa230682e14cba92f01ab578be9cbcf04d635ec8de83a2d4", func := "timetable/timetablelaw20.PatternTurned", spec := "patternTurned", unfollowed := true, recurses := true, named := ["strings.asciiSpace", "unicode.White_Space"], apart := false, laid := [("unicode.White_Space", laid_unicode_White_Space), ("strings.asciiSpace", laid_strings_asciiSpace)], narrowed := true }
def PatternTurnedUptoSaid : Prop := patternTurnedUptoRow.holds Tryz.pinned (OpenSpec.upto patternTurnedSpec)

/-- 'timetablelaw20.PatternRows', WHERE WHAT IT READS IS OF BULK AT MOST 1048576: true; the input reads as it did. -/
def patternRowsUptoRow : OpenClaim := { program := "ytechdefolfboeaagreatdoor", sum := "561c572b482018bbfa230682e14cba92f01ab578be9cbcf04d635ec8de83a2d4", func := "timetable/timetablelaw20.PatternRows", spec := "patternRows", unfollowed := true, recurses := true, named := ["strings.asciiSpace", "unicode.White_Space"], apart := false, laid := [("unicode.White_Space", laid_unicode_White_Space), ("strings.asciiSpace", laid_strings_asciiSpace)], narrowed := true }
def PatternRowsUptoSaid : Prop := patternRowsUptoRow.holds Tryz.pinned (OpenSpec.upto patternRowsSpec)

/-- 'timetablelaw20.PatternNames', WHERE WHAT IT READS IS OF BULK AT MOST 1048576: true; the input reads as it did. -/
def patternNamesUptoRow : OpenClaim := { program := "ytechdefolfboeaagreatdoor", sum := "561c572b482018bbfa230682e14cba92f01ab578be9cbcf04d635ec8de83a2d4", func := "timetable/timetablelaw20.PatternNames", spec := "patternNames", unfollowed := true, recurses := true, named := ["strings.asciiSpace", "unicode.White_Space"], apart := false, laid := [("unicode.White_Space", laid_unicode_White_Space), ("strings.asciiSpace", laid_strings_asciiSpace)], narrowed := true }
def PatternNamesUptoSaid : Prop := patternNamesUptoRow.holds Tryz.pinned (OpenSpec.upto patternNamesSpec)

/-- 'timetablelaw20.PatternCalls', WHERE WHAT IT READS IS OF BULK AT MOST 1048576: true; the input reads as it did. -/
def patternCallsUptoRow : OpenClaim := { program := "ytechdefolfboeaagreatdoor", sum := "561c572b482018bbfa230682e14cba92f01ab578be9cbcf04d635ec8de83a2d4", func := "timetable/timetablelaw20.PatternCalls", spec := "patternCalls", unfollowed := true, recurses := true, named := ["strings.asciiSpace", "unicode.White_Space"], apart := false, laid := [("unicode.White_Space", laid_unicode_White_Space), ("strings.asciiSpace", laid_strings_asciiSpace)], narrowed := true }
def PatternCallsUptoSaid : Prop := patternCallsUptoRow.holds Tryz.pinned (OpenSpec.upto patternCallsSpec)

end Rows
end Go.Proofs.YtechdefolfboeaaGreatDoor
