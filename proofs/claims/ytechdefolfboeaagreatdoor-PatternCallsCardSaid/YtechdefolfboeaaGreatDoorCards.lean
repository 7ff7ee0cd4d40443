/-
  DERIVED. GIVEN WITH THE SEED: THE CARDS: each row of YtechdefolfboeaaGreatDoorRows.lean that lists a variable, with what it lists TIED to the program's text (the seventh form; the later family's looks); each row that meets fmt, with fmt's text TOLD by the authors' own Lean function (tested against real Go, not proved from fmt's source: count such statements apart). THE CARD IS WHAT COUNTS. Prove the row's statement (the work); the ties are given (YtechdefolfboeaaGreatDoorTie.lean); close each card by the builder's one call (the guide's Derived/Test/ToyasCard.lean, 'card_holds'). Laid BY PROGRAM, IN A SANDBOX (cutbox-door.mjs). By AI agents, Wed Nov 11 2026. No macro, syntax, notation, axiom, sorry.
-/
import Derived.Test.YtechdefolfboeaaGreatDoorRows
import GoSem.ClaimSeven
namespace Go.Proofs.YtechdefolfboeaaGreatDoor
namespace Rows

/-- THE TIED CARD OF 'timetablelaw19.ConnsJoin'. -/
def connsJoinCard : Claim7 := { stood := { row := connsJoinRow, standIns := [], harness := (true, "7569926c1cfb2272c56ec4f02052a37d0a6030a90264692b0abf0a966db7bd9e"), looks := false }, kinds := [], alts := [], laidByText := true, laidKinds := [.listed, .data], laidTests := true, laidLooks := .later }
def ConnsJoinCardSaid : Prop := Claim7.holds Tryz.pinned (.plain (OpenSpec.ofChange connsJoinSpec)) connsJoinCard

/-- THE TIED CARD OF 'timetablelaw19.ConnsRise'. -/
def connsRiseCard : Claim7 := { stood := { row := connsRiseRow, standIns := [], harness := (true, "7569926c1cfb2272c56ec4f02052a37d0a6030a90264692b0abf0a966db7bd9e"), looks := false }, kinds := [], alts := [], laidByText := true, laidKinds := [.listed, .data], laidTests := true, laidLooks := .later }
def ConnsRiseCardSaid : Prop := Claim7.holds Tryz.pinned (.plain (OpenSpec.ofChange connsRiseSpec)) connsRiseCard

/-- THE TIED CARD OF 'timetablelaw19.ConnsParts'. -/
def connsPartsCard : Claim7 := { stood := { row := connsPartsRow, standIns := [], harness := (true, "7569926c1cfb2272c56ec4f02052a37d0a6030a90264692b0abf0a966db7bd9e"), looks := false }, kinds := [], alts := [], laidByText := true, laidKinds := [.listed, .data], laidTests := true, laidLooks := .later }
def ConnsPartsCardSaid : Prop := Claim7.holds Tryz.pinned (.plain (OpenSpec.ofChange connsPartsSpec)) connsPartsCard

/-- THE TIED CARD OF 'timetablelaw19.ConnsNames'. -/
def connsNamesCard : Claim7 := { stood := { row := connsNamesRow, standIns := [], harness := (true, "7569926c1cfb2272c56ec4f02052a37d0a6030a90264692b0abf0a966db7bd9e"), looks := false }, kinds := [], alts := [], laidByText := true, laidKinds := [.listed, .data], laidTests := true, laidLooks := .later }
def ConnsNamesCardSaid : Prop := Claim7.holds Tryz.pinned (.plain (OpenSpec.ofChange connsNamesSpec)) connsNamesCard

/-- THE TIED CARD OF 'timetablelaw19.ConnsCalls'. -/
def connsCallsCard : Claim7 := { stood := { row := connsCallsRow, standIns := [], harness := (true, "7569926c1cfb2272c56ec4f02052a37d0a6030a90264692b0abf0a966db7bd9e"), looks := false }, kinds := [], alts := [], laidByText := true, laidKinds := [.listed, .data], laidTests := true, laidLooks := .later }
def ConnsCallsCardSaid : Prop := Claim7.holds Tryz.pinned (.plain (OpenSpec.ofChange connsCallsSpec)) connsCallsCard

/-- THE TIED CARD OF 'timetablelaw20.PatternOne'. -/
def patternOneCard : Claim7 := { stood := { row := patternOneRow, standIns := [], harness := (true, "7569926c1cfb2272c56ec4f02052a37d0a6030a90264692b0abf0a966db7bd9e"), looks := false }, kinds := [], alts := [], laidByText := true, laidKinds := [.listed, .data], laidTests := true, laidLooks := .later }
def PatternOneCardSaid : Prop := Claim7.holds Tryz.pinned (.plain (OpenSpec.ofChange patternOneSpec)) patternOneCard

/-- THE TIED CARD OF 'timetablelaw20.PatternTurned'. -/
def patternTurnedCard : Claim7 := { stood := { row := patternTurnedRow, standIns := [], harness := (true, "7569926c1cfb2272c56ec4f02052a37d0a6030a90264692b0abf0a966db7bd9e"), looks := false }, kinds := [], alts := [], laidByText := true, laidKinds := [.listed, .data], laidTests := true, laidLooks := .later }
def PatternTurnedCardSaid : Prop := Claim7.holds Tryz.pinned (.plain (OpenSpec.ofChange patternTurnedSpec)) patternTurnedCard

/-- THE TIED CARD OF 'timetablelaw20.PatternRows'. -/
def patternRowsCard : Claim7 := { stood := { row := patternRowsRow, standIns := [], harness := (true, "7569926c1cfb2272c56ec4f02052a37d0a6030a90264692b0abf0a966db7bd9e"), looks := false }, kinds := [], alts := [], laidByText := true, laidKinds := [.listed, .data], laidTests := true, laidLooks := .later }
def PatternRowsCardSaid : Prop := Claim7.holds Tryz.pinned (.plain (OpenSpec.ofChange patternRowsSpec)) patternRowsCard

/-- THE TIED CARD OF 'timetablelaw20.PatternNames'. -/
def patternNamesCard : Claim7 := { stood := { row := patternNamesRow, standIns := [], harness := (true, "7569926c1cfb2272c56ec4f02052a37d0a6030a90264692b0abf0a966db7bd9e"), looks := false }, kinds := [], alts := [], laidByText := true, laidKinds := [.listed, .data], laidTests := true, laidLooks := .later }
def PatternNamesCardSaid : Prop := Claim7.holds Tryz.pinned (.plain (OpenSpec.ofChange patternNamesSpec)) patternNamesCard

/-- THE TIED CARD OF 'timetablelaw20.PatternCalls'. -/
def patternCallsCard : Claim7 := { stood := { row := patternCallsRow, standIns := [], harness := (true, "7569926c1cfb2272c56ec4f02052a37d0a6030a90264692b0abf0a966db7bd9e"), looks := false }, kinds := [], alts := [], laidByText := true, laidKinds := [.listed, .data], laidTests := true, laidLooks := .later }
def PatternCallsCardSaid : Prop := Claim7.holds Tryz.pinned (.plain (OpenSpec.ofChange patternCallsSpec)) patternCallsCard

/-- THE SECOND FORM's CARD OF 'timetablelaw19.ConnsJoin'. -/
def connsJoinUptoCard : Claim7 := { stood := { row := connsJoinUptoRow, standIns := [], harness := (true, "7569926c1cfb2272c56ec4f02052a37d0a6030a90264692b0abf0a966db7bd9e"), looks := false }, kinds := [], alts := [], laidByText := true, laidKinds := [.listed, .data], laidTests := true, laidLooks := .later }
def ConnsJoinUptoCardSaid : Prop := Claim7.holds Tryz.pinned (.plain (OpenSpec.upto connsJoinSpec)) connsJoinUptoCard

/-- THE SECOND FORM's CARD OF 'timetablelaw19.ConnsRise'. -/
def connsRiseUptoCard : Claim7 := { stood := { row := connsRiseUptoRow, standIns := [], harness := (true, "7569926c1cfb2272c56ec4f02052a37d0a6030a90264692b0abf0a966db7bd9e"), looks := false }, kinds := [], alts := [], laidByText := true, laidKinds := [.listed, .data], laidTests := true, laidLooks := .later }
def ConnsRiseUptoCardSaid : Prop := Claim7.holds Tryz.pinned (.plain (OpenSpec.upto connsRiseSpec)) connsRiseUptoCard

/-- THE SECOND FORM's CARD OF 'timetablelaw19.ConnsParts'. -/
def connsPartsUptoCard : Claim7 := { stood := { row := connsPartsUptoRow, standIns := [], harness := (true, "7569926c1cfb2272c56ec4f02052a37d0a6030a90264692b0abf0a966db7bd9e"), looks := false }, kinds := [], alts := [], laidByText := true, laidKinds := [.listed, .data], laidTests := true, laidLooks := .later }
def ConnsPartsUptoCardSaid : Prop := Claim7.holds Tryz.pinned (.plain (OpenSpec.upto connsPartsSpec)) connsPartsUptoCard

/-- THE SECOND FORM's CARD OF 'timetablelaw19.ConnsNames'. -/
def connsNamesUptoCard : Claim7 := { stood := { row := connsNamesUptoRow, standIns := [], harness := (true, "7569926c1cfb2272c56ec4f02052a37d0a6030a90264692b0abf0a966db7bd9e"), looks := false }, kinds := [], alts := [], laidByText := true, laidKinds := [.listed, .data], laidTests := true, laidLooks := .later }
def ConnsNamesUptoCardSaid : Prop := Claim7.holds Tryz.pinned (.plain (OpenSpec.upto connsNamesSpec)) connsNamesUptoCard

/-- THE SECOND FORM's CARD OF 'timetablelaw19.ConnsCalls'. -/
def connsCallsUptoCard : Claim7 := { stood := { row := connsCallsUptoRow, standIns := [], harness := (true, "7569926c1cfb2272c56ec4f02052a37d0a6030a90264692b0abf0a966db7bd9e"), looks := false }, kinds := [], alts := [], laidByText := true, laidKinds := [.listed, .data], laidTests := true, laidLooks := .later }
def ConnsCallsUptoCardSaid : Prop := Claim7.holds Tryz.pinned (.plain (OpenSpec.upto connsCallsSpec)) connsCallsUptoCard

/-- THE SECOND FORM's CARD OF 'timetablelaw20.PatternOne'. -/
def patternOneUptoCard : Claim7 := { stood := { row := patternOneUptoRow, standIns := [], harness := (true, "7569926c1cfb2272c56ec4f02052a37d0a6030a90264692b0abf0a966db7bd9e"), looks := false }, kinds := [], alts := [], laidByText := true, laidKinds := [.listed, .data], laidTests := true, laidLooks := .later }
def PatternOneUptoCardSaid : Prop := Claim7.holds Tryz.pinned (.plain (OpenSpec.upto patternOneSpec)) patternOneUptoCard

/-- THE SECOND FORM's CARD OF 'timetablelaw20.PatternTurned'. -/
def patternTurnedUptoCard : Claim7 := { stood := { row := patternTurnedUptoRow, standIns := [], harness := (true, "7569926c1cfb2272c56ec4f02052a37d0a6030a90264692b0abf0a966db7bd9e"), looks := false }, kinds := [], alts := [], laidByText := true, laidKinds := [.listed, .data], laidTests := true, laidLooks := .later }
def PatternTurnedUptoCardSaid : Prop := Claim7.holds Tryz.pinned (.plain (OpenSpec.upto patternTurnedSpec)) patternTurnedUptoCard

/-- THE SECOND FORM's CARD OF 'timetablelaw20.PatternRows'. -/
def patternRowsUptoCard : Claim7 := { stood := { row := patternRowsUptoRow, standIns := [], harness := (true, "7569926c1cfb2272c56ec4f02052a37d0a6030a90264692b0abf0a966db7bd9e"), looks := false }, kinds := [], alts := [], laidByText := true, laidKinds := [.listed, .data], laidTests := true, laidLooks := .later }
def PatternRowsUptoCardSaid : Prop := Claim7.holds Tryz.pinned (.plain (OpenSpec.upto patternRowsSpec)) patternRowsUptoCard

/-- THE SECOND FORM's CARD OF 'timetablelaw20.PatternNames'. -/
def patternNamesUptoCard : Claim7 := { stood := { row := patternNamesUptoRow, standIns := [], harness := (true, "7569926c1cfb2272c56ec4f02052a37d0a6030a90264692b0abf0a966db7bd9e"), looks := false }, kinds := [], alts := [], laidByText := true, laidKinds := [.listed, .data], laidTests := true, laidLooks := .later }
def PatternNamesUptoCardSaid : Prop := Claim7.holds Tryz.pinned (.plain (OpenSpec.upto patternNamesSpec)) patternNamesUptoCard

/-- THE SECOND FORM's CARD OF 'timetablelaw20.PatternCalls'. -/
def patternCallsUptoCard : Claim7 := { stood := { row := patternCallsUptoRow, standIns := [], harness := (true, "7569926c1cfb2272c56ec4f02052a37d0a6030a90264692b0abf0a966db7bd9e"), looks := false }, kinds := [], alts := [], laidByText := true, laidKinds := [.listed, .data], laidTests := true, laidLooks := .later }
def PatternCallsUptoCardSaid : Prop := Claim7.holds Tryz.pinned (.plain (OpenSpec.upto patternCallsSpec)) patternCallsUptoCard
end Rows
end Go.Proofs.YtechdefolfboeaaGreatDoor
