/-
  DERIVED. GIVEN WITH THE SEED: THE CARDS: each row of YtimaoofeephgjaaGreatDoorRows.lean that lists a variable, with what it lists TIED to the program's text (the seventh form; the later family's looks); each row that meets fmt, with fmt's text TOLD by the authors' own Lean function (tested against real Go, not proved from fmt's source: count such statements apart). THE CARD IS WHAT COUNTS. Prove the row's statement (the work); the ties are given (YtimaoofeephgjaaGreatDoorTie.lean); close each card by the builder's one call (the guide's Derived/Test/ToyasCard.lean, 'card_holds'). Laid BY PROGRAM, IN A SANDBOX (cutbox-door.mjs). By AI agents, Wed Nov 11 2026. No macro, syntax, notation, axiom, sorry.
-/
import Derived.Test.YtimaoofeephgjaaGreatDoorRows
import GoSem.ClaimSeven
namespace Go.Proofs.YtimaoofeephgjaaGreatDoor
namespace Rows

/-- THE TIED CARD OF 'laws.FnTimetableText'. -/
def fnTimetableTextCard : Claim7 := { stood := { row := fnTimetableTextRow, standIns := [], harness := (true, "de82cda242ddb6425a4459a6b7a7c39f07dbf134553347ec52706db7999b2a37"), looks := false }, kinds := [], alts := [], laidByText := true, laidKinds := [.data, .data, .data, .data, .pinned], laidTests := true, laidLooks := .later }
def FnTimetableTextCardSaid : Prop := Claim7.holds Tryz.pinned (.plain (OpenSpec.ofChange fnTimetableTextSpec)) fnTimetableTextCard

/-- THE TIED CARD OF 'laws.FnBoards'. -/
def fnBoardsCard : Claim7 := { stood := { row := fnBoardsRow, standIns := [], harness := (true, "de82cda242ddb6425a4459a6b7a7c39f07dbf134553347ec52706db7999b2a37"), looks := false }, kinds := [], alts := [], laidByText := true, laidKinds := [.data, .data, .data], laidTests := true, laidLooks := .later }
def FnBoardsCardSaid : Prop := Claim7.holds Tryz.pinned (.plain (OpenSpec.ofChange fnBoardsSpec)) fnBoardsCard

/-- THE SECOND FORM's CARD OF 'laws.FnTimetableText'. -/
def fnTimetableTextUptoCard : Claim7 := { stood := { row := fnTimetableTextUptoRow, standIns := [], harness := (true, "de82cda242ddb6425a4459a6b7a7c39f07dbf134553347ec52706db7999b2a37"), looks := false }, kinds := [], alts := [], laidByText := true, laidKinds := [.data, .data, .data, .data, .pinned], laidTests := true, laidLooks := .later }
def FnTimetableTextUptoCardSaid : Prop := Claim7.holds Tryz.pinned (.plain (OpenSpec.upto fnTimetableTextSpec)) fnTimetableTextUptoCard

/-- THE SECOND FORM's CARD OF 'laws.FnBoards'. -/
def fnBoardsUptoCard : Claim7 := { stood := { row := fnBoardsUptoRow, standIns := [], harness := (true, "de82cda242ddb6425a4459a6b7a7c39f07dbf134553347ec52706db7999b2a37"), looks := false }, kinds := [], alts := [], laidByText := true, laidKinds := [.data, .data, .data], laidTests := true, laidLooks := .later }
def FnBoardsUptoCardSaid : Prop := Claim7.holds Tryz.pinned (.plain (OpenSpec.upto fnBoardsSpec)) fnBoardsUptoCard
end Rows
end Go.Proofs.YtimaoofeephgjaaGreatDoor
