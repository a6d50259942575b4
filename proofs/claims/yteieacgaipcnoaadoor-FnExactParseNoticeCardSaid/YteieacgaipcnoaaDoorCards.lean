/-
  DERIVED. GIVEN WITH THE SEED: THE CARDS: each row of YteieacgaipcnoaaDoorRows.lean that lists a variable, with what it lists TIED to the program's text (the seventh form; the later family's looks); each row that meets fmt, with fmt's text TOLD by the authors' own Lean function (tested against real Go, not proved from fmt's source: count such statements apart). THE CARD IS WHAT COUNTS. Prove the row's statement (the work); the ties are given (YteieacgaipcnoaaDoorTie.lean); close each card by the builder's one call (the guide's Derived/Test/ToyasCard.lean, 'card_holds'). Laid BY PROGRAM, IN A SANDBOX (cutbox-door.mjs). By AI agents, Wed Nov 11 2026. No macro, syntax, notation, axiom, sorry.
-/
import Derived.Test.YteieacgaipcnoaaDoorRows
import GoSem.ClaimSeven
namespace Go.Proofs.YteieacgaipcnoaaDoor
namespace Rows

/-- THE TIED CARD OF 'laws.FnExactParseMessage'. -/
def fnExactParseMessageCard : Claim7 := { stood := { row := fnExactParseMessageRow, standIns := [], harness := (true, "d31d25985bd641f2072019323469343fe914edeb2be2fb635d4a7e5c9a896b9d"), looks := false }, kinds := [], alts := [], laidByText := true, laidKinds := [.data, .data, .data, .data, .pinned], laidTests := true, laidLooks := .later }
def FnExactParseMessageCardSaid : Prop := Claim7.holds Tryd.pinned (.plain (OpenSpec.ofChange fnExactParseMessageSpec)) fnExactParseMessageCard

/-- THE TIED CARD OF 'laws.FnExactParseNotice'. -/
def fnExactParseNoticeCard : Claim7 := { stood := { row := fnExactParseNoticeRow, standIns := [], harness := (true, "d31d25985bd641f2072019323469343fe914edeb2be2fb635d4a7e5c9a896b9d"), looks := false }, kinds := [], alts := [], laidByText := true, laidKinds := [.data, .data, .data, .data, .pinned], laidTests := true, laidLooks := .later }
def FnExactParseNoticeCardSaid : Prop := Claim7.holds Tryd.pinned (.plain (OpenSpec.ofChange fnExactParseNoticeSpec)) fnExactParseNoticeCard

/-- THE SECOND FORM's CARD OF 'laws.FnExactParseMessage'. -/
def fnExactParseMessageUptoCard : Claim7 := { stood := { row := fnExactParseMessageUptoRow, standIns := [], harness := (true, "d31d25985bd641f2072019323469343fe914edeb2be2fb635d4a7e5c9a896b9d"), looks := false }, kinds := [], alts := [], laidByText := true, laidKinds := [.data, .data, .data, .data, .pinned], laidTests := true, laidLooks := .later }
def FnExactParseMessageUptoCardSaid : Prop := Claim7.holds Tryd.pinned (.plain (OpenSpec.upto fnExactParseMessageSpec)) fnExactParseMessageUptoCard

/-- THE SECOND FORM's CARD OF 'laws.FnExactParseNotice'. -/
def fnExactParseNoticeUptoCard : Claim7 := { stood := { row := fnExactParseNoticeUptoRow, standIns := [], harness := (true, "d31d25985bd641f2072019323469343fe914edeb2be2fb635d4a7e5c9a896b9d"), looks := false }, kinds := [], alts := [], laidByText := true, laidKinds := [.data, .data, .data, .data, .pinned], laidTests := true, laidLooks := .later }
def FnExactParseNoticeUptoCardSaid : Prop := Claim7.holds Tryd.pinned (.plain (OpenSpec.upto fnExactParseNoticeSpec)) fnExactParseNoticeUptoCard
end Rows
end Go.Proofs.YteieacgaipcnoaaDoor
