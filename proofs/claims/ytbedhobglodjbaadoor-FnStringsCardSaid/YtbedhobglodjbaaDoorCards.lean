/-
  DERIVED. GIVEN WITH THE SEED: THE CARDS: each row of YtbedhobglodjbaaDoorRows.lean that lists a variable, with what it lists TIED to the program's text (the seventh form; the later family's looks); each row that meets fmt, with fmt's text TOLD by the authors' own Lean function (tested against real Go, not proved from fmt's source: count such statements apart). THE CARD IS WHAT COUNTS. Prove the row's statement (the work); the ties are given (YtbedhobglodjbaaDoorTie.lean); close each card by the builder's one call (the guide's Derived/Test/ToyasCard.lean, 'card_holds'). Laid BY PROGRAM, IN A SANDBOX (cutbox-door.mjs). By AI agents, Wed Nov 11 2026. No macro, syntax, notation, axiom, sorry.
-/
import Derived.Test.YtbedhobglodjbaaDoorRows
import GoSem.ClaimSeven
namespace Go.Proofs.YtbedhobglodjbaaDoor
namespace Rows

/-- THE TIED CARD OF 'laws.FnSplitJoin'. -/
def fnSplitJoinCard : Claim7 := { stood := { row := fnSplitJoinRow, standIns := [], harness := (true, "16d858018d79896000705a7fa8c25e246f8ba2eca386bd65ece8264472d20389"), looks := false }, kinds := [], alts := [], laidByText := true, laidKinds := [.data, .pinned], laidTests := true, laidLooks := .later }
def FnSplitJoinCardSaid : Prop := Claim7.holds Tryd.pinned (.plain (OpenSpec.ofChange fnSplitJoinSpec)) fnSplitJoinCard

/-- THE TIED CARD OF 'laws.FnStrings'. -/
def fnStringsCard : Claim7 := { stood := { row := fnStringsRow, standIns := [], harness := (true, "16d858018d79896000705a7fa8c25e246f8ba2eca386bd65ece8264472d20389"), looks := false }, kinds := [], alts := [], laidByText := true, laidKinds := [.data, .data, .data], laidTests := true, laidLooks := .later }
def FnStringsCardSaid : Prop := Claim7.holds Tryd.pinned (.plain (OpenSpec.ofChange fnStringsSpec)) fnStringsCard

/-- THE TIED CARD OF 'laws.FnLog'. -/
def fnLogCard : Claim7 := { stood := { row := fnLogRow, standIns := [], harness := (true, "16d858018d79896000705a7fa8c25e246f8ba2eca386bd65ece8264472d20389"), looks := false }, kinds := [], alts := [], laidByText := true, laidKinds := [.data, .data, .data], laidTests := true, laidLooks := .later }
def FnLogCardSaid : Prop := Claim7.holds Tryd.pinned (.plain (OpenSpec.ofChange fnLogSpec)) fnLogCard

/-- THE TIED CARD OF 'laws.FnLogLines'. -/
def fnLogLinesCard : Claim7 := { stood := { row := fnLogLinesRow, standIns := [], harness := (true, "16d858018d79896000705a7fa8c25e246f8ba2eca386bd65ece8264472d20389"), looks := false }, kinds := [], alts := [], laidByText := true, laidKinds := [.data, .data, .data], laidTests := true, laidLooks := .later }
def FnLogLinesCardSaid : Prop := Claim7.holds Tryd.pinned (.plain (OpenSpec.ofChange fnLogLinesSpec)) fnLogLinesCard

/-- THE TIED CARD OF 'laws.FnCrashRecovery'. -/
def fnCrashRecoveryCard : Claim7 := { stood := { row := fnCrashRecoveryRow, standIns := [], harness := (true, "16d858018d79896000705a7fa8c25e246f8ba2eca386bd65ece8264472d20389"), looks := false }, kinds := [], alts := [], laidByText := true, laidKinds := [.data, .data, .data], laidTests := true, laidLooks := .later }
def FnCrashRecoveryCardSaid : Prop := Claim7.holds Tryd.pinned (.plain (OpenSpec.ofChange fnCrashRecoverySpec)) fnCrashRecoveryCard

/-- THE TIED CARD OF 'laws.FnExactParseMessage'. -/
def fnExactParseMessageCard : Claim7 := { stood := { row := fnExactParseMessageRow, standIns := [], harness := (true, "16d858018d79896000705a7fa8c25e246f8ba2eca386bd65ece8264472d20389"), looks := false }, kinds := [], alts := [], laidByText := true, laidKinds := [.data, .data, .data, .data, .pinned], laidTests := true, laidLooks := .later }
def FnExactParseMessageCardSaid : Prop := Claim7.holds Tryd.pinned (.plain (OpenSpec.ofChange fnExactParseMessageSpec)) fnExactParseMessageCard

/-- THE TIED CARD OF 'laws.FnExactParseNotice'. -/
def fnExactParseNoticeCard : Claim7 := { stood := { row := fnExactParseNoticeRow, standIns := [], harness := (true, "16d858018d79896000705a7fa8c25e246f8ba2eca386bd65ece8264472d20389"), looks := false }, kinds := [], alts := [], laidByText := true, laidKinds := [.data, .data, .data, .data, .pinned], laidTests := true, laidLooks := .later }
def FnExactParseNoticeCardSaid : Prop := Claim7.holds Tryd.pinned (.plain (OpenSpec.ofChange fnExactParseNoticeSpec)) fnExactParseNoticeCard

/-- THE TIED CARD OF 'laws.FnCalendars'. -/
def fnCalendarsCard : Claim7 := { stood := { row := fnCalendarsRow, standIns := [], harness := (true, "16d858018d79896000705a7fa8c25e246f8ba2eca386bd65ece8264472d20389"), looks := false }, kinds := [], alts := [], laidByText := true, laidKinds := [.data, .data, .data], laidTests := true, laidLooks := .later }
def FnCalendarsCardSaid : Prop := Claim7.holds Tryd.pinned (.plain (OpenSpec.ofChange fnCalendarsSpec)) fnCalendarsCard

/-- THE SECOND FORM's CARD OF 'laws.FnSplitJoin'. -/
def fnSplitJoinUptoCard : Claim7 := { stood := { row := fnSplitJoinUptoRow, standIns := [], harness := (true, "16d858018d79896000705a7fa8c25e246f8ba2eca386bd65ece8264472d20389"), looks := false }, kinds := [], alts := [], laidByText := true, laidKinds := [.data, .pinned], laidTests := true, laidLooks := .later }
def FnSplitJoinUptoCardSaid : Prop := Claim7.holds Tryd.pinned (.plain (OpenSpec.upto fnSplitJoinSpec)) fnSplitJoinUptoCard

/-- THE SECOND FORM's CARD OF 'laws.FnStrings'. -/
def fnStringsUptoCard : Claim7 := { stood := { row := fnStringsUptoRow, standIns := [], harness := (true, "16d858018d79896000705a7fa8c25e246f8ba2eca386bd65ece8264472d20389"), looks := false }, kinds := [], alts := [], laidByText := true, laidKinds := [.data, .data, .data], laidTests := true, laidLooks := .later }
def FnStringsUptoCardSaid : Prop := Claim7.holds Tryd.pinned (.plain (OpenSpec.upto fnStringsSpec)) fnStringsUptoCard

/-- THE SECOND FORM's CARD OF 'laws.FnLog'. -/
def fnLogUptoCard : Claim7 := { stood := { row := fnLogUptoRow, standIns := [], harness := (true, "16d858018d79896000705a7fa8c25e246f8ba2eca386bd65ece8264472d20389"), looks := false }, kinds := [], alts := [], laidByText := true, laidKinds := [.data, .data, .data], laidTests := true, laidLooks := .later }
def FnLogUptoCardSaid : Prop := Claim7.holds Tryd.pinned (.plain (OpenSpec.upto fnLogSpec)) fnLogUptoCard

/-- THE SECOND FORM's CARD OF 'laws.FnLogLines'. -/
def fnLogLinesUptoCard : Claim7 := { stood := { row := fnLogLinesUptoRow, standIns := [], harness := (true, "16d858018d79896000705a7fa8c25e246f8ba2eca386bd65ece8264472d20389"), looks := false }, kinds := [], alts := [], laidByText := true, laidKinds := [.data, .data, .data], laidTests := true, laidLooks := .later }
def FnLogLinesUptoCardSaid : Prop := Claim7.holds Tryd.pinned (.plain (OpenSpec.upto fnLogLinesSpec)) fnLogLinesUptoCard

/-- THE SECOND FORM's CARD OF 'laws.FnCrashRecovery'. -/
def fnCrashRecoveryUptoCard : Claim7 := { stood := { row := fnCrashRecoveryUptoRow, standIns := [], harness := (true, "16d858018d79896000705a7fa8c25e246f8ba2eca386bd65ece8264472d20389"), looks := false }, kinds := [], alts := [], laidByText := true, laidKinds := [.data, .data, .data], laidTests := true, laidLooks := .later }
def FnCrashRecoveryUptoCardSaid : Prop := Claim7.holds Tryd.pinned (.plain (OpenSpec.upto fnCrashRecoverySpec)) fnCrashRecoveryUptoCard

/-- THE SECOND FORM's CARD OF 'laws.FnExactParseMessage'. -/
def fnExactParseMessageUptoCard : Claim7 := { stood := { row := fnExactParseMessageUptoRow, standIns := [], harness := (true, "16d858018d79896000705a7fa8c25e246f8ba2eca386bd65ece8264472d20389"), looks := false }, kinds := [], alts := [], laidByText := true, laidKinds := [.data, .data, .data, .data, .pinned], laidTests := true, laidLooks := .later }
def FnExactParseMessageUptoCardSaid : Prop := Claim7.holds Tryd.pinned (.plain (OpenSpec.upto fnExactParseMessageSpec)) fnExactParseMessageUptoCard

/-- THE SECOND FORM's CARD OF 'laws.FnExactParseNotice'. -/
def fnExactParseNoticeUptoCard : Claim7 := { stood := { row := fnExactParseNoticeUptoRow, standIns := [], harness := (true, "16d858018d79896000705a7fa8c25e246f8ba2eca386bd65ece8264472d20389"), looks := false }, kinds := [], alts := [], laidByText := true, laidKinds := [.data, .data, .data, .data, .pinned], laidTests := true, laidLooks := .later }
def FnExactParseNoticeUptoCardSaid : Prop := Claim7.holds Tryd.pinned (.plain (OpenSpec.upto fnExactParseNoticeSpec)) fnExactParseNoticeUptoCard

/-- THE SECOND FORM's CARD OF 'laws.FnCalendars'. -/
def fnCalendarsUptoCard : Claim7 := { stood := { row := fnCalendarsUptoRow, standIns := [], harness := (true, "16d858018d79896000705a7fa8c25e246f8ba2eca386bd65ece8264472d20389"), looks := false }, kinds := [], alts := [], laidByText := true, laidKinds := [.data, .data, .data], laidTests := true, laidLooks := .later }
def FnCalendarsUptoCardSaid : Prop := Claim7.holds Tryd.pinned (.plain (OpenSpec.upto fnCalendarsSpec)) fnCalendarsUptoCard
end Rows
end Go.Proofs.YtbedhobglodjbaaDoor
