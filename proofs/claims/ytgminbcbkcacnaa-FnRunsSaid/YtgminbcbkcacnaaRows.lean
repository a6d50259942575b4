/-
  No cell of these rows narrows 'for every input' (looked for: loops, veiled, ifaces, maps, wideKeys, modest, calm, conditions, laid).
  DERIVED. THE GIVEN ROWS OF THIS SEAT. 10 by the template 'for every input the law returns true; each argument reads behind the call as it read before'; 0 by the template 'total and deterministic' (their statements: YtgminbcbkcacnaaTotals.lean).
  GIVEN WITH THE SEED: the statements are not yours to turn. If you find one false, say at which input.
  Laid BY PROGRAM, IN A SANDBOX (cutbox-rows.mjs): the forced cells as the released guide's own fill.sh prints them over the translation 6da7389d0198a7a1… (all of the seat's roots in one cut). By AI agents, Wed Nov 11 2026. No macro, syntax, notation, axiom, sorry.
-/
import Derived.Test.YtgminbcbkcacnaaChecked
import GoSem.Claim
import GoSem.ClaimJoined
import GoSem.ClaimMapViews
import Derived.JoinedTies
import Derived.KernelRfl
namespace Go.Proofs.Ytgminbcbkcacnaa
/- THE CELL 'sum', in the pinned program and in every row, IS THE sha256 OF THE DUMP (.gsa) THAT YtgminbcbkcacnaaProg.lean LOADS. Nothing in Lean hashes anything: it is a label: what it is worth is what the hold of that sum in a sandbox is worth. -/
noncomputable def Try.pinned : Pinned := { name := "ytgminbcbkcacnaa", sum := "6da7389d0198a7a11474b446b475ee4c8e8e510d069b21beb5a7dacb72332975", checked := Try.checked }
namespace Rows
def none {H : Type} : Left H := { results := [], args := [] }

/-- 'laws.FnSlack': WHATEVER THE INPUT: true; the input reads as it did. -/
def fnSlackSpec : ChangeSpec := { name := "fnSlack", fn := fun _ => fun
  | [d] => { results := [.lit (.bool true)], args := [d] }
  | _ => none }
def fnSlackRow : OpenClaim := { program := "ytgminbcbkcacnaa", sum := "6da7389d0198a7a11474b446b475ee4c8e8e510d069b21beb5a7dacb72332975", func := "loop.example/g00900/laws.FnSlack", spec := "fnSlack", unfollowed := true, recurses := true, apart := false }
def FnSlackSaid : Prop := fnSlackRow.holds Try.pinned (OpenSpec.ofChange fnSlackSpec)

/-- ITS FALSE NEIGHBOUR: 'it returns false'. Refute it at one input. -/
def fnSlackWrong : ChangeSpec := { name := "fnSlack", fn := fun _ => fun
  | [d] => { results := [.lit (.bool false)], args := [d] }
  | _ => none }
def FnSlackWrongFalsely : Prop := fnSlackRow.holds Try.pinned (OpenSpec.ofChange fnSlackWrong)

/-- 'laws.FnJourneyTimes': WHATEVER THE INPUT: true; the input reads as it did. -/
def fnJourneyTimesSpec : ChangeSpec := { name := "fnJourneyTimes", fn := fun _ => fun
  | [d] => { results := [.lit (.bool true)], args := [d] }
  | _ => none }
def fnJourneyTimesRow : OpenClaim := { program := "ytgminbcbkcacnaa", sum := "6da7389d0198a7a11474b446b475ee4c8e8e510d069b21beb5a7dacb72332975", func := "loop.example/g00900/laws.FnJourneyTimes", spec := "fnJourneyTimes", unfollowed := true, recurses := true, apart := false }
def FnJourneyTimesSaid : Prop := fnJourneyTimesRow.holds Try.pinned (OpenSpec.ofChange fnJourneyTimesSpec)

/-- ITS FALSE NEIGHBOUR: 'it returns false'. Refute it at one input. -/
def fnJourneyTimesWrong : ChangeSpec := { name := "fnJourneyTimes", fn := fun _ => fun
  | [d] => { results := [.lit (.bool false)], args := [d] }
  | _ => none }
def FnJourneyTimesWrongFalsely : Prop := fnJourneyTimesRow.holds Try.pinned (OpenSpec.ofChange fnJourneyTimesWrong)

/-- 'laws.FnPareto': WHATEVER THE INPUT: true; the input reads as it did. -/
def fnParetoSpec : ChangeSpec := { name := "fnPareto", fn := fun _ => fun
  | [d] => { results := [.lit (.bool true)], args := [d] }
  | _ => none }
def fnParetoRow : OpenClaim := { program := "ytgminbcbkcacnaa", sum := "6da7389d0198a7a11474b446b475ee4c8e8e510d069b21beb5a7dacb72332975", func := "loop.example/g00900/laws.FnPareto", spec := "fnPareto", unfollowed := true, recurses := true, apart := false }
def FnParetoSaid : Prop := fnParetoRow.holds Try.pinned (OpenSpec.ofChange fnParetoSpec)

/-- ITS FALSE NEIGHBOUR: 'it returns false'. Refute it at one input. -/
def fnParetoWrong : ChangeSpec := { name := "fnPareto", fn := fun _ => fun
  | [d] => { results := [.lit (.bool false)], args := [d] }
  | _ => none }
def FnParetoWrongFalsely : Prop := fnParetoRow.holds Try.pinned (OpenSpec.ofChange fnParetoWrong)

/-- 'laws.FnTrips': WHATEVER THE INPUT: true; the input reads as it did. -/
def fnTripsSpec : ChangeSpec := { name := "fnTrips", fn := fun _ => fun
  | [d] => { results := [.lit (.bool true)], args := [d] }
  | _ => none }
def fnTripsRow : OpenClaim := { program := "ytgminbcbkcacnaa", sum := "6da7389d0198a7a11474b446b475ee4c8e8e510d069b21beb5a7dacb72332975", func := "loop.example/g00900/laws.FnTrips", spec := "fnTrips", inPlace := ["slices.overlaps[loop.example/g00900/impl.Trip]"], unfollowed := true, recurses := true, apart := false }
def FnTripsSaid : Prop := fnTripsRow.holds Try.pinned (OpenSpec.ofChange fnTripsSpec)

/-- ITS FALSE NEIGHBOUR: 'it returns false'. Refute it at one input. -/
def fnTripsWrong : ChangeSpec := { name := "fnTrips", fn := fun _ => fun
  | [d] => { results := [.lit (.bool false)], args := [d] }
  | _ => none }
def FnTripsWrongFalsely : Prop := fnTripsRow.holds Try.pinned (OpenSpec.ofChange fnTripsWrong)

/-- 'laws.FnNotices': WHATEVER THE INPUT: true; the input reads as it did. -/
def fnNoticesSpec : ChangeSpec := { name := "fnNotices", fn := fun _ => fun
  | [d] => { results := [.lit (.bool true)], args := [d] }
  | _ => none }
def fnNoticesRow : OpenClaim := { program := "ytgminbcbkcacnaa", sum := "6da7389d0198a7a11474b446b475ee4c8e8e510d069b21beb5a7dacb72332975", func := "loop.example/g00900/laws.FnNotices", spec := "fnNotices", unfollowed := true, recurses := true, apart := false }
def FnNoticesSaid : Prop := fnNoticesRow.holds Try.pinned (OpenSpec.ofChange fnNoticesSpec)

/-- ITS FALSE NEIGHBOUR: 'it returns false'. Refute it at one input. -/
def fnNoticesWrong : ChangeSpec := { name := "fnNotices", fn := fun _ => fun
  | [d] => { results := [.lit (.bool false)], args := [d] }
  | _ => none }
def FnNoticesWrongFalsely : Prop := fnNoticesRow.holds Try.pinned (OpenSpec.ofChange fnNoticesWrong)

/-- 'laws.FnDepartures': WHATEVER THE INPUT: true; the input reads as it did. -/
def fnDeparturesSpec : ChangeSpec := { name := "fnDepartures", fn := fun _ => fun
  | [d] => { results := [.lit (.bool true)], args := [d] }
  | _ => none }
def fnDeparturesRow : OpenClaim := { program := "ytgminbcbkcacnaa", sum := "6da7389d0198a7a11474b446b475ee4c8e8e510d069b21beb5a7dacb72332975", func := "loop.example/g00900/laws.FnDepartures", spec := "fnDepartures", unfollowed := true, recurses := true, apart := false }
def FnDeparturesSaid : Prop := fnDeparturesRow.holds Try.pinned (OpenSpec.ofChange fnDeparturesSpec)

/-- ITS FALSE NEIGHBOUR: 'it returns false'. Refute it at one input. -/
def fnDeparturesWrong : ChangeSpec := { name := "fnDepartures", fn := fun _ => fun
  | [d] => { results := [.lit (.bool false)], args := [d] }
  | _ => none }
def FnDeparturesWrongFalsely : Prop := fnDeparturesRow.holds Try.pinned (OpenSpec.ofChange fnDeparturesWrong)

/-- 'laws.FnGaps': WHATEVER THE INPUT: true; the input reads as it did. -/
def fnGapsSpec : ChangeSpec := { name := "fnGaps", fn := fun _ => fun
  | [d] => { results := [.lit (.bool true)], args := [d] }
  | _ => none }
def fnGapsRow : OpenClaim := { program := "ytgminbcbkcacnaa", sum := "6da7389d0198a7a11474b446b475ee4c8e8e510d069b21beb5a7dacb72332975", func := "loop.example/g00900/laws.FnGaps", spec := "fnGaps", recurses := true, apart := false }
def FnGapsSaid : Prop := fnGapsRow.holds Try.pinned (OpenSpec.ofChange fnGapsSpec)

/-- ITS FALSE NEIGHBOUR: 'it returns false'. Refute it at one input. -/
def fnGapsWrong : ChangeSpec := { name := "fnGaps", fn := fun _ => fun
  | [d] => { results := [.lit (.bool false)], args := [d] }
  | _ => none }
def FnGapsWrongFalsely : Prop := fnGapsRow.holds Try.pinned (OpenSpec.ofChange fnGapsWrong)

/-- 'laws.FnRuns': WHATEVER THE INPUT: true; the input reads as it did. -/
def fnRunsSpec : ChangeSpec := { name := "fnRuns", fn := fun _ => fun
  | [d] => { results := [.lit (.bool true)], args := [d] }
  | _ => none }
def fnRunsRow : OpenClaim := { program := "ytgminbcbkcacnaa", sum := "6da7389d0198a7a11474b446b475ee4c8e8e510d069b21beb5a7dacb72332975", func := "loop.example/g00900/laws.FnRuns", spec := "fnRuns", unfollowed := true, recurses := true, apart := false }
def FnRunsSaid : Prop := fnRunsRow.holds Try.pinned (OpenSpec.ofChange fnRunsSpec)

/-- ITS FALSE NEIGHBOUR: 'it returns false'. Refute it at one input. -/
def fnRunsWrong : ChangeSpec := { name := "fnRuns", fn := fun _ => fun
  | [d] => { results := [.lit (.bool false)], args := [d] }
  | _ => none }
def FnRunsWrongFalsely : Prop := fnRunsRow.holds Try.pinned (OpenSpec.ofChange fnRunsWrong)

/-- 'laws.FnOffsets': WHATEVER THE INPUT: true; the input reads as it did. -/
def fnOffsetsSpec : ChangeSpec := { name := "fnOffsets", fn := fun _ => fun
  | [d] => { results := [.lit (.bool true)], args := [d] }
  | _ => none }
def fnOffsetsRow : OpenClaim := { program := "ytgminbcbkcacnaa", sum := "6da7389d0198a7a11474b446b475ee4c8e8e510d069b21beb5a7dacb72332975", func := "loop.example/g00900/laws.FnOffsets", spec := "fnOffsets", unfollowed := true, recurses := true, apart := false }
def FnOffsetsSaid : Prop := fnOffsetsRow.holds Try.pinned (OpenSpec.ofChange fnOffsetsSpec)

/-- ITS FALSE NEIGHBOUR: 'it returns false'. Refute it at one input. -/
def fnOffsetsWrong : ChangeSpec := { name := "fnOffsets", fn := fun _ => fun
  | [d] => { results := [.lit (.bool false)], args := [d] }
  | _ => none }
def FnOffsetsWrongFalsely : Prop := fnOffsetsRow.holds Try.pinned (OpenSpec.ofChange fnOffsetsWrong)

/-- 'laws.FnProfile': WHATEVER THE INPUT: true; the input reads as it did. -/
def fnProfileSpec : ChangeSpec := { name := "fnProfile", fn := fun _ => fun
  | [d] => { results := [.lit (.bool true)], args := [d] }
  | _ => none }
def fnProfileRow : OpenClaim := { program := "ytgminbcbkcacnaa", sum := "6da7389d0198a7a11474b446b475ee4c8e8e510d069b21beb5a7dacb72332975", func := "loop.example/g00900/laws.FnProfile", spec := "fnProfile", unfollowed := true, recurses := true, apart := false }
def FnProfileSaid : Prop := fnProfileRow.holds Try.pinned (OpenSpec.ofChange fnProfileSpec)

/-- ITS FALSE NEIGHBOUR: 'it returns false'. Refute it at one input. -/
def fnProfileWrong : ChangeSpec := { name := "fnProfile", fn := fun _ => fun
  | [d] => { results := [.lit (.bool false)], args := [d] }
  | _ => none }
def FnProfileWrongFalsely : Prop := fnProfileRow.holds Try.pinned (OpenSpec.ofChange fnProfileWrong)

/- THE SECOND FORM. 'bulk': how many values and letters a reading holds, each counted each time it is reached (what is shared counts as often as it is met; a slice's spare places count too). A statement '..UptoSaid' is the law's where the arguments, and the package variables that the reading takes, are together of bulk at most 1048576: NARROWER than '..Said'. Prove '..Said' where nothing that the law and all that it calls make is longer than what came in: it says more and counts as full. Else prove '..UptoSaid'. A law counts once. -/
mutual
def uptoBulk {H : Type} : DataW H → Nat
  | .lit (.string bytes) => bytes.length + 1
  | .lit _ => 1
  | .nil => 1
  | .ptr d => uptoBulk d + 1
  | .slice elems spare => uptoBulkAll elems + uptoBulkAll spare + 1
  | .agg parts => uptoBulkAll parts + 1
  | .iface _ d => uptoBulk d + 1
  | .map entries => uptoBulkEntries entries + 1
  | .held _ => 1
def uptoBulkAll {H : Type} : List (DataW H) → Nat
  | [] => 0
  | d :: r => uptoBulk d + uptoBulkAll r
def uptoBulkEntries {H : Type} : List (Lit × DataW H) → Nat
  | [] => 0
  | x :: r => uptoBulkEntry x + uptoBulkEntries r
def uptoBulkEntry {H : Type} : Lit × DataW H → Nat
  | (.string bytes, d) => bytes.length + uptoBulk d + 1
  | (_, d) => uptoBulk d + 1
 end
def uptoSmall : (H : Type) → List (DataW H) → Bool := fun _ ds => decide (uptoBulkAll ds ≤ 1048576)
def OpenSpec.upto (s : _root_.Go.ChangeSpec) : _root_.Go.OpenSpec := { _root_.Go.OpenSpec.ofChange s with cond := some uptoSmall }

/-- 'laws.FnSlack', WHERE WHAT IT READS IS OF BULK AT MOST 1048576: true; the input reads as it did. -/
def fnSlackUptoRow : OpenClaim := { program := "ytgminbcbkcacnaa", sum := "6da7389d0198a7a11474b446b475ee4c8e8e510d069b21beb5a7dacb72332975", func := "loop.example/g00900/laws.FnSlack", spec := "fnSlack", unfollowed := true, recurses := true, apart := false, narrowed := true }
def FnSlackUptoSaid : Prop := fnSlackUptoRow.holds Try.pinned (OpenSpec.upto fnSlackSpec)

/-- 'laws.FnJourneyTimes', WHERE WHAT IT READS IS OF BULK AT MOST 1048576: true; the input reads as it did. -/
def fnJourneyTimesUptoRow : OpenClaim := { program := "ytgminbcbkcacnaa", sum := "6da7389d0198a7a11474b446b475ee4c8e8e510d069b21beb5a7dacb72332975", func := "loop.example/g00900/laws.FnJourneyTimes", spec := "fnJourneyTimes", unfollowed := true, recurses := true, apart := false, narrowed := true }
def FnJourneyTimesUptoSaid : Prop := fnJourneyTimesUptoRow.holds Try.pinned (OpenSpec.upto fnJourneyTimesSpec)

/-- 'laws.FnPareto', WHERE WHAT IT READS IS OF BULK AT MOST 1048576: true; the input reads as it did. -/
def fnParetoUptoRow : OpenClaim := { program := "ytgminbcbkcacnaa", sum := "6da7389d0198a7a11474b446b475ee4c8e8e510d069b21beb5a7dacb72332975", func := "loop.example/g00900/laws.FnPareto", spec := "fnPareto", unfollowed := true, recurses := true, apart := false, narrowed := true }
def FnParetoUptoSaid : Prop := fnParetoUptoRow.holds Try.pinned (OpenSpec.upto fnParetoSpec)

/-- 'laws.FnTrips', WHERE WHAT IT READS IS OF BULK AT MOST 1048576: true; the input reads as it did. -/
def fnTripsUptoRow : OpenClaim := { program := "ytgminbcbkcacnaa", sum := "6da7389d0198a7a11474b446b475ee4c8e8e510d069b21beb5a7dacb72332975", func := "loop.example/g00900/laws.FnTrips", spec := "fnTrips", inPlace := ["slices.overlaps[loop.example/g00900/impl.Trip]"], unfollowed := true, recurses := true, apart := false, narrowed := true }
def FnTripsUptoSaid : Prop := fnTripsUptoRow.holds Try.pinned (OpenSpec.upto fnTripsSpec)

/-- 'laws.FnNotices', WHERE WHAT IT READS IS OF BULK AT MOST 1048576: true; the input reads as it did. -/
def fnNoticesUptoRow : OpenClaim := { program := "ytgminbcbkcacnaa", sum := "6da7389d0198a7a11474b446b475ee4c8e8e510d069b21beb5a7dacb72332975", func := "loop.example/g00900/laws.FnNotices", spec := "fnNotices", unfollowed := true, recurses := true, apart := false, narrowed := true }
def FnNoticesUptoSaid : Prop := fnNoticesUptoRow.holds Try.pinned (OpenSpec.upto fnNoticesSpec)

/-- 'laws.FnDepartures', WHERE WHAT IT READS IS OF BULK AT MOST 1048576: true; the input reads as it did. -/
def fnDeparturesUptoRow : OpenClaim := { program := "ytgminbcbkcacnaa", sum := "6da7389d0198a7a11474b446b475ee4c8e8e510d069b21beb5a7dacb72332975", func := "loop.example/g00900/laws.FnDepartures", spec := "fnDepartures", unfollowed := true, recurses := true, apart := false, narrowed := true }
def FnDeparturesUptoSaid : Prop := fnDeparturesUptoRow.holds Try.pinned (OpenSpec.upto fnDeparturesSpec)

/-- 'laws.FnGaps', WHERE WHAT IT READS IS OF BULK AT MOST 1048576: true; the input reads as it did. -/
def fnGapsUptoRow : OpenClaim := { program := "ytgminbcbkcacnaa", sum := "6da7389d0198a7a11474b446b475ee4c8e8e510d069b21beb5a7dacb72332975", func := "loop.example/g00900/laws.FnGaps", spec := "fnGaps", recurses := true, apart := false, narrowed := true }
def FnGapsUptoSaid : Prop := fnGapsUptoRow.holds Try.pinned (OpenSpec.upto fnGapsSpec)

/-- 'laws.FnRuns', WHERE WHAT IT READS IS OF BULK AT MOST 1048576: true; the input reads as it did. -/
def fnRunsUptoRow : OpenClaim := { program := "ytgminbcbkcacnaa", sum := "6da7389d0198a7a11474b446b475ee4c8e8e510d069b21beb5a7dacb72332975", func := "loop.example/g00900/laws.FnRuns", spec := "fnRuns", unfollowed := true, recurses := true, apart := false, narrowed := true }
def FnRunsUptoSaid : Prop := fnRunsUptoRow.holds Try.pinned (OpenSpec.upto fnRunsSpec)

/-- 'laws.FnOffsets', WHERE WHAT IT READS IS OF BULK AT MOST 1048576: true; the input reads as it did. -/
def fnOffsetsUptoRow : OpenClaim := { program := "ytgminbcbkcacnaa", sum := "6da7389d0198a7a11474b446b475ee4c8e8e510d069b21beb5a7dacb72332975", func := "loop.example/g00900/laws.FnOffsets", spec := "fnOffsets", unfollowed := true, recurses := true, apart := false, narrowed := true }
def FnOffsetsUptoSaid : Prop := fnOffsetsUptoRow.holds Try.pinned (OpenSpec.upto fnOffsetsSpec)

/-- 'laws.FnProfile', WHERE WHAT IT READS IS OF BULK AT MOST 1048576: true; the input reads as it did. -/
def fnProfileUptoRow : OpenClaim := { program := "ytgminbcbkcacnaa", sum := "6da7389d0198a7a11474b446b475ee4c8e8e510d069b21beb5a7dacb72332975", func := "loop.example/g00900/laws.FnProfile", spec := "fnProfile", unfollowed := true, recurses := true, apart := false, narrowed := true }
def FnProfileUptoSaid : Prop := fnProfileUptoRow.holds Try.pinned (OpenSpec.upto fnProfileSpec)

end Rows
end Go.Proofs.Ytgminbcbkcacnaa
