/-
  No cell of these rows narrows 'for every input' (looked for: loops, veiled, ifaces, maps, wideKeys, modest, calm, conditions, laid).
  DERIVED. THE GIVEN ROWS OF THIS SEAT. 9 by the template 'for every input the law returns true; each argument reads behind the call as it read before'; 0 by the template 'total and deterministic' (their statements: YtfknbpimkleimaaTotals.lean).
  GIVEN WITH THE SEED: the statements are not yours to turn. If you find one false, say at which input.
  Laid BY PROGRAM, IN A SANDBOX (cutbox-rows.mjs): the forced cells as the released guide's own fill.sh prints them over the translation b4728bc2b2c4aa38… (all of the seat's roots in one cut). By AI agents, Wed Nov 11 2026. No macro, syntax, notation, axiom, sorry.
-/
import Derived.Test.YtfknbpimkleimaaChecked
import GoSem.Claim
import GoSem.ClaimJoined
import GoSem.ClaimMapViews
import Derived.JoinedTies
import Derived.KernelRfl
namespace Go.Proofs.Ytfknbpimkleimaa
/- THE CELL 'sum', in the pinned program and in every row, IS THE sha256 OF THE DUMP (.gsa) THAT YtfknbpimkleimaaProg.lean LOADS. Nothing in Lean hashes anything: it is a label: what it is worth is what the hold of that sum in a sandbox is worth. -/
noncomputable def Try.pinned : Pinned := { name := "ytfknbpimkleimaa", sum := "b4728bc2b2c4aa3891d017630696ab2a9f5df7c42a30c868093c42feaff5ffd9", checked := Try.checked }
namespace Rows
def none {H : Type} : Left H := { results := [], args := [] }

/-- 'laws.FnWalking': WHATEVER THE INPUT: true; the input reads as it did. -/
def fnWalkingSpec : ChangeSpec := { name := "fnWalking", fn := fun _ => fun
  | [d] => { results := [.lit (.bool true)], args := [d] }
  | _ => none }
def fnWalkingRow : OpenClaim := { program := "ytfknbpimkleimaa", sum := "b4728bc2b2c4aa3891d017630696ab2a9f5df7c42a30c868093c42feaff5ffd9", func := "loop.example/g00900/laws.FnWalking", spec := "fnWalking", unfollowed := true, recurses := true, plainKeys := false, apart := false }
def FnWalkingSaid : Prop := fnWalkingRow.holds Try.pinned (OpenSpec.ofChange fnWalkingSpec)

/-- ITS FALSE NEIGHBOUR: 'it returns false'. Refute it at one input. -/
def fnWalkingWrong : ChangeSpec := { name := "fnWalking", fn := fun _ => fun
  | [d] => { results := [.lit (.bool false)], args := [d] }
  | _ => none }
def FnWalkingWrongFalsely : Prop := fnWalkingRow.holds Try.pinned (OpenSpec.ofChange fnWalkingWrong)

/-- 'laws.FnTracks': WHATEVER THE INPUT: true; the input reads as it did. -/
def fnTracksSpec : ChangeSpec := { name := "fnTracks", fn := fun _ => fun
  | [d] => { results := [.lit (.bool true)], args := [d] }
  | _ => none }
def fnTracksRow : OpenClaim := { program := "ytfknbpimkleimaa", sum := "b4728bc2b2c4aa3891d017630696ab2a9f5df7c42a30c868093c42feaff5ffd9", func := "loop.example/g00900/laws.FnTracks", spec := "fnTracks", unfollowed := true, recurses := true, plainKeys := false, apart := false }
def FnTracksSaid : Prop := fnTracksRow.holds Try.pinned (OpenSpec.ofChange fnTracksSpec)

/-- ITS FALSE NEIGHBOUR: 'it returns false'. Refute it at one input. -/
def fnTracksWrong : ChangeSpec := { name := "fnTracks", fn := fun _ => fun
  | [d] => { results := [.lit (.bool false)], args := [d] }
  | _ => none }
def FnTracksWrongFalsely : Prop := fnTracksRow.holds Try.pinned (OpenSpec.ofChange fnTracksWrong)

/-- 'laws.FnPareto': WHATEVER THE INPUT: true; the input reads as it did. -/
def fnParetoSpec : ChangeSpec := { name := "fnPareto", fn := fun _ => fun
  | [d] => { results := [.lit (.bool true)], args := [d] }
  | _ => none }
def fnParetoRow : OpenClaim := { program := "ytfknbpimkleimaa", sum := "b4728bc2b2c4aa3891d017630696ab2a9f5df7c42a30c868093c42feaff5ffd9", func := "loop.example/g00900/laws.FnPareto", spec := "fnPareto", unfollowed := true, recurses := true, plainKeys := false, apart := false }
def FnParetoSaid : Prop := fnParetoRow.holds Try.pinned (OpenSpec.ofChange fnParetoSpec)

/-- ITS FALSE NEIGHBOUR: 'it returns false'. Refute it at one input. -/
def fnParetoWrong : ChangeSpec := { name := "fnPareto", fn := fun _ => fun
  | [d] => { results := [.lit (.bool false)], args := [d] }
  | _ => none }
def FnParetoWrongFalsely : Prop := fnParetoRow.holds Try.pinned (OpenSpec.ofChange fnParetoWrong)

/-- 'laws.FnTrips': WHATEVER THE INPUT: true; the input reads as it did. -/
def fnTripsSpec : ChangeSpec := { name := "fnTrips", fn := fun _ => fun
  | [d] => { results := [.lit (.bool true)], args := [d] }
  | _ => none }
def fnTripsRow : OpenClaim := { program := "ytfknbpimkleimaa", sum := "b4728bc2b2c4aa3891d017630696ab2a9f5df7c42a30c868093c42feaff5ffd9", func := "loop.example/g00900/laws.FnTrips", spec := "fnTrips", inPlace := ["slices.overlaps[loop.example/g00900/impl.Trip]"], unfollowed := true, recurses := true, plainKeys := false, apart := false }
def FnTripsSaid : Prop := fnTripsRow.holds Try.pinned (OpenSpec.ofChange fnTripsSpec)

/-- ITS FALSE NEIGHBOUR: 'it returns false'. Refute it at one input. -/
def fnTripsWrong : ChangeSpec := { name := "fnTrips", fn := fun _ => fun
  | [d] => { results := [.lit (.bool false)], args := [d] }
  | _ => none }
def FnTripsWrongFalsely : Prop := fnTripsRow.holds Try.pinned (OpenSpec.ofChange fnTripsWrong)

/-- 'laws.FnFares': WHATEVER THE INPUT: true; the input reads as it did. -/
def fnFaresSpec : ChangeSpec := { name := "fnFares", fn := fun _ => fun
  | [d] => { results := [.lit (.bool true)], args := [d] }
  | _ => none }
def fnFaresRow : OpenClaim := { program := "ytfknbpimkleimaa", sum := "b4728bc2b2c4aa3891d017630696ab2a9f5df7c42a30c868093c42feaff5ffd9", func := "loop.example/g00900/laws.FnFares", spec := "fnFares", unfollowed := true, recurses := true, plainKeys := false, apart := false }
def FnFaresSaid : Prop := fnFaresRow.holds Try.pinned (OpenSpec.ofChange fnFaresSpec)

/-- ITS FALSE NEIGHBOUR: 'it returns false'. Refute it at one input. -/
def fnFaresWrong : ChangeSpec := { name := "fnFares", fn := fun _ => fun
  | [d] => { results := [.lit (.bool false)], args := [d] }
  | _ => none }
def FnFaresWrongFalsely : Prop := fnFaresRow.holds Try.pinned (OpenSpec.ofChange fnFaresWrong)

/-- 'laws.FnNotices': WHATEVER THE INPUT: true; the input reads as it did. -/
def fnNoticesSpec : ChangeSpec := { name := "fnNotices", fn := fun _ => fun
  | [d] => { results := [.lit (.bool true)], args := [d] }
  | _ => none }
def fnNoticesRow : OpenClaim := { program := "ytfknbpimkleimaa", sum := "b4728bc2b2c4aa3891d017630696ab2a9f5df7c42a30c868093c42feaff5ffd9", func := "loop.example/g00900/laws.FnNotices", spec := "fnNotices", unfollowed := true, recurses := true, plainKeys := false, apart := false }
def FnNoticesSaid : Prop := fnNoticesRow.holds Try.pinned (OpenSpec.ofChange fnNoticesSpec)

/-- ITS FALSE NEIGHBOUR: 'it returns false'. Refute it at one input. -/
def fnNoticesWrong : ChangeSpec := { name := "fnNotices", fn := fun _ => fun
  | [d] => { results := [.lit (.bool false)], args := [d] }
  | _ => none }
def FnNoticesWrongFalsely : Prop := fnNoticesRow.holds Try.pinned (OpenSpec.ofChange fnNoticesWrong)

/-- 'laws.FnBlocks': WHATEVER THE INPUT: true; the input reads as it did. -/
def fnBlocksSpec : ChangeSpec := { name := "fnBlocks", fn := fun _ => fun
  | [d] => { results := [.lit (.bool true)], args := [d] }
  | _ => none }
def fnBlocksRow : OpenClaim := { program := "ytfknbpimkleimaa", sum := "b4728bc2b2c4aa3891d017630696ab2a9f5df7c42a30c868093c42feaff5ffd9", func := "loop.example/g00900/laws.FnBlocks", spec := "fnBlocks", unfollowed := true, recurses := true, plainKeys := false, apart := false }
def FnBlocksSaid : Prop := fnBlocksRow.holds Try.pinned (OpenSpec.ofChange fnBlocksSpec)

/-- ITS FALSE NEIGHBOUR: 'it returns false'. Refute it at one input. -/
def fnBlocksWrong : ChangeSpec := { name := "fnBlocks", fn := fun _ => fun
  | [d] => { results := [.lit (.bool false)], args := [d] }
  | _ => none }
def FnBlocksWrongFalsely : Prop := fnBlocksRow.holds Try.pinned (OpenSpec.ofChange fnBlocksWrong)

/-- 'laws.FnRepeat': WHATEVER THE INPUT: true; the input reads as it did. -/
def fnRepeatSpec : ChangeSpec := { name := "fnRepeat", fn := fun _ => fun
  | [d] => { results := [.lit (.bool true)], args := [d] }
  | _ => none }
def fnRepeatRow : OpenClaim := { program := "ytfknbpimkleimaa", sum := "b4728bc2b2c4aa3891d017630696ab2a9f5df7c42a30c868093c42feaff5ffd9", func := "loop.example/g00900/laws.FnRepeat", spec := "fnRepeat", inPlace := ["slices.overlaps[loop.example/g00900/impl.Trip]"], unfollowed := true, recurses := true, plainKeys := false, apart := false }
def FnRepeatSaid : Prop := fnRepeatRow.holds Try.pinned (OpenSpec.ofChange fnRepeatSpec)

/-- ITS FALSE NEIGHBOUR: 'it returns false'. Refute it at one input. -/
def fnRepeatWrong : ChangeSpec := { name := "fnRepeat", fn := fun _ => fun
  | [d] => { results := [.lit (.bool false)], args := [d] }
  | _ => none }
def FnRepeatWrongFalsely : Prop := fnRepeatRow.holds Try.pinned (OpenSpec.ofChange fnRepeatWrong)

/-- 'laws.FnBoarding': WHATEVER THE INPUT: true; the input reads as it did. -/
def fnBoardingSpec : ChangeSpec := { name := "fnBoarding", fn := fun _ => fun
  | [d] => { results := [.lit (.bool true)], args := [d] }
  | _ => none }
def fnBoardingRow : OpenClaim := { program := "ytfknbpimkleimaa", sum := "b4728bc2b2c4aa3891d017630696ab2a9f5df7c42a30c868093c42feaff5ffd9", func := "loop.example/g00900/laws.FnBoarding", spec := "fnBoarding", unfollowed := true, recurses := true, plainKeys := false, apart := false }
def FnBoardingSaid : Prop := fnBoardingRow.holds Try.pinned (OpenSpec.ofChange fnBoardingSpec)

/-- ITS FALSE NEIGHBOUR: 'it returns false'. Refute it at one input. -/
def fnBoardingWrong : ChangeSpec := { name := "fnBoarding", fn := fun _ => fun
  | [d] => { results := [.lit (.bool false)], args := [d] }
  | _ => none }
def FnBoardingWrongFalsely : Prop := fnBoardingRow.holds Try.pinned (OpenSpec.ofChange fnBoardingWrong)

/- THE SECOND FORM. 'bulk': how many values and letters a reading holds, each counted each time it is reached (what is shared counts as often as it is met; a slice's spare places count too). A statement '..UptoSaid' is the law's where the arguments, and the package variables that the reading takes, are together of bulk at most 1048576: NARROWER than '..Said'. Prove '..Said' where nothing that the law and all that it calls make is longer than what came in: it says more and counts as full. Else prove '..UptoSaid'. A law counts once. -/
mutual
def uptoBulk {H : Type} : DataW H → Nat
  | .lit (.string bytes) => bytes.length + 1
  | .lit _ => 1
  | .nil => 1
  | .ptr d => uptoBulk d + 1
  | .slice elems spare => uptoBulkAll elems + uptoBulkAll spare + 1
  | .agg parts => uptoBulkAll parts + 1
  | .iface _ d => uptoBulk d + 1
  | .map entries => uptoBulkEntries entries + 1
  | .held _ => 1
def uptoBulkAll {H : Type} : List (DataW H) → Nat
  | [] => 0
  | d :: r => uptoBulk d + uptoBulkAll r
def uptoBulkEntries {H : Type} : List (Lit × DataW H) → Nat
  | [] => 0
  | x :: r => uptoBulkEntry x + uptoBulkEntries r
def uptoBulkEntry {H : Type} : Lit × DataW H → Nat
  | (.string bytes, d) => bytes.length + uptoBulk d + 1
  | (_, d) => uptoBulk d + 1
 end
def uptoSmall : (H : Type) → List (DataW H) → Bool := fun _ ds => decide (uptoBulkAll ds ≤ 1048576)
def OpenSpec.upto (s : _root_.Go.ChangeSpec) : _root_.Go.OpenSpec := { _root_.Go.OpenSpec.ofChange s with cond := some uptoSmall }

/-- 'laws.FnWalking', WHERE WHAT IT READS IS OF BULK AT MOST 1048576: true; the input reads as it did. -/
def fnWalkingUptoRow : OpenClaim := { program := "ytfknbpimkleimaa", sum := "b4728bc2b2c4aa3891d017630696ab2a9f5df7c42a30c868093c42feaff5ffd9", func := "loop.example/g00900/laws.FnWalking", spec := "fnWalking", unfollowed := true, recurses := true, plainKeys := false, apart := false, narrowed := true }
def FnWalkingUptoSaid : Prop := fnWalkingUptoRow.holds Try.pinned (OpenSpec.upto fnWalkingSpec)

/-- 'laws.FnTracks', WHERE WHAT IT READS IS OF BULK AT MOST 1048576: true; the input reads as it did. -/
def fnTracksUptoRow : OpenClaim := { program := "ytfknbpimkleimaa", sum := "b4728bc2b2c4aa3891d017630696ab2a9f5df7c42a30c868093c42feaff5ffd9", func := "loop.example/g00900/laws.FnTracks", spec := "fnTracks", unfollowed := true, recurses := true, plainKeys := false, apart := false, narrowed := true }
def FnTracksUptoSaid : Prop := fnTracksUptoRow.holds Try.pinned (OpenSpec.upto fnTracksSpec)

/-- 'laws.FnPareto', WHERE WHAT IT READS IS OF BULK AT MOST 1048576: true; the input reads as it did. -/
def fnParetoUptoRow : OpenClaim := { program := "ytfknbpimkleimaa", sum := "b4728bc2b2c4aa3891d017630696ab2a9f5df7c42a30c868093c42feaff5ffd9", func := "loop.example/g00900/laws.FnPareto", spec := "fnPareto", unfollowed := true, recurses := true, plainKeys := false, apart := false, narrowed := true }
def FnParetoUptoSaid : Prop := fnParetoUptoRow.holds Try.pinned (OpenSpec.upto fnParetoSpec)

/-- 'laws.FnTrips', WHERE WHAT IT READS IS OF BULK AT MOST 1048576: true; the input reads as it did. -/
def fnTripsUptoRow : OpenClaim := { program := "ytfknbpimkleimaa", sum := "b4728bc2b2c4aa3891d017630696ab2a9f5df7c42a30c868093c42feaff5ffd9", func := "loop.example/g00900/laws.FnTrips", spec := "fnTrips", inPlace := ["slices.overlaps[loop.example/g00900/impl.Trip]"], unfollowed := true, recurses := true, plainKeys := false, apart := false, narrowed := true }
def FnTripsUptoSaid : Prop := fnTripsUptoRow.holds Try.pinned (OpenSpec.upto fnTripsSpec)

/-- 'laws.FnFares', WHERE WHAT IT READS IS OF BULK AT MOST 1048576: true; the input reads as it did. -/
def fnFaresUptoRow : OpenClaim := { program := "ytfknbpimkleimaa", sum := "b4728bc2b2c4aa3891d017630696ab2a9f5df7c42a30c868093c42feaff5ffd9", func := "loop.example/g00900/laws.FnFares", spec := "fnFares", unfollowed := true, recurses := true, plainKeys := false, apart := false, narrowed := true }
def FnFaresUptoSaid : Prop := fnFaresUptoRow.holds Try.pinned (OpenSpec.upto fnFaresSpec)

/-- 'laws.FnNotices', WHERE WHAT IT READS IS OF BULK AT MOST 1048576: true; the input reads as it did. -/
def fnNoticesUptoRow : OpenClaim := { program := "ytfknbpimkleimaa", sum := "b4728bc2b2c4aa3891d017630696ab2a9f5df7c42a30c868093c42feaff5ffd9", func := "loop.example/g00900/laws.FnNotices", spec := "fnNotices", unfollowed := true, recurses := true, plainKeys := false, apart := false, narrowed := true }
def FnNoticesUptoSaid : Prop := fnNoticesUptoRow.holds Try.pinned (OpenSpec.upto fnNoticesSpec)

/-- 'laws.FnBlocks', WHERE WHAT IT READS IS OF BULK AT MOST 1048576: true; the input reads as it did. -/
def fnBlocksUptoRow : OpenClaim := { program := "ytfknbpimkleimaa", sum := "b4728bc2b2c4aa3891d017630696ab2a9f5df7c42a30c868093c42feaff5ffd9", func := "loop.example/g00900/laws.FnBlocks", spec := "fnBlocks", unfollowed := true, recurses := true, plainKeys := false, apart := false, narrowed := true }
def FnBlocksUptoSaid : Prop := fnBlocksUptoRow.holds Try.pinned (OpenSpec.upto fnBlocksSpec)

/-- 'laws.FnRepeat', WHERE WHAT IT READS IS OF BULK AT MOST 1048576: true; the input reads as it did. -/
def fnRepeatUptoRow : OpenClaim := { program := "ytfknbpimkleimaa", sum := "b4728bc2b2c4aa3891d017630696ab2a9f5df7c42a30c868093c42feaff5ffd9", func := "loop.example/g00900/laws.FnRepeat", spec := "fnRepeat", inPlace := ["slices.overlaps[loop.example/g00900/impl.Trip]"], unfollowed := true, recurses := true, plainKeys := false, apart := false, narrowed := true }
def FnRepeatUptoSaid : Prop := fnRepeatUptoRow.holds Try.pinned (OpenSpec.upto fnRepeatSpec)

/-- 'laws.FnBoarding', WHERE WHAT IT READS IS OF BULK AT MOST 1048576: true; the input reads as it did. -/
def fnBoardingUptoRow : OpenClaim := { program := "ytfknbpimkleimaa", sum := "b4728bc2b2c4aa3891d017630696ab2a9f5df7c42a30c868093c42feaff5ffd9", func := "loop.example/g00900/laws.FnBoarding", spec := "fnBoarding", unfollowed := true, recurses := true, plainKeys := false, apart := false, narrowed := true }
def FnBoardingUptoSaid : Prop := fnBoardingUptoRow.holds Try.pinned (OpenSpec.upto fnBoardingSpec)

end Rows
end Go.Proofs.Ytfknbpimkleimaa
