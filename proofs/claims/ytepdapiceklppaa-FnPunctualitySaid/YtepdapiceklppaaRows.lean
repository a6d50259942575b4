/-
  No cell of these rows narrows 'for every input' (looked for: loops, veiled, ifaces, maps, wideKeys, modest, calm, conditions, laid).
  DERIVED. THE GIVEN ROWS OF THIS SEAT. 6 by the template 'for every input the law returns true; each argument reads behind the call as it read before'; 0 by the template 'total and deterministic' (their statements: YtepdapiceklppaaTotals.lean).
  GIVEN WITH THE SEED: the statements are not yours to turn. If you find one false, say at which input.
  Laid BY PROGRAM, IN A SANDBOX (cutbox-rows.mjs): the forced cells as the released guide's own fill.sh prints them over the translation c7ab865d9faf447b… (all of the seat's roots in one cut). By AI agents, Wed Nov 11 2026. No macro, syntax, notation, axiom, sorry.
-/
import Derived.Test.YtepdapiceklppaaChecked
import GoSem.Claim
import GoSem.ClaimJoined
import GoSem.ClaimMapViews
import Derived.JoinedTies
import Derived.KernelRfl
namespace Go.Proofs.Ytepdapiceklppaa
/- THE CELL 'sum', in the pinned program and in every row, IS THE sha256 OF THE DUMP (.gsa) THAT YtepdapiceklppaaProg.lean LOADS. Nothing in Lean hashes anything: it is a label: what it is worth is what the hold of that sum in a sandbox is worth. -/
noncomputable def Try.pinned : Pinned := { name := "ytepdapiceklppaa", sum := "c7ab865d9faf447b51277f18359bfd197d29b297989bc5c46dcfc74eaddf7760", checked := Try.checked }
namespace Rows
def none {H : Type} : Left H := { results := [], args := [] }

/-- 'laws.FnRosters': WHATEVER THE INPUT: true; the input reads as it did. -/
def fnRostersSpec : ChangeSpec := { name := "fnRosters", fn := fun _ => fun
  | [d] => { results := [.lit (.bool true)], args := [d] }
  | _ => none }
def fnRostersRow : OpenClaim := { program := "ytepdapiceklppaa", sum := "c7ab865d9faf447b51277f18359bfd197d29b297989bc5c46dcfc74eaddf7760", func := "loop.example/g00900/laws.FnRosters", spec := "fnRosters", unfollowed := true, recurses := true, apart := false }
def FnRostersSaid : Prop := fnRostersRow.holds Try.pinned (OpenSpec.ofChange fnRostersSpec)

/-- ITS FALSE NEIGHBOUR: 'it returns false'. Refute it at one input. -/
def fnRostersWrong : ChangeSpec := { name := "fnRosters", fn := fun _ => fun
  | [d] => { results := [.lit (.bool false)], args := [d] }
  | _ => none }
def FnRostersWrongFalsely : Prop := fnRostersRow.holds Try.pinned (OpenSpec.ofChange fnRostersWrong)

/-- 'laws.FnSpans': WHATEVER THE INPUT: true; the input reads as it did. -/
def fnSpansSpec : ChangeSpec := { name := "fnSpans", fn := fun _ => fun
  | [d] => { results := [.lit (.bool true)], args := [d] }
  | _ => none }
def fnSpansRow : OpenClaim := { program := "ytepdapiceklppaa", sum := "c7ab865d9faf447b51277f18359bfd197d29b297989bc5c46dcfc74eaddf7760", func := "loop.example/g00900/laws.FnSpans", spec := "fnSpans", unfollowed := true, recurses := true, apart := false }
def FnSpansSaid : Prop := fnSpansRow.holds Try.pinned (OpenSpec.ofChange fnSpansSpec)

/-- ITS FALSE NEIGHBOUR: 'it returns false'. Refute it at one input. -/
def fnSpansWrong : ChangeSpec := { name := "fnSpans", fn := fun _ => fun
  | [d] => { results := [.lit (.bool false)], args := [d] }
  | _ => none }
def FnSpansWrongFalsely : Prop := fnSpansRow.holds Try.pinned (OpenSpec.ofChange fnSpansWrong)

/-- 'laws.FnWalking': WHATEVER THE INPUT: true; the input reads as it did. -/
def fnWalkingSpec : ChangeSpec := { name := "fnWalking", fn := fun _ => fun
  | [d] => { results := [.lit (.bool true)], args := [d] }
  | _ => none }
def fnWalkingRow : OpenClaim := { program := "ytepdapiceklppaa", sum := "c7ab865d9faf447b51277f18359bfd197d29b297989bc5c46dcfc74eaddf7760", func := "loop.example/g00900/laws.FnWalking", spec := "fnWalking", unfollowed := true, recurses := true, apart := false }
def FnWalkingSaid : Prop := fnWalkingRow.holds Try.pinned (OpenSpec.ofChange fnWalkingSpec)

/-- ITS FALSE NEIGHBOUR: 'it returns false'. Refute it at one input. -/
def fnWalkingWrong : ChangeSpec := { name := "fnWalking", fn := fun _ => fun
  | [d] => { results := [.lit (.bool false)], args := [d] }
  | _ => none }
def FnWalkingWrongFalsely : Prop := fnWalkingRow.holds Try.pinned (OpenSpec.ofChange fnWalkingWrong)

/-- 'laws.FnTracks': WHATEVER THE INPUT: true; the input reads as it did. -/
def fnTracksSpec : ChangeSpec := { name := "fnTracks", fn := fun _ => fun
  | [d] => { results := [.lit (.bool true)], args := [d] }
  | _ => none }
def fnTracksRow : OpenClaim := { program := "ytepdapiceklppaa", sum := "c7ab865d9faf447b51277f18359bfd197d29b297989bc5c46dcfc74eaddf7760", func := "loop.example/g00900/laws.FnTracks", spec := "fnTracks", unfollowed := true, recurses := true, apart := false }
def FnTracksSaid : Prop := fnTracksRow.holds Try.pinned (OpenSpec.ofChange fnTracksSpec)

/-- ITS FALSE NEIGHBOUR: 'it returns false'. Refute it at one input. -/
def fnTracksWrong : ChangeSpec := { name := "fnTracks", fn := fun _ => fun
  | [d] => { results := [.lit (.bool false)], args := [d] }
  | _ => none }
def FnTracksWrongFalsely : Prop := fnTracksRow.holds Try.pinned (OpenSpec.ofChange fnTracksWrong)

/-- 'laws.FnShortened': WHATEVER THE INPUT: true; the input reads as it did. -/
def fnShortenedSpec : ChangeSpec := { name := "fnShortened", fn := fun _ => fun
  | [d] => { results := [.lit (.bool true)], args := [d] }
  | _ => none }
def fnShortenedRow : OpenClaim := { program := "ytepdapiceklppaa", sum := "c7ab865d9faf447b51277f18359bfd197d29b297989bc5c46dcfc74eaddf7760", func := "loop.example/g00900/laws.FnShortened", spec := "fnShortened", unfollowed := true, recurses := true, apart := false }
def FnShortenedSaid : Prop := fnShortenedRow.holds Try.pinned (OpenSpec.ofChange fnShortenedSpec)

/-- ITS FALSE NEIGHBOUR: 'it returns false'. Refute it at one input. -/
def fnShortenedWrong : ChangeSpec := { name := "fnShortened", fn := fun _ => fun
  | [d] => { results := [.lit (.bool false)], args := [d] }
  | _ => none }
def FnShortenedWrongFalsely : Prop := fnShortenedRow.holds Try.pinned (OpenSpec.ofChange fnShortenedWrong)

/-- 'laws.FnPunctuality': WHATEVER THE INPUT: true; the input reads as it did. -/
def fnPunctualitySpec : ChangeSpec := { name := "fnPunctuality", fn := fun _ => fun
  | [d] => { results := [.lit (.bool true)], args := [d] }
  | _ => none }
def fnPunctualityRow : OpenClaim := { program := "ytepdapiceklppaa", sum := "c7ab865d9faf447b51277f18359bfd197d29b297989bc5c46dcfc74eaddf7760", func := "loop.example/g00900/laws.FnPunctuality", spec := "fnPunctuality", unfollowed := true, recurses := true, apart := false }
def FnPunctualitySaid : Prop := fnPunctualityRow.holds Try.pinned (OpenSpec.ofChange fnPunctualitySpec)

/-- ITS FALSE NEIGHBOUR: 'it returns false'. Refute it at one input. -/
def fnPunctualityWrong : ChangeSpec := { name := "fnPunctuality", fn := fun _ => fun
  | [d] => { results := [.lit (.bool false)], args := [d] }
  | _ => none }
def FnPunctualityWrongFalsely : Prop := fnPunctualityRow.holds Try.pinned (OpenSpec.ofChange fnPunctualityWrong)

/- THE SECOND FORM. 'bulk': how many values and letters a reading holds, each counted each time it is reached (what is shared counts as often as it is met; a slice's spare places count too). A statement '..UptoSaid' is the law's where the arguments, and the package variables that the reading takes, are together of bulk at most 1048576: NARROWER than '..Said'. Prove '..Said' where nothing that the law and all that it calls make is longer than what came in: it says more and counts as full. Else prove '..UptoSaid'. A law counts once. -/
mutual
def uptoBulk {H : Type} : DataW H → Nat
  | .lit (.string bytes) => bytes.length + 1
  | .lit _ => 1
  | .nil => 1
  | .ptr d => uptoBulk d + 1
  | .slice elems spare => uptoBulkAll elems + uptoBulkAll spare + 1
  | .agg parts => uptoBulkAll parts + 1
  | .iface _ d => uptoBulk d + 1
  | .map entries => uptoBulkEntries entries + 1
  | .held _ => 1
def uptoBulkAll {H : Type} : List (DataW H) → Nat
  | [] => 0
  | d :: r => uptoBulk d + uptoBulkAll r
def uptoBulkEntries {H : Type} : List (Lit × DataW H) → Nat
  | [] => 0
  | x :: r => uptoBulkEntry x + uptoBulkEntries r
def uptoBulkEntry {H : Type} : Lit × DataW H → Nat
  | (.string bytes, d) => bytes.length + uptoBulk d + 1
  | (_, d) => uptoBulk d + 1
 end
def uptoSmall : (H : Type) → List (DataW H) → Bool := fun _ ds => decide (uptoBulkAll ds ≤ 1048576)
def OpenSpec.upto (s : _root_.Go.ChangeSpec) : _root_.Go.OpenSpec := { _root_.Go.OpenSpec.ofChange s with cond := some uptoSmall }

/-- 'laws.FnRosters', WHERE WHAT IT READS IS OF BULK AT MOST 1048576: true; the input reads as it did. -/
def fnRostersUptoRow : OpenClaim := { program := "ytepdapiceklppaa", sum := "c7ab865d9faf447b51277f18359bfd197d29b297989bc5c46dcfc74eaddf7760", func := "loop.example/g00900/laws.FnRosters", spec := "fnRosters", unfollowed := true, recurses := true, apart := false, narrowed := true }
def FnRostersUptoSaid : Prop := fnRostersUptoRow.holds Try.pinned (OpenSpec.upto fnRostersSpec)

/-- 'laws.FnSpans', WHERE WHAT IT READS IS OF BULK AT MOST 1048576: true; the input reads as it did. -/
def fnSpansUptoRow : OpenClaim := { program := "ytepdapiceklppaa", sum := "c7ab865d9faf447b51277f18359bfd197d29b297989bc5c46dcfc74eaddf7760", func := "loop.example/g00900/laws.FnSpans", spec := "fnSpans", unfollowed := true, recurses := true, apart := false, narrowed := true }
def FnSpansUptoSaid : Prop := fnSpansUptoRow.holds Try.pinned (OpenSpec.upto fnSpansSpec)

/-- 'laws.FnWalking', WHERE WHAT IT READS IS OF BULK AT MOST 1048576: true; the input reads as it did. -/
def fnWalkingUptoRow : OpenClaim := { program := "ytepdapiceklppaa", sum := "c7ab865d9faf447b51277f18359bfd197d29b297989bc5c46dcfc74eaddf7760", func := "loop.example/g00900/laws.FnWalking", spec := "fnWalking", unfollowed := true, recurses := true, apart := false, narrowed := true }
def FnWalkingUptoSaid : Prop := fnWalkingUptoRow.holds Try.pinned (OpenSpec.upto fnWalkingSpec)

/-- 'laws.FnTracks', WHERE WHAT IT READS IS OF BULK AT MOST 1048576: true; the input reads as it did. -/
def fnTracksUptoRow : OpenClaim := { program := "ytepdapiceklppaa", sum := "c7ab865d9faf447b51277f18359bfd197d29b297989bc5c46dcfc74eaddf7760", func := "loop.example/g00900/laws.FnTracks", spec := "fnTracks", unfollowed := true, recurses := true, apart := false, narrowed := true }
def FnTracksUptoSaid : Prop := fnTracksUptoRow.holds Try.pinned (OpenSpec.upto fnTracksSpec)

/-- 'laws.FnShortened', WHERE WHAT IT READS IS OF BULK AT MOST 1048576: true; the input reads as it did. -/
def fnShortenedUptoRow : OpenClaim := { program := "ytepdapiceklppaa", sum := "c7ab865d9faf447b51277f18359bfd197d29b297989bc5c46dcfc74eaddf7760", func := "loop.example/g00900/laws.FnShortened", spec := "fnShortened", unfollowed := true, recurses := true, apart := false, narrowed := true }
def FnShortenedUptoSaid : Prop := fnShortenedUptoRow.holds Try.pinned (OpenSpec.upto fnShortenedSpec)

/-- 'laws.FnPunctuality', WHERE WHAT IT READS IS OF BULK AT MOST 1048576: true; the input reads as it did. -/
def fnPunctualityUptoRow : OpenClaim := { program := "ytepdapiceklppaa", sum := "c7ab865d9faf447b51277f18359bfd197d29b297989bc5c46dcfc74eaddf7760", func := "loop.example/g00900/laws.FnPunctuality", spec := "fnPunctuality", unfollowed := true, recurses := true, apart := false, narrowed := true }
def FnPunctualityUptoSaid : Prop := fnPunctualityUptoRow.holds Try.pinned (OpenSpec.upto fnPunctualitySpec)

end Rows
end Go.Proofs.Ytepdapiceklppaa
