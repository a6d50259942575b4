/-
  No cell of these rows narrows 'for every input' (looked for: loops, veiled, ifaces, maps, wideKeys, modest, calm, conditions, laid).
  DERIVED. THE GIVEN ROWS OF THIS SEAT. 3 by the template 'for every input the law returns true; each argument reads behind the call as it read before'; 0 by the template 'total and deterministic' (their statements: YtjljkjbdkjjdcaaTotals.lean).
  GIVEN WITH THE SEED: the statements are not yours to turn. If you find one false, say at which input.
  Laid BY PROGRAM, IN A SANDBOX (cutbox-rows.mjs): the forced cells as the released guide's own fill.sh prints them over the translation 371383f01c7566e8… (all of the seat's roots in one cut). By AI agents, Wed Nov 11 2026. No macro, syntax, notation, axiom, sorry.
-/
import Derived.Test.YtjljkjbdkjjdcaaChecked
import GoSem.Claim
import GoSem.ClaimJoined
import GoSem.ClaimMapViews
import Derived.JoinedTies
import Derived.KernelRfl
namespace Go.Proofs.Ytjljkjbdkjjdcaa
/- THE CELL 'sum', in the pinned program and in every row, IS THE sha256 OF THE DUMP (.gsa) THAT YtjljkjbdkjjdcaaProg.lean LOADS. Nothing in Lean hashes anything: it is a label: what it is worth is what the hold of that sum in a sandbox is worth. -/
noncomputable def Try.pinned : Pinned := { name := "ytjljkjbdkjjdcaa", sum := "371383f01c7566e8b89f6fb03097e58c561077e720889150dddddd57304b7b80", checked := Try.checked }
namespace Rows
def none {H : Type} : Left H := { results := [], args := [] }

/-- 'laws.FnTripDelays': WHATEVER THE INPUT: true; the input reads as it did. -/
def fnTripDelaysSpec : ChangeSpec := { name := "fnTripDelays", fn := fun _ => fun
  | [d] => { results := [.lit (.bool true)], args := [d] }
  | _ => none }
def fnTripDelaysRow : OpenClaim := { program := "ytjljkjbdkjjdcaa", sum := "371383f01c7566e8b89f6fb03097e58c561077e720889150dddddd57304b7b80", func := "loop.example/g00900/laws.FnTripDelays", spec := "fnTripDelays", unfollowed := true, recurses := true, apart := false }
def FnTripDelaysSaid : Prop := fnTripDelaysRow.holds Try.pinned (OpenSpec.ofChange fnTripDelaysSpec)

/-- ITS FALSE NEIGHBOUR: 'it returns false'. Refute it at one input. -/
def fnTripDelaysWrong : ChangeSpec := { name := "fnTripDelays", fn := fun _ => fun
  | [d] => { results := [.lit (.bool false)], args := [d] }
  | _ => none }
def FnTripDelaysWrongFalsely : Prop := fnTripDelaysRow.holds Try.pinned (OpenSpec.ofChange fnTripDelaysWrong)

/-- 'laws.FnOffsets': WHATEVER THE INPUT: true; the input reads as it did. -/
def fnOffsetsSpec : ChangeSpec := { name := "fnOffsets", fn := fun _ => fun
  | [d] => { results := [.lit (.bool true)], args := [d] }
  | _ => none }
def fnOffsetsRow : OpenClaim := { program := "ytjljkjbdkjjdcaa", sum := "371383f01c7566e8b89f6fb03097e58c561077e720889150dddddd57304b7b80", func := "loop.example/g00900/laws.FnOffsets", spec := "fnOffsets", unfollowed := true, recurses := true, apart := false }
def FnOffsetsSaid : Prop := fnOffsetsRow.holds Try.pinned (OpenSpec.ofChange fnOffsetsSpec)

/-- ITS FALSE NEIGHBOUR: 'it returns false'. Refute it at one input. -/
def fnOffsetsWrong : ChangeSpec := { name := "fnOffsets", fn := fun _ => fun
  | [d] => { results := [.lit (.bool false)], args := [d] }
  | _ => none }
def FnOffsetsWrongFalsely : Prop := fnOffsetsRow.holds Try.pinned (OpenSpec.ofChange fnOffsetsWrong)

/-- 'laws.FnPositions': WHATEVER THE INPUT: true; the input reads as it did. -/
def fnPositionsSpec : ChangeSpec := { name := "fnPositions", fn := fun _ => fun
  | [d] => { results := [.lit (.bool true)], args := [d] }
  | _ => none }
def fnPositionsRow : OpenClaim := { program := "ytjljkjbdkjjdcaa", sum := "371383f01c7566e8b89f6fb03097e58c561077e720889150dddddd57304b7b80", func := "loop.example/g00900/laws.FnPositions", spec := "fnPositions", unfollowed := true, recurses := true, apart := false }
def FnPositionsSaid : Prop := fnPositionsRow.holds Try.pinned (OpenSpec.ofChange fnPositionsSpec)

/-- ITS FALSE NEIGHBOUR: 'it returns false'. Refute it at one input. -/
def fnPositionsWrong : ChangeSpec := { name := "fnPositions", fn := fun _ => fun
  | [d] => { results := [.lit (.bool false)], args := [d] }
  | _ => none }
def FnPositionsWrongFalsely : Prop := fnPositionsRow.holds Try.pinned (OpenSpec.ofChange fnPositionsWrong)

/- THE SECOND FORM. 'bulk': how many values and letters a reading holds, each counted each time it is reached (what is shared counts as often as it is met; a slice's spare places count too). A statement '..UptoSaid' is the law's where the arguments, and the package variables that the reading takes, are together of bulk at most 1048576: NARROWER than '..Said'. Prove '..Said' where nothing that the law and all that it calls make is longer than what came in: it says more and counts as full. Else prove '..UptoSaid'. A law counts once. -/
mutual
def uptoBulk {H : Type} : DataW H → Nat
  | .lit (.string bytes) => bytes.length + 1
  | .lit _ => 1
  | .nil => 1
  | .ptr d => uptoBulk d + 1
  | .slice elems spare => uptoBulkAll elems + uptoBulkAll spare + 1
  | .agg parts => uptoBulkAll parts + 1
  | .iface _ d => uptoBulk d + 1
  | .map entries => uptoBulkEntries entries + 1
  | .held _ => 1
def uptoBulkAll {H : Type} : List (DataW H) → Nat
  | [] => 0
  | d :: r => uptoBulk d + uptoBulkAll r
def uptoBulkEntries {H : Type} : List (Lit × DataW H) → Nat
  | [] => 0
  | x :: r => uptoBulkEntry x + uptoBulkEntries r
def uptoBulkEntry {H : Type} : Lit × DataW H → Nat
  | (.string bytes, d) => bytes.length + uptoBulk d + 1
  | (_, d) => uptoBulk d + 1
 end
def uptoSmall : (H : Type) → List (DataW H) → Bool := fun _ ds => decide (uptoBulkAll ds ≤ 1048576)
def OpenSpec.upto (s : _root_.Go.ChangeSpec) : _root_.Go.OpenSpec := { _root_.Go.OpenSpec.ofChange s with cond := some uptoSmall }

/-- 'laws.FnTripDelays', WHERE WHAT IT READS IS OF BULK AT MOST 1048576: true; the input reads as it did. -/
def fnTripDelaysUptoRow : OpenClaim := { program := "ytjljkjbdkjjdcaa", sum := "371383f01c7566e8b89f6fb03097e58c561077e720889150dddddd57304b7b80", func := "loop.example/g00900/laws.FnTripDelays", spec := "fnTripDelays", unfollowed := true, recurses := true, apart := false, narrowed := true }
def FnTripDelaysUptoSaid : Prop := fnTripDelaysUptoRow.holds Try.pinned (OpenSpec.upto fnTripDelaysSpec)

/-- 'laws.FnOffsets', WHERE WHAT IT READS IS OF BULK AT MOST 1048576: true; the input reads as it did. -/
def fnOffsetsUptoRow : OpenClaim := { program := "ytjljkjbdkjjdcaa", sum := "371383f01c7566e8b89f6fb03097e58c561077e720889150dddddd57304b7b80", func := "loop.example/g00900/laws.FnOffsets", spec := "fnOffsets", unfollowed := true, recurses := true, apart := false, narrowed := true }
def FnOffsetsUptoSaid : Prop := fnOffsetsUptoRow.holds Try.pinned (OpenSpec.upto fnOffsetsSpec)

/-- 'laws.FnPositions', WHERE WHAT IT READS IS OF BULK AT MOST 1048576: true; the input reads as it did. -/
def fnPositionsUptoRow : OpenClaim := { program := "ytjljkjbdkjjdcaa", sum := "371383f01c7566e8b89f6fb03097e58c561077e720889150dddddd57304b7b80", func := "loop.example/g00900/laws.FnPositions", spec := "fnPositions", unfollowed := true, recurses := true, apart := false, narrowed := true }
def FnPositionsUptoSaid : Prop := fnPositionsUptoRow.holds Try.pinned (OpenSpec.upto fnPositionsSpec)

end Rows
end Go.Proofs.Ytjljkjbdkjjdcaa
