/-
  No cell of these rows narrows 'for every input' (looked for: loops, veiled, ifaces, maps, wideKeys, modest, calm, conditions, laid).
  DERIVED. THE GIVEN ROWS OF THIS SEAT. 5 by the template 'for every input the law returns true; each argument reads behind the call as it read before'; 0 by the template 'total and deterministic' (their statements: YtjahononbnbjnaaTotals.lean).
  GIVEN WITH THE SEED: the statements are not yours to turn. If you find one false, say at which input.
  Laid BY PROGRAM, IN A SANDBOX (cutbox-rows.mjs): the forced cells as the released guide's own fill.sh prints them over the translation c151a0e90afe6662… (all of the seat's roots in one cut). By AI agents, Wed Nov 11 2026. No macro, syntax, notation, axiom, sorry.
-/
import Derived.Test.YtjahononbnbjnaaChecked
import GoSem.Claim
import GoSem.ClaimJoined
import GoSem.ClaimMapViews
import Derived.JoinedTies
import Derived.KernelRfl
namespace Go.Proofs.Ytjahononbnbjnaa
/- THE CELL 'sum', in the pinned program and in every row, IS THE sha256 OF THE DUMP (.gsa) THAT YtjahononbnbjnaaProg.lean LOADS. Nothing in Lean hashes anything: it is a label: what it is worth is what the hold of that sum in a sandbox is worth. -/
noncomputable def Try.pinned : Pinned := { name := "ytjahononbnbjnaa", sum := "c151a0e90afe66626c19a633013114d7f9404f2e8cb4ba5eb125236fc243366f", checked := Try.checked }
namespace Rows
def none {H : Type} : Left H := { results := [], args := [] }

/-- 'laws.FnTracks': WHATEVER THE INPUT: true; the input reads as it did. -/
def fnTracksSpec : ChangeSpec := { name := "fnTracks", fn := fun _ => fun
  | [d] => { results := [.lit (.bool true)], args := [d] }
  | _ => none }
def fnTracksRow : OpenClaim := { program := "ytjahononbnbjnaa", sum := "c151a0e90afe66626c19a633013114d7f9404f2e8cb4ba5eb125236fc243366f", func := "loop.example/g00900/laws.FnTracks", spec := "fnTracks", unfollowed := true, recurses := true, plainKeys := false, apart := false }
def FnTracksSaid : Prop := fnTracksRow.holds Try.pinned (OpenSpec.ofChange fnTracksSpec)

/-- ITS FALSE NEIGHBOUR: 'it returns false'. Refute it at one input. -/
def fnTracksWrong : ChangeSpec := { name := "fnTracks", fn := fun _ => fun
  | [d] => { results := [.lit (.bool false)], args := [d] }
  | _ => none }
def FnTracksWrongFalsely : Prop := fnTracksRow.holds Try.pinned (OpenSpec.ofChange fnTracksWrong)

/-- 'laws.FnExactNewConsole': WHATEVER THE INPUT: true; the input reads as it did. -/
def fnExactNewConsoleSpec : ChangeSpec := { name := "fnExactNewConsole", fn := fun _ => fun
  | [d] => { results := [.lit (.bool true)], args := [d] }
  | _ => none }
def fnExactNewConsoleRow : OpenClaim := { program := "ytjahononbnbjnaa", sum := "c151a0e90afe66626c19a633013114d7f9404f2e8cb4ba5eb125236fc243366f", func := "loop.example/g00900/laws.FnExactNewConsole", spec := "fnExactNewConsole", plainKeys := false, apart := false }
def FnExactNewConsoleSaid : Prop := fnExactNewConsoleRow.holds Try.pinned (OpenSpec.ofChange fnExactNewConsoleSpec)

/-- ITS FALSE NEIGHBOUR: 'it returns false'. Refute it at one input. -/
def fnExactNewConsoleWrong : ChangeSpec := { name := "fnExactNewConsole", fn := fun _ => fun
  | [d] => { results := [.lit (.bool false)], args := [d] }
  | _ => none }
def FnExactNewConsoleWrongFalsely : Prop := fnExactNewConsoleRow.holds Try.pinned (OpenSpec.ofChange fnExactNewConsoleWrong)

/-- 'laws.FnBlocks': WHATEVER THE INPUT: true; the input reads as it did. -/
def fnBlocksSpec : ChangeSpec := { name := "fnBlocks", fn := fun _ => fun
  | [d] => { results := [.lit (.bool true)], args := [d] }
  | _ => none }
def fnBlocksRow : OpenClaim := { program := "ytjahononbnbjnaa", sum := "c151a0e90afe66626c19a633013114d7f9404f2e8cb4ba5eb125236fc243366f", func := "loop.example/g00900/laws.FnBlocks", spec := "fnBlocks", unfollowed := true, recurses := true, plainKeys := false, apart := false }
def FnBlocksSaid : Prop := fnBlocksRow.holds Try.pinned (OpenSpec.ofChange fnBlocksSpec)

/-- ITS FALSE NEIGHBOUR: 'it returns false'. Refute it at one input. -/
def fnBlocksWrong : ChangeSpec := { name := "fnBlocks", fn := fun _ => fun
  | [d] => { results := [.lit (.bool false)], args := [d] }
  | _ => none }
def FnBlocksWrongFalsely : Prop := fnBlocksRow.holds Try.pinned (OpenSpec.ofChange fnBlocksWrong)

/-- 'laws.FnSwaps': WHATEVER THE INPUT: true; the input reads as it did. -/
def fnSwapsSpec : ChangeSpec := { name := "fnSwaps", fn := fun _ => fun
  | [d] => { results := [.lit (.bool true)], args := [d] }
  | _ => none }
def fnSwapsRow : OpenClaim := { program := "ytjahononbnbjnaa", sum := "c151a0e90afe66626c19a633013114d7f9404f2e8cb4ba5eb125236fc243366f", func := "loop.example/g00900/laws.FnSwaps", spec := "fnSwaps", unfollowed := true, recurses := true, plainKeys := false, apart := false }
def FnSwapsSaid : Prop := fnSwapsRow.holds Try.pinned (OpenSpec.ofChange fnSwapsSpec)

/-- ITS FALSE NEIGHBOUR: 'it returns false'. Refute it at one input. -/
def fnSwapsWrong : ChangeSpec := { name := "fnSwaps", fn := fun _ => fun
  | [d] => { results := [.lit (.bool false)], args := [d] }
  | _ => none }
def FnSwapsWrongFalsely : Prop := fnSwapsRow.holds Try.pinned (OpenSpec.ofChange fnSwapsWrong)

/-- 'laws.FnOffsets': WHATEVER THE INPUT: true; the input reads as it did. -/
def fnOffsetsSpec : ChangeSpec := { name := "fnOffsets", fn := fun _ => fun
  | [d] => { results := [.lit (.bool true)], args := [d] }
  | _ => none }
def fnOffsetsRow : OpenClaim := { program := "ytjahononbnbjnaa", sum := "c151a0e90afe66626c19a633013114d7f9404f2e8cb4ba5eb125236fc243366f", func := "loop.example/g00900/laws.FnOffsets", spec := "fnOffsets", unfollowed := true, recurses := true, plainKeys := false, apart := false }
def FnOffsetsSaid : Prop := fnOffsetsRow.holds Try.pinned (OpenSpec.ofChange fnOffsetsSpec)

/-- ITS FALSE NEIGHBOUR: 'it returns false'. Refute it at one input. -/
def fnOffsetsWrong : ChangeSpec := { name := "fnOffsets", fn := fun _ => fun
  | [d] => { results := [.lit (.bool false)], args := [d] }
  | _ => none }
def FnOffsetsWrongFalsely : Prop := fnOffsetsRow.holds Try.pinned (OpenSpec.ofChange fnOffsetsWrong)

/- THE SECOND FORM. 'bulk': how many values and letters a reading holds, each counted each time it is reached (what is shared counts as often as it is met; a slice's spare places count too). A statement '..UptoSaid' is the law's where the arguments, and the package variables that the reading takes, are together of bulk at most 1048576: NARROWER than '..Said'. Prove '..Said' where nothing that the law and all that it calls make is longer than what came in: it says more and counts as full. Else prove '..UptoSaid'. A law counts once. -/
mutual
def uptoBulk {H : Type} : DataW H → Nat
  | .lit (.string bytes) => bytes.length + 1
  | .lit _ => 1
  | .nil => 1
  | .ptr d => uptoBulk d + 1
  | .slice elems spare => uptoBulkAll elems + uptoBulkAll spare + 1
  | .agg parts => uptoBulkAll parts + 1
  | .iface _ d => uptoBulk d + 1
  | .map entries => uptoBulkEntries entries + 1
  | .held _ => 1
def uptoBulkAll {H : Type} : List (DataW H) → Nat
  | [] => 0
  | d :: r => uptoBulk d + uptoBulkAll r
def uptoBulkEntries {H : Type} : List (Lit × DataW H) → Nat
  | [] => 0
  | x :: r => uptoBulkEntry x + uptoBulkEntries r
def uptoBulkEntry {H : Type} : Lit × DataW H → Nat
  | (.string bytes, d) => bytes.length + uptoBulk d + 1
  | (_, d) => uptoBulk d + 1
 end
def uptoSmall : (H : Type) → List (DataW H) → Bool := fun _ ds => decide (uptoBulkAll ds ≤ 1048576)
def OpenSpec.upto (s : _root_.Go.ChangeSpec) : _root_.Go.OpenSpec := { _root_.Go.OpenSpec.ofChange s with cond := some uptoSmall }

/-- 'laws.FnTracks', WHERE WHAT IT READS IS OF BULK AT MOST 1048576: true; the input reads as it did. -/
def fnTracksUptoRow : OpenClaim := { program := "ytjahononbnbjnaa", sum := "c151a0e90afe66626c19a633013114d7f9404f2e8cb4ba5eb125236fc243366f", func := "loop.example/g00900/laws.FnTracks", spec := "fnTracks", unfollowed := true, recurses := true, plainKeys := false, apart := false, narrowed := true }
def FnTracksUptoSaid : Prop := fnTracksUptoRow.holds Try.pinned (OpenSpec.upto fnTracksSpec)

/-- 'laws.FnExactNewConsole', WHERE WHAT IT READS IS OF BULK AT MOST 1048576: true; the input reads as it did. -/
def fnExactNewConsoleUptoRow : OpenClaim := { program := "ytjahononbnbjnaa", sum := "c151a0e90afe66626c19a633013114d7f9404f2e8cb4ba5eb125236fc243366f", func := "loop.example/g00900/laws.FnExactNewConsole", spec := "fnExactNewConsole", plainKeys := false, apart := false, narrowed := true }
def FnExactNewConsoleUptoSaid : Prop := fnExactNewConsoleUptoRow.holds Try.pinned (OpenSpec.upto fnExactNewConsoleSpec)

/-- 'laws.FnBlocks', WHERE WHAT IT READS IS OF BULK AT MOST 1048576: true; the input reads as it did. -/
def fnBlocksUptoRow : OpenClaim := { program := "ytjahononbnbjnaa", sum := "c151a0e90afe66626c19a633013114d7f9404f2e8cb4ba5eb125236fc243366f", func := "loop.example/g00900/laws.FnBlocks", spec := "fnBlocks", unfollowed := true, recurses := true, plainKeys := false, apart := false, narrowed := true }
def FnBlocksUptoSaid : Prop := fnBlocksUptoRow.holds Try.pinned (OpenSpec.upto fnBlocksSpec)

/-- 'laws.FnSwaps', WHERE WHAT IT READS IS OF BULK AT MOST 1048576: true; the input reads as it did. -/
def fnSwapsUptoRow : OpenClaim := { program := "ytjahononbnbjnaa", sum := "c151a0e90afe66626c19a633013114d7f9404f2e8cb4ba5eb125236fc243366f", func := "loop.example/g00900/laws.FnSwaps", spec := "fnSwaps", unfollowed := true, recurses := true, plainKeys := false, apart := false, narrowed := true }
def FnSwapsUptoSaid : Prop := fnSwapsUptoRow.holds Try.pinned (OpenSpec.upto fnSwapsSpec)

/-- 'laws.FnOffsets', WHERE WHAT IT READS IS OF BULK AT MOST 1048576: true; the input reads as it did. -/
def fnOffsetsUptoRow : OpenClaim := { program := "ytjahononbnbjnaa", sum := "c151a0e90afe66626c19a633013114d7f9404f2e8cb4ba5eb125236fc243366f", func := "loop.example/g00900/laws.FnOffsets", spec := "fnOffsets", unfollowed := true, recurses := true, plainKeys := false, apart := false, narrowed := true }
def FnOffsetsUptoSaid : Prop := fnOffsetsUptoRow.holds Try.pinned (OpenSpec.upto fnOffsetsSpec)

end Rows
end Go.Proofs.Ytjahononbnbjnaa
