/-
  No cell of these rows narrows 'for every input' (looked for: loops, veiled, ifaces, maps, wideKeys, modest, calm, conditions, laid).
  DERIVED. THE GIVEN ROWS OF THIS SEAT. 3 by the template 'for every input the law returns true; each argument reads behind the call as it read before'; 0 by the template 'total and deterministic' (their statements: YtdkphcbllgnefaaTotals.lean).
  GIVEN WITH THE SEED: the statements are not yours to turn. If you find one false, say at which input.
  Laid BY PROGRAM, IN A SANDBOX (cutbox-rows.mjs): the forced cells as the released guide's own fill.sh prints them over the translation 041b443d90781d29… (all of the seat's roots in one cut). By AI agents, Wed Nov 11 2026. No macro, syntax, notation, axiom, sorry.
-/
import Derived.Test.YtdkphcbllgnefaaChecked
import GoSem.Claim
import GoSem.ClaimJoined
import GoSem.ClaimMapViews
import Derived.JoinedTies
import Derived.KernelRfl
namespace Go.Proofs.Ytdkphcbllgnefaa
/- THE CELL 'sum', in the pinned program and in every row, IS THE sha256 OF THE DUMP (.gsa) THAT YtdkphcbllgnefaaProg.lean LOADS. Nothing in Lean hashes anything: it is a label: what it is worth is what the hold of that sum in a sandbox is worth. -/
noncomputable def Try.pinned : Pinned := { name := "ytdkphcbllgnefaa", sum := "041b443d90781d295ea7cad9c37b11109df508ceda0ec9f15a5f0fa4dc9bb219", checked := Try.checked }
namespace Rows
def none {H : Type} : Left H := { results := [], args := [] }

/-- 'laws.FnCatching': WHATEVER THE INPUT: true; the input reads as it did. -/
def fnCatchingSpec : ChangeSpec := { name := "fnCatching", fn := fun _ => fun
  | [d] => { results := [.lit (.bool true)], args := [d] }
  | _ => none }
def fnCatchingRow : OpenClaim := { program := "ytdkphcbllgnefaa", sum := "041b443d90781d295ea7cad9c37b11109df508ceda0ec9f15a5f0fa4dc9bb219", func := "loop.example/g00900/laws.FnCatching", spec := "fnCatching", unfollowed := true, recurses := true, apart := false }
def FnCatchingSaid : Prop := fnCatchingRow.holds Try.pinned (OpenSpec.ofChange fnCatchingSpec)

/-- ITS FALSE NEIGHBOUR: 'it returns false'. Refute it at one input. -/
def fnCatchingWrong : ChangeSpec := { name := "fnCatching", fn := fun _ => fun
  | [d] => { results := [.lit (.bool false)], args := [d] }
  | _ => none }
def FnCatchingWrongFalsely : Prop := fnCatchingRow.holds Try.pinned (OpenSpec.ofChange fnCatchingWrong)

/-- 'laws.FnWalking': WHATEVER THE INPUT: true; the input reads as it did. -/
def fnWalkingSpec : ChangeSpec := { name := "fnWalking", fn := fun _ => fun
  | [d] => { results := [.lit (.bool true)], args := [d] }
  | _ => none }
def fnWalkingRow : OpenClaim := { program := "ytdkphcbllgnefaa", sum := "041b443d90781d295ea7cad9c37b11109df508ceda0ec9f15a5f0fa4dc9bb219", func := "loop.example/g00900/laws.FnWalking", spec := "fnWalking", unfollowed := true, recurses := true, apart := false }
def FnWalkingSaid : Prop := fnWalkingRow.holds Try.pinned (OpenSpec.ofChange fnWalkingSpec)

/-- ITS FALSE NEIGHBOUR: 'it returns false'. Refute it at one input. -/
def fnWalkingWrong : ChangeSpec := { name := "fnWalking", fn := fun _ => fun
  | [d] => { results := [.lit (.bool false)], args := [d] }
  | _ => none }
def FnWalkingWrongFalsely : Prop := fnWalkingRow.holds Try.pinned (OpenSpec.ofChange fnWalkingWrong)

/-- 'laws.FnTripDelays': WHATEVER THE INPUT: true; the input reads as it did. -/
def fnTripDelaysSpec : ChangeSpec := { name := "fnTripDelays", fn := fun _ => fun
  | [d] => { results := [.lit (.bool true)], args := [d] }
  | _ => none }
def fnTripDelaysRow : OpenClaim := { program := "ytdkphcbllgnefaa", sum := "041b443d90781d295ea7cad9c37b11109df508ceda0ec9f15a5f0fa4dc9bb219", func := "loop.example/g00900/laws.FnTripDelays", spec := "fnTripDelays", unfollowed := true, recurses := true, apart := false }
def FnTripDelaysSaid : Prop := fnTripDelaysRow.holds Try.pinned (OpenSpec.ofChange fnTripDelaysSpec)

/-- ITS FALSE NEIGHBOUR: 'it returns false'. Refute it at one input. -/
def fnTripDelaysWrong : ChangeSpec := { name := "fnTripDelays", fn := fun _ => fun
  | [d] => { results := [.lit (.bool false)], args := [d] }
  | _ => none }
def FnTripDelaysWrongFalsely : Prop := fnTripDelaysRow.holds Try.pinned (OpenSpec.ofChange fnTripDelaysWrong)

/- THE SECOND FORM. 'bulk': how many values and letters a reading holds, each counted each time it is reached (what is shared counts as often as it is met; a slice's spare places count too). A statement '..UptoSaid' is the law's where the arguments, and the package variables that the reading takes, are together of bulk at most 1048576: NARROWER than '..Said'. Prove '..Said' where nothing that the law and all that it calls make is longer than what came in: it says more and counts as full. Else prove '..UptoSaid'. A law counts once. -/
mutual
def uptoBulk {H : Type} : DataW H → Nat
  | .lit (.string bytes) => bytes.length + 1
  | .lit _ => 1
  | .nil => 1
  | .ptr d => uptoBulk d + 1
  | .slice elems spare => uptoBulkAll elems + uptoBulkAll spare + 1
  | .agg parts => uptoBulkAll parts + 1
  | .iface _ d => uptoBulk d + 1
  | .map entries => uptoBulkEntries entries + 1
  | .held _ => 1
def uptoBulkAll {H : Type} : List (DataW H) → Nat
  | [] => 0
  | d :: r => uptoBulk d + uptoBulkAll r
def uptoBulkEntries {H : Type} : List (Lit × DataW H) → Nat
  | [] => 0
  | x :: r => uptoBulkEntry x + uptoBulkEntries r
def uptoBulkEntry {H : Type} : Lit × DataW H → Nat
  | (.string bytes, d) => bytes.length + uptoBulk d + 1
  | (_, d) => uptoBulk d + 1
 end
def uptoSmall : (H : Type) → List (DataW H) → Bool := fun _ ds => decide (uptoBulkAll ds ≤ 1048576)
def OpenSpec.upto (s : _root_.Go.ChangeSpec) : _root_.Go.OpenSpec := { _root_.Go.OpenSpec.ofChange s with cond := some uptoSmall }

/-- 'laws.FnCatching', WHERE WHAT IT READS IS OF BULK AT MOST 1048576: true; the input reads as it did. -/
def fnCatchingUptoRow : OpenClaim := { program := "ytdkphcbllgnefaa", sum := "041b443d90781d295ea7cad9c37b11109df508ceda0ec9f15a5f0fa4dc9bb219", func := "loop.example/g00900/laws.FnCatching", spec := "fnCatching", unfollowed := true, recurses := true, apart := false, narrowed := true }
def FnCatchingUptoSaid : Prop := fnCatchingUptoRow.holds Try.pinned (OpenSpec.upto fnCatchingSpec)

/-- 'laws.FnWalking', WHERE WHAT IT READS IS OF BULK AT MOST 1048576: true; the input reads as it did. -/
def fnWalkingUptoRow : OpenClaim := { program := "ytdkphcbllgnefaa", sum := "041b443d90781d295ea7cad9c37b11109df508ceda0ec9f15a5f0fa4dc9bb219", func := "loop.example/g00900/laws.FnWalking", spec := "fnWalking", unfollowed := true, recurses := true, apart := false, narrowed := true }
def FnWalkingUptoSaid : Prop := fnWalkingUptoRow.holds Try.pinned (OpenSpec.upto fnWalkingSpec)

/-- 'laws.FnTripDelays', WHERE WHAT IT READS IS OF BULK AT MOST 1048576: true; the input reads as it did. -/
def fnTripDelaysUptoRow : OpenClaim := { program := "ytdkphcbllgnefaa", sum := "041b443d90781d295ea7cad9c37b11109df508ceda0ec9f15a5f0fa4dc9bb219", func := "loop.example/g00900/laws.FnTripDelays", spec := "fnTripDelays", unfollowed := true, recurses := true, apart := false, narrowed := true }
def FnTripDelaysUptoSaid : Prop := fnTripDelaysUptoRow.holds Try.pinned (OpenSpec.upto fnTripDelaysSpec)

end Rows
end Go.Proofs.Ytdkphcbllgnefaa
