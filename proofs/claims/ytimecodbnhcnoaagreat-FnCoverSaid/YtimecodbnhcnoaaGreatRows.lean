/-
  No cell of these rows narrows 'for every input' (looked for: loops, veiled, ifaces, maps, wideKeys, modest, calm, conditions, laid).
  DERIVED. THE GIVEN ROWS OF THIS SEAT. 2 by the template 'for every input the law returns true; each argument reads behind the call as it read before'; 0 by the template 'total and deterministic' (their statements: YtimecodbnhcnoaaGreatTotals.lean).
  GIVEN WITH THE SEED: the statements are not yours to turn. If you find one false, say at which input.
  Laid BY PROGRAM, IN A SANDBOX (cutbox-rows.mjs): the forced cells as the released guide's own fill.sh prints them over the translation f4dbe7bfe5db0388… (all of the seat's roots in one cut). By AI agents, Wed Nov 11 2026. No macro, syntax, notation, axiom, sorry.
-/
import Derived.Test.YtimecodbnhcnoaaGreatChecked
import GoSem.Claim
import GoSem.ClaimJoined
import GoSem.ClaimMapViews
import Derived.JoinedTies
import Derived.KernelRfl
namespace Go.Proofs.YtimecodbnhcnoaaGreat
/- THE CELL 'sum', in the pinned program and in every row, IS THE sha256 OF THE DUMP (.gsa) THAT YtimecodbnhcnoaaGreatProg.lean LOADS. Nothing in Lean hashes anything: it is a label: what it is worth is what the hold of that sum in a sandbox is worth. -/
noncomputable def Tryz.pinned : Pinned := { name := "ytimecodbnhcnoaagreat", sum := "f4dbe7bfe5db0388e2dd161f8fe248563a8a739e633642d11d6688f8f85a077f", checked := Tryz.checked }
namespace Rows
def none {H : Type} : Left H := { results := [], args := [] }

/-- 'laws.FnCutting': WHATEVER THE INPUT: true; the input reads as it did. -/
def fnCuttingSpec : ChangeSpec := { name := "fnCutting", fn := fun _ => fun
  | [d] => { results := [.lit (.bool true)], args := [d] }
  | _ => none }
def fnCuttingRow : OpenClaim := { program := "ytimecodbnhcnoaagreat", sum := "f4dbe7bfe5db0388e2dd161f8fe248563a8a739e633642d11d6688f8f85a077f", func := "loop.example/g00900/laws.FnCutting", spec := "fnCutting", unfollowed := true, recurses := true, plainKeys := false, apart := false }
def FnCuttingSaid : Prop := fnCuttingRow.holds Tryz.pinned (OpenSpec.ofChange fnCuttingSpec)

/-- ITS FALSE NEIGHBOUR: 'it returns false'. Refute it at one input. -/
def fnCuttingWrong : ChangeSpec := { name := "fnCutting", fn := fun _ => fun
  | [d] => { results := [.lit (.bool false)], args := [d] }
  | _ => none }
def FnCuttingWrongFalsely : Prop := fnCuttingRow.holds Tryz.pinned (OpenSpec.ofChange fnCuttingWrong)

/-- 'laws.FnCover': WHATEVER THE INPUT: true; the input reads as it did. -/
def fnCoverSpec : ChangeSpec := { name := "fnCover", fn := fun _ => fun
  | [d] => { results := [.lit (.bool true)], args := [d] }
  | _ => none }
def fnCoverRow : OpenClaim := { program := "ytimecodbnhcnoaagreat", sum := "f4dbe7bfe5db0388e2dd161f8fe248563a8a739e633642d11d6688f8f85a077f", func := "loop.example/g00900/laws.FnCover", spec := "fnCover", unfollowed := true, recurses := true, plainKeys := false, apart := false }
def FnCoverSaid : Prop := fnCoverRow.holds Tryz.pinned (OpenSpec.ofChange fnCoverSpec)

/-- ITS FALSE NEIGHBOUR: 'it returns false'. Refute it at one input. -/
def fnCoverWrong : ChangeSpec := { name := "fnCover", fn := fun _ => fun
  | [d] => { results := [.lit (.bool false)], args := [d] }
  | _ => none }
def FnCoverWrongFalsely : Prop := fnCoverRow.holds Tryz.pinned (OpenSpec.ofChange fnCoverWrong)

/- THE SECOND FORM. 'bulk': how many values and letters a reading holds, each counted each time it is reached (what is shared counts as often as it is met; a slice's spare places count too). A statement '..UptoSaid' is the law's where the arguments, and the package variables that the reading takes, are together of bulk at most 1048576: NARROWER than '..Said'. Prove '..Said' where nothing that the law and all that it calls make is longer than what came in: it says more and counts as full. Else prove '..UptoSaid'. A law counts once. -/
mutual
def uptoBulk {H : Type} : DataW H → Nat
  | .lit (.string bytes) => bytes.length + 1
  | .lit _ => 1
  | .nil => 1
  | .ptr d => uptoBulk d + 1
  | .slice elems spare => uptoBulkAll elems + uptoBulkAll spare + 1
  | .agg parts => uptoBulkAll parts + 1
  | .iface _ d => uptoBulk d + 1
  | .map entries => uptoBulkEntries entries + 1
  | .held _ => 1
def uptoBulkAll {H : Type} : List (DataW H) → Nat
  | [] => 0
  | d :: r => uptoBulk d + uptoBulkAll r
def uptoBulkEntries {H : Type} : List (Lit × DataW H) → Nat
  | [] => 0
  | x :: r => uptoBulkEntry x + uptoBulkEntries r
def uptoBulkEntry {H : Type} : Lit × DataW H → Nat
  | (.string bytes, d) => bytes.length + uptoBulk d + 1
  | (_, d) => uptoBulk d + 1
 end
def uptoSmall : (H : Type) → List (DataW H) → Bool := fun _ ds => decide (uptoBulkAll ds ≤ 1048576)
def OpenSpec.upto (s : _root_.Go.ChangeSpec) : _root_.Go.OpenSpec := { _root_.Go.OpenSpec.ofChange s with cond := some uptoSmall }

/-- 'laws.FnCutting', WHERE WHAT IT READS IS OF BULK AT MOST 1048576: true; the input reads as it did. -/
def fnCuttingUptoRow : OpenClaim := { program := "ytimecodbnhcnoaagreat", sum := "f4dbe7bfe5db0388e2dd161f8fe248563a8a739e633642d11d6688f8f85a077f", func := "loop.example/g00900/laws.FnCutting", spec := "fnCutting", unfollowed := true, recurses := true, plainKeys := false, apart := false, narrowed := true }
def FnCuttingUptoSaid : Prop := fnCuttingUptoRow.holds Tryz.pinned (OpenSpec.upto fnCuttingSpec)

/-- 'laws.FnCover', WHERE WHAT IT READS IS OF BULK AT MOST 1048576: true; the input reads as it did. -/
def fnCoverUptoRow : OpenClaim := { program := "ytimecodbnhcnoaagreat", sum := "f4dbe7bfe5db0388e2dd161f8fe248563a8a739e633642d11d6688f8f85a077f", func := "loop.example/g00900/laws.FnCover", spec := "fnCover", unfollowed := true, recurses := true, plainKeys := false, apart := false, narrowed := true }
def FnCoverUptoSaid : Prop := fnCoverUptoRow.holds Tryz.pinned (OpenSpec.upto fnCoverSpec)

end Rows
end Go.Proofs.YtimecodbnhcnoaaGreat
