/-
  No cell of these rows narrows 'for every input' (looked for: loops, veiled, ifaces, maps, wideKeys, modest, calm, conditions, laid).
  DERIVED. THE GIVEN ROWS OF THIS SEAT. 6 by the template 'for every input the law returns true; each argument reads behind the call as it read before'; 0 by the template 'total and deterministic' (their statements: YtdocbkbpjdjlpaaTotals.lean).
  GIVEN WITH THE SEED: the statements are not yours to turn. If you find one false, say at which input.
  Laid BY PROGRAM, IN A SANDBOX (cutbox-rows.mjs): the forced cells as the released guide's own fill.sh prints them over the translation 9f1376669e561510… (all of the seat's roots in one cut). By AI agents, Wed Nov 11 2026. No macro, syntax, notation, axiom, sorry.
-/
import Derived.Test.YtdocbkbpjdjlpaaChecked
import GoSem.Claim
import GoSem.ClaimJoined
import GoSem.ClaimMapViews
import Derived.JoinedTies
import Derived.KernelRfl
namespace Go.Proofs.Ytdocbkbpjdjlpaa
/- THE CELL 'sum', in the pinned program and in every row, IS THE sha256 OF THE DUMP (.gsa) THAT YtdocbkbpjdjlpaaProg.lean LOADS. Nothing in Lean hashes anything: it is a label: what it is worth is what the hold of that sum in a sandbox is worth. -/
noncomputable def Try.pinned : Pinned := { name := "ytdocbkbpjdjlpaa", sum := "9f1376669e561510b9b0411f58f44ddc62212e40a358658348595b6b1b4f2f26", checked := Try.checked }
namespace Rows
def none {H : Type} : Left H := { results := [], args := [] }

/-- 'laws.FnExactNewConsole': WHATEVER THE INPUT: true; the input reads as it did. -/
def fnExactNewConsoleSpec : ChangeSpec := { name := "fnExactNewConsole", fn := fun _ => fun
  | [d] => { results := [.lit (.bool true)], args := [d] }
  | _ => none }
def fnExactNewConsoleRow : OpenClaim := { program := "ytdocbkbpjdjlpaa", sum := "9f1376669e561510b9b0411f58f44ddc62212e40a358658348595b6b1b4f2f26", func := "loop.example/g00900/laws.FnExactNewConsole", spec := "fnExactNewConsole", apart := false }
def FnExactNewConsoleSaid : Prop := fnExactNewConsoleRow.holds Try.pinned (OpenSpec.ofChange fnExactNewConsoleSpec)

/-- ITS FALSE NEIGHBOUR: 'it returns false'. Refute it at one input. -/
def fnExactNewConsoleWrong : ChangeSpec := { name := "fnExactNewConsole", fn := fun _ => fun
  | [d] => { results := [.lit (.bool false)], args := [d] }
  | _ => none }
def FnExactNewConsoleWrongFalsely : Prop := fnExactNewConsoleRow.holds Try.pinned (OpenSpec.ofChange fnExactNewConsoleWrong)

/-- 'laws.FnOffsets': WHATEVER THE INPUT: true; the input reads as it did. -/
def fnOffsetsSpec : ChangeSpec := { name := "fnOffsets", fn := fun _ => fun
  | [d] => { results := [.lit (.bool true)], args := [d] }
  | _ => none }
def fnOffsetsRow : OpenClaim := { program := "ytdocbkbpjdjlpaa", sum := "9f1376669e561510b9b0411f58f44ddc62212e40a358658348595b6b1b4f2f26", func := "loop.example/g00900/laws.FnOffsets", spec := "fnOffsets", unfollowed := true, recurses := true, apart := false }
def FnOffsetsSaid : Prop := fnOffsetsRow.holds Try.pinned (OpenSpec.ofChange fnOffsetsSpec)

/-- ITS FALSE NEIGHBOUR: 'it returns false'. Refute it at one input. -/
def fnOffsetsWrong : ChangeSpec := { name := "fnOffsets", fn := fun _ => fun
  | [d] => { results := [.lit (.bool false)], args := [d] }
  | _ => none }
def FnOffsetsWrongFalsely : Prop := fnOffsetsRow.holds Try.pinned (OpenSpec.ofChange fnOffsetsWrong)

/-- 'laws.FnBoarding': WHATEVER THE INPUT: true; the input reads as it did. -/
def fnBoardingSpec : ChangeSpec := { name := "fnBoarding", fn := fun _ => fun
  | [d] => { results := [.lit (.bool true)], args := [d] }
  | _ => none }
def fnBoardingRow : OpenClaim := { program := "ytdocbkbpjdjlpaa", sum := "9f1376669e561510b9b0411f58f44ddc62212e40a358658348595b6b1b4f2f26", func := "loop.example/g00900/laws.FnBoarding", spec := "fnBoarding", unfollowed := true, recurses := true, apart := false }
def FnBoardingSaid : Prop := fnBoardingRow.holds Try.pinned (OpenSpec.ofChange fnBoardingSpec)

/-- ITS FALSE NEIGHBOUR: 'it returns false'. Refute it at one input. -/
def fnBoardingWrong : ChangeSpec := { name := "fnBoarding", fn := fun _ => fun
  | [d] => { results := [.lit (.bool false)], args := [d] }
  | _ => none }
def FnBoardingWrongFalsely : Prop := fnBoardingRow.holds Try.pinned (OpenSpec.ofChange fnBoardingWrong)

/-- 'laws.FnFlows': WHATEVER THE INPUT: true; the input reads as it did. -/
def fnFlowsSpec : ChangeSpec := { name := "fnFlows", fn := fun _ => fun
  | [d] => { results := [.lit (.bool true)], args := [d] }
  | _ => none }
def fnFlowsRow : OpenClaim := { program := "ytdocbkbpjdjlpaa", sum := "9f1376669e561510b9b0411f58f44ddc62212e40a358658348595b6b1b4f2f26", func := "loop.example/g00900/laws.FnFlows", spec := "fnFlows", unfollowed := true, recurses := true, apart := false }
def FnFlowsSaid : Prop := fnFlowsRow.holds Try.pinned (OpenSpec.ofChange fnFlowsSpec)

/-- ITS FALSE NEIGHBOUR: 'it returns false'. Refute it at one input. -/
def fnFlowsWrong : ChangeSpec := { name := "fnFlows", fn := fun _ => fun
  | [d] => { results := [.lit (.bool false)], args := [d] }
  | _ => none }
def FnFlowsWrongFalsely : Prop := fnFlowsRow.holds Try.pinned (OpenSpec.ofChange fnFlowsWrong)

/-- 'laws.FnPareto': WHATEVER THE INPUT: true; the input reads as it did. -/
def fnParetoSpec : ChangeSpec := { name := "fnPareto", fn := fun _ => fun
  | [d] => { results := [.lit (.bool true)], args := [d] }
  | _ => none }
def fnParetoRow : OpenClaim := { program := "ytdocbkbpjdjlpaa", sum := "9f1376669e561510b9b0411f58f44ddc62212e40a358658348595b6b1b4f2f26", func := "loop.example/g00900/laws.FnPareto", spec := "fnPareto", unfollowed := true, recurses := true, apart := false }
def FnParetoSaid : Prop := fnParetoRow.holds Try.pinned (OpenSpec.ofChange fnParetoSpec)

/-- ITS FALSE NEIGHBOUR: 'it returns false'. Refute it at one input. -/
def fnParetoWrong : ChangeSpec := { name := "fnPareto", fn := fun _ => fun
  | [d] => { results := [.lit (.bool false)], args := [d] }
  | _ => none }
def FnParetoWrongFalsely : Prop := fnParetoRow.holds Try.pinned (OpenSpec.ofChange fnParetoWrong)

/-- 'laws.FnProfile': WHATEVER THE INPUT: true; the input reads as it did. -/
def fnProfileSpec : ChangeSpec := { name := "fnProfile", fn := fun _ => fun
  | [d] => { results := [.lit (.bool true)], args := [d] }
  | _ => none }
def fnProfileRow : OpenClaim := { program := "ytdocbkbpjdjlpaa", sum := "9f1376669e561510b9b0411f58f44ddc62212e40a358658348595b6b1b4f2f26", func := "loop.example/g00900/laws.FnProfile", spec := "fnProfile", unfollowed := true, recurses := true, apart := false }
def FnProfileSaid : Prop := fnProfileRow.holds Try.pinned (OpenSpec.ofChange fnProfileSpec)

/-- ITS FALSE NEIGHBOUR: 'it returns false'. Refute it at one input. -/
def fnProfileWrong : ChangeSpec := { name := "fnProfile", fn := fun _ => fun
  | [d] => { results := [.lit (.bool false)], args := [d] }
  | _ => none }
def FnProfileWrongFalsely : Prop := fnProfileRow.holds Try.pinned (OpenSpec.ofChange fnProfileWrong)

/- THE SECOND FORM. 'bulk': how many values and letters a reading holds, each counted each time it is reached (what is shared counts as often as it is met; a slice's spare places count too). A statement '..UptoSaid' is the law's where the arguments, and the package variables that the reading takes, are together of bulk at most 1048576: NARROWER than '..Said'. Prove '..Said' where nothing that the law and all that it calls make is longer than what came in: it says more and counts as full. Else prove '..UptoSaid'. A law counts once. -/
mutual
def uptoBulk {H : Type} : DataW H → Nat
  | .lit (.string bytes) => bytes.length + 1
  | .lit _ => 1
  | .nil => 1
  | .ptr d => uptoBulk d + 1
  | .slice elems spare => uptoBulkAll elems + uptoBulkAll spare + 1
  | .agg parts => uptoBulkAll parts + 1
  | .iface _ d => uptoBulk d + 1
  | .map entries => uptoBulkEntries entries + 1
  | .held _ => 1
def uptoBulkAll {H : Type} : List (DataW H) → Nat
  | [] => 0
  | d :: r => uptoBulk d + uptoBulkAll r
def uptoBulkEntries {H : Type} : List (Lit × DataW H) → Nat
  | [] => 0
  | x :: r => uptoBulkEntry x + uptoBulkEntries r
def uptoBulkEntry {H : Type} : Lit × DataW H → Nat
  | (.string bytes, d) => bytes.length + uptoBulk d + 1
  | (_, d) => uptoBulk d + 1
 end
def uptoSmall : (H : Type) → List (DataW H) → Bool := fun _ ds => decide (uptoBulkAll ds ≤ 1048576)
def OpenSpec.upto (s : _root_.Go.ChangeSpec) : _root_.Go.OpenSpec := { _root_.Go.OpenSpec.ofChange s with cond := some uptoSmall }

/-- 'laws.FnExactNewConsole', WHERE WHAT IT READS IS OF BULK AT MOST 1048576: true; the input reads as it did. -/
def fnExactNewConsoleUptoRow : OpenClaim := { program := "ytdocbkbpjdjlpaa", sum := "9f1376669e561510b9b0411f58f44ddc62212e40a358658348595b6b1b4f2f26", func := "loop.example/g00900/laws.FnExactNewConsole", spec := "fnExactNewConsole", apart := false, narrowed := true }
def FnExactNewConsoleUptoSaid : Prop := fnExactNewConsoleUptoRow.holds Try.pinned (OpenSpec.upto fnExactNewConsoleSpec)

/-- 'laws.FnOffsets', WHERE WHAT IT READS IS OF BULK AT MOST 1048576: true; the input reads as it did. -/
def fnOffsetsUptoRow : OpenClaim := { program := "ytdocbkbpjdjlpaa", sum := "9f1376669e561510b9b0411f58f44ddc62212e40a358658348595b6b1b4f2f26", func := "loop.example/g00900/laws.FnOffsets", spec := "fnOffsets", unfollowed := true, recurses := true, apart := false, narrowed := true }
def FnOffsetsUptoSaid : Prop := fnOffsetsUptoRow.holds Try.pinned (OpenSpec.upto fnOffsetsSpec)

/-- 'laws.FnBoarding', WHERE WHAT IT READS IS OF BULK AT MOST 1048576: true; the input reads as it did. -/
def fnBoardingUptoRow : OpenClaim := { program := "ytdocbkbpjdjlpaa", sum := "9f1376669e561510b9b0411f58f44ddc62212e40a358658348595b6b1b4f2f26", func := "loop.example/g00900/laws.FnBoarding", spec := "fnBoarding", unfollowed := true, recurses := true, apart := false, narrowed := true }
def FnBoardingUptoSaid : Prop := fnBoardingUptoRow.holds Try.pinned (OpenSpec.upto fnBoardingSpec)

/-- 'laws.FnFlows', WHERE WHAT IT READS IS OF BULK AT MOST 1048576: true; the input reads as it did. -/
def fnFlowsUptoRow : OpenClaim := { program := "ytdocbkbpjdjlpaa", sum := "9f1376669e561510b9b0411f58f44ddc62212e40a358658348595b6b1b4f2f26", func := "loop.example/g00900/laws.FnFlows", spec := "fnFlows", unfollowed := true, recurses := true, apart := false, narrowed := true }
def FnFlowsUptoSaid : Prop := fnFlowsUptoRow.holds Try.pinned (OpenSpec.upto fnFlowsSpec)

/-- 'laws.FnPareto', WHERE WHAT IT READS IS OF BULK AT MOST 1048576: true; the input reads as it did. -/
def fnParetoUptoRow : OpenClaim := { program := "ytdocbkbpjdjlpaa", sum := "9f1376669e561510b9b0411f58f44ddc62212e40a358658348595b6b1b4f2f26", func := "loop.example/g00900/laws.FnPareto", spec := "fnPareto", unfollowed := true, recurses := true, apart := false, narrowed := true }
def FnParetoUptoSaid : Prop := fnParetoUptoRow.holds Try.pinned (OpenSpec.upto fnParetoSpec)

/-- 'laws.FnProfile', WHERE WHAT IT READS IS OF BULK AT MOST 1048576: true; the input reads as it did. -/
def fnProfileUptoRow : OpenClaim := { program := "ytdocbkbpjdjlpaa", sum := "9f1376669e561510b9b0411f58f44ddc62212e40a358658348595b6b1b4f2f26", func := "loop.example/g00900/laws.FnProfile", spec := "fnProfile", unfollowed := true, recurses := true, apart := false, narrowed := true }
def FnProfileUptoSaid : Prop := fnProfileUptoRow.holds Try.pinned (OpenSpec.upto fnProfileSpec)

end Rows
end Go.Proofs.Ytdocbkbpjdjlpaa
