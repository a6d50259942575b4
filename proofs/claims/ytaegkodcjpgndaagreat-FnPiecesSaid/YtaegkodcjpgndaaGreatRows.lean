/-
  No cell of these rows narrows 'for every input' (looked for: loops, veiled, ifaces, maps, wideKeys, modest, calm, conditions, laid).
  DERIVED. THE GIVEN ROWS OF THIS SEAT. 6 by the template 'for every input the law returns true; each argument reads behind the call as it read before'; 0 by the template 'total and deterministic' (their statements: YtaegkodcjpgndaaGreatTotals.lean).
  GIVEN WITH THE SEED: the statements are not yours to turn. If you find one false, say at which input.
  Laid BY PROGRAM, IN A SANDBOX (cutbox-rows.mjs): the forced cells as the released guide's own fill.sh prints them over the translation 728b0727c658d697… (all of the seat's roots in one cut). By AI agents, Wed Nov 11 2026. No macro, syntax, notation, axiom, sorry.
-/
import Derived.Test.YtaegkodcjpgndaaGreatChecked
import GoSem.Claim
import GoSem.ClaimJoined
import GoSem.ClaimMapViews
import Derived.JoinedTies
import Derived.KernelRfl
namespace Go.Proofs.YtaegkodcjpgndaaGreat
/- THE CELL 'sum', in the pinned program and in every row, IS THE sha256 OF THE DUMP (.gsa) THAT YtaegkodcjpgndaaGreatProg.lean LOADS. Nothing in Lean hashes anything: it is a label: what it is worth is what the hold of that sum in a sandbox is worth. -/
noncomputable def Tryz.pinned : Pinned := { name := "ytaegkodcjpgndaagreat", sum := "728b0727c658d6978649be151b00dba59ef3c0284e29cedfa174a9d6900ef19b", checked := Tryz.checked }
namespace Rows
def none {H : Type} : Left H := { results := [], args := [] }

/-- 'laws.FnKept': WHATEVER THE INPUT: true; the input reads as it did. -/
def fnKeptSpec : ChangeSpec := { name := "fnKept", fn := fun _ => fun
  | [d] => { results := [.lit (.bool true)], args := [d] }
  | _ => none }
def fnKeptRow : OpenClaim := { program := "ytaegkodcjpgndaagreat", sum := "728b0727c658d6978649be151b00dba59ef3c0284e29cedfa174a9d6900ef19b", func := "loop.example/g00900/laws.FnKept", spec := "fnKept", unfollowed := true, recurses := true, apart := false }
def FnKeptSaid : Prop := fnKeptRow.holds Tryz.pinned (OpenSpec.ofChange fnKeptSpec)

/-- ITS FALSE NEIGHBOUR: 'it returns false'. Refute it at one input. -/
def fnKeptWrong : ChangeSpec := { name := "fnKept", fn := fun _ => fun
  | [d] => { results := [.lit (.bool false)], args := [d] }
  | _ => none }
def FnKeptWrongFalsely : Prop := fnKeptRow.holds Tryz.pinned (OpenSpec.ofChange fnKeptWrong)

/-- 'laws.FnDelays': WHATEVER THE INPUT: true; the input reads as it did. -/
def fnDelaysSpec : ChangeSpec := { name := "fnDelays", fn := fun _ => fun
  | [d] => { results := [.lit (.bool true)], args := [d] }
  | _ => none }
def fnDelaysRow : OpenClaim := { program := "ytaegkodcjpgndaagreat", sum := "728b0727c658d6978649be151b00dba59ef3c0284e29cedfa174a9d6900ef19b", func := "loop.example/g00900/laws.FnDelays", spec := "fnDelays", unfollowed := true, recurses := true, apart := false }
def FnDelaysSaid : Prop := fnDelaysRow.holds Tryz.pinned (OpenSpec.ofChange fnDelaysSpec)

/-- ITS FALSE NEIGHBOUR: 'it returns false'. Refute it at one input. -/
def fnDelaysWrong : ChangeSpec := { name := "fnDelays", fn := fun _ => fun
  | [d] => { results := [.lit (.bool false)], args := [d] }
  | _ => none }
def FnDelaysWrongFalsely : Prop := fnDelaysRow.holds Tryz.pinned (OpenSpec.ofChange fnDelaysWrong)

/-- 'laws.FnRecovery': WHATEVER THE INPUT: true; the input reads as it did. -/
def fnRecoverySpec : ChangeSpec := { name := "fnRecovery", fn := fun _ => fun
  | [d] => { results := [.lit (.bool true)], args := [d] }
  | _ => none }
def fnRecoveryRow : OpenClaim := { program := "ytaegkodcjpgndaagreat", sum := "728b0727c658d6978649be151b00dba59ef3c0284e29cedfa174a9d6900ef19b", func := "loop.example/g00900/laws.FnRecovery", spec := "fnRecovery", unfollowed := true, recurses := true, apart := false }
def FnRecoverySaid : Prop := fnRecoveryRow.holds Tryz.pinned (OpenSpec.ofChange fnRecoverySpec)

/-- ITS FALSE NEIGHBOUR: 'it returns false'. Refute it at one input. -/
def fnRecoveryWrong : ChangeSpec := { name := "fnRecovery", fn := fun _ => fun
  | [d] => { results := [.lit (.bool false)], args := [d] }
  | _ => none }
def FnRecoveryWrongFalsely : Prop := fnRecoveryRow.holds Tryz.pinned (OpenSpec.ofChange fnRecoveryWrong)

/-- 'laws.FnMatches': WHATEVER THE INPUT: true; the input reads as it did. -/
def fnMatchesSpec : ChangeSpec := { name := "fnMatches", fn := fun _ => fun
  | [d] => { results := [.lit (.bool true)], args := [d] }
  | _ => none }
def fnMatchesRow : OpenClaim := { program := "ytaegkodcjpgndaagreat", sum := "728b0727c658d6978649be151b00dba59ef3c0284e29cedfa174a9d6900ef19b", func := "loop.example/g00900/laws.FnMatches", spec := "fnMatches", unfollowed := true, recurses := true, apart := false }
def FnMatchesSaid : Prop := fnMatchesRow.holds Tryz.pinned (OpenSpec.ofChange fnMatchesSpec)

/-- ITS FALSE NEIGHBOUR: 'it returns false'. Refute it at one input. -/
def fnMatchesWrong : ChangeSpec := { name := "fnMatches", fn := fun _ => fun
  | [d] => { results := [.lit (.bool false)], args := [d] }
  | _ => none }
def FnMatchesWrongFalsely : Prop := fnMatchesRow.holds Tryz.pinned (OpenSpec.ofChange fnMatchesWrong)

/-- 'laws.FnDuty': WHATEVER THE INPUT: true; the input reads as it did. -/
def fnDutySpec : ChangeSpec := { name := "fnDuty", fn := fun _ => fun
  | [d] => { results := [.lit (.bool true)], args := [d] }
  | _ => none }
def fnDutyRow : OpenClaim := { program := "ytaegkodcjpgndaagreat", sum := "728b0727c658d6978649be151b00dba59ef3c0284e29cedfa174a9d6900ef19b", func := "loop.example/g00900/laws.FnDuty", spec := "fnDuty", unfollowed := true, recurses := true, apart := false }
def FnDutySaid : Prop := fnDutyRow.holds Tryz.pinned (OpenSpec.ofChange fnDutySpec)

/-- ITS FALSE NEIGHBOUR: 'it returns false'. Refute it at one input. -/
def fnDutyWrong : ChangeSpec := { name := "fnDuty", fn := fun _ => fun
  | [d] => { results := [.lit (.bool false)], args := [d] }
  | _ => none }
def FnDutyWrongFalsely : Prop := fnDutyRow.holds Tryz.pinned (OpenSpec.ofChange fnDutyWrong)

/-- 'laws.FnPieces': WHATEVER THE INPUT: true; the input reads as it did. -/
def fnPiecesSpec : ChangeSpec := { name := "fnPieces", fn := fun _ => fun
  | [d] => { results := [.lit (.bool true)], args := [d] }
  | _ => none }
def fnPiecesRow : OpenClaim := { program := "ytaegkodcjpgndaagreat", sum := "728b0727c658d6978649be151b00dba59ef3c0284e29cedfa174a9d6900ef19b", func := "loop.example/g00900/laws.FnPieces", spec := "fnPieces", unfollowed := true, recurses := true, apart := false }
def FnPiecesSaid : Prop := fnPiecesRow.holds Tryz.pinned (OpenSpec.ofChange fnPiecesSpec)

/-- ITS FALSE NEIGHBOUR: 'it returns false'. Refute it at one input. -/
def fnPiecesWrong : ChangeSpec := { name := "fnPieces", fn := fun _ => fun
  | [d] => { results := [.lit (.bool false)], args := [d] }
  | _ => none }
def FnPiecesWrongFalsely : Prop := fnPiecesRow.holds Tryz.pinned (OpenSpec.ofChange fnPiecesWrong)

/- THE SECOND FORM. 'bulk': how many values and letters a reading holds, each counted each time it is reached (what is shared counts as often as it is met; a slice's spare places count too). A statement '..UptoSaid' is the law's where the arguments, and the package variables that the reading takes, are together of bulk at most 1048576: NARROWER than '..Said'. Prove '..Said' where nothing that the law and all that it calls make is longer than what came in: it says more and counts as full. Else prove '..UptoSaid'. A law counts once. -/
mutual
def uptoBulk {H : Type} : DataW H → Nat
  | .lit (.string bytes) => bytes.length + 1
  | .lit _ => 1
  | .nil => 1
  | .ptr d => uptoBulk d + 1
  | .slice elems spare => uptoBulkAll elems + uptoBulkAll spare + 1
  | .agg parts => uptoBulkAll parts + 1
  | .iface _ d => uptoBulk d + 1
  | .map entries => uptoBulkEntries entries + 1
  | .held _ => 1
def uptoBulkAll {H : Type} : List (DataW H) → Nat
  | [] => 0
  | d :: r => uptoBulk d + uptoBulkAll r
def uptoBulkEntries {H : Type} : List (Lit × DataW H) → Nat
  | [] => 0
  | x :: r => uptoBulkEntry x + uptoBulkEntries r
def uptoBulkEntry {H : Type} : Lit × DataW H → Nat
  | (.string bytes, d) => bytes.length + uptoBulk d + 1
  | (_, d) => uptoBulk d + 1
 end
def uptoSmall : (H : Type) → List (DataW H) → Bool := fun _ ds => decide (uptoBulkAll ds ≤ 1048576)
def OpenSpec.upto (s : _root_.Go.ChangeSpec) : _root_.Go.OpenSpec := { _root_.Go.OpenSpec.ofChange s with cond := some uptoSmall }

/-- 'laws.FnKept', WHERE WHAT IT READS IS OF BULK AT MOST 1048576: true; the input reads as it did. -/
def fnKeptUptoRow : OpenClaim := { program := "ytaegkodcjpgndaagreat", sum := "728b0727c658d6978649be151b00dba59ef3c0284e29cedfa174a9d6900ef19b", func := "loop.example/g00900/laws.FnKept", spec := "fnKept", unfollowed := true, recurses := true, apart := false, narrowed := true }
def FnKeptUptoSaid : Prop := fnKeptUptoRow.holds Tryz.pinned (OpenSpec.upto fnKeptSpec)

/-- 'laws.FnDelays', WHERE WHAT IT READS IS OF BULK AT MOST 1048576: true; the input reads as it did. -/
def fnDelaysUptoRow : OpenClaim := { program := "ytaegkodcjpgndaagreat", sum := "728b0727c658d6978649be151b00dba59ef3c0284e29cedfa174a9d6900ef19b", func := "loop.example/g00900/laws.FnDelays", spec := "fnDelays", unfollowed := true, recurses := true, apart := false, narrowed := true }
def FnDelaysUptoSaid : Prop := fnDelaysUptoRow.holds Tryz.pinned (OpenSpec.upto fnDelaysSpec)

/-- 'laws.FnRecovery', WHERE WHAT IT READS IS OF BULK AT MOST 1048576: true; the input reads as it did. -/
def fnRecoveryUptoRow : OpenClaim := { program := "ytaegkodcjpgndaagreat", sum := "728b0727c658d6978649be151b00dba59ef3c0284e29cedfa174a9d6900ef19b", func := "loop.example/g00900/laws.FnRecovery", spec := "fnRecovery", unfollowed := true, recurses := true, apart := false, narrowed := true }
def FnRecoveryUptoSaid : Prop := fnRecoveryUptoRow.holds Tryz.pinned (OpenSpec.upto fnRecoverySpec)

/-- 'laws.FnMatches', WHERE WHAT IT READS IS OF BULK AT MOST 1048576: true; the input reads as it did. -/
def fnMatchesUptoRow : OpenClaim := { program := "ytaegkodcjpgndaagreat", sum := "728b0727c658d6978649be151b00dba59ef3c0284e29cedfa174a9d6900ef19b", func := "loop.example/g00900/laws.FnMatches", spec := "fnMatches", unfollowed := true, recurses := true, apart := false, narrowed := true }
def FnMatchesUptoSaid : Prop := fnMatchesUptoRow.holds Tryz.pinned (OpenSpec.upto fnMatchesSpec)

/-- 'laws.FnDuty', WHERE WHAT IT READS IS OF BULK AT MOST 1048576: true; the input reads as it did. -/
def fnDutyUptoRow : OpenClaim := { program := "ytaegkodcjpgndaagreat", sum := "728b0727c658d6978649be151b00dba59ef3c0284e29cedfa174a9d6900ef19b", func := "loop.example/g00900/laws.FnDuty", spec := "fnDuty", unfollowed := true, recurses := true, apart := false, narrowed := true }
def FnDutyUptoSaid : Prop := fnDutyUptoRow.holds Tryz.pinned (OpenSpec.upto fnDutySpec)

/-- 'laws.FnPieces', WHERE WHAT IT READS IS OF BULK AT MOST 1048576: true; the input reads as it did. -/
def fnPiecesUptoRow : OpenClaim := { program := "ytaegkodcjpgndaagreat", sum := "728b0727c658d6978649be151b00dba59ef3c0284e29cedfa174a9d6900ef19b", func := "loop.example/g00900/laws.FnPieces", spec := "fnPieces", unfollowed := true, recurses := true, apart := false, narrowed := true }
def FnPiecesUptoSaid : Prop := fnPiecesUptoRow.holds Tryz.pinned (OpenSpec.upto fnPiecesSpec)

end Rows
end Go.Proofs.YtaegkodcjpgndaaGreat
