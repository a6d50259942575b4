/- My own layer: slices.Insert(s, i, v..) at elements of any size, walked once for every program and every numbering. -/
import Derived.Test.YtimaoofeephgjaaGreatDoorAbC0
import Derived.Shelf.Spec.SlicesInsertGrow
import Derived.Deep.WholeRow
set_option linter.unusedVariables false
set_option linter.unusedSimpArgs false
namespace Go.Ab
set_option linter.unusedVariables false
set_option linter.unusedSimpArgs false
open Go.Shelf Go.RowKit Go.Lib Go.Proofs
variable {P : Program} {J : Inv} {ρ : Ren}

structure InsL (P : Program) (ρ : Ren) (i0 : TypeInfo) (z : Value) (es : Nat) : Prop where
 mixed : P.follows .mixedOrders = true
 t3 : P.underlying (ρ.t 3) = some (TypeDesc.int IntKind.i64)
 a3 : ∀ w, (isAgg (ρ.t 3)).run P w = .ok false w
 z3 : ∀ w, (Go.sizeOf (ρ.t 3)).run P w = .ok 1 w
 v3 : ∀ w, (zeroValue (ρ.t 3)).run P w = .ok (Value.int IntKind.i64 0) w
 t4 : P.underlying (ρ.t 4) = some (TypeDesc.bool)
 a4 : ∀ w, (isAgg (ρ.t 4)).run P w = .ok false w
 z4 : ∀ w, (Go.sizeOf (ρ.t 4)).run P w = .ok 1 w
 v4 : ∀ w, (zeroValue (ρ.t 4)).run P w = .ok (Value.bool false) w
 t24 : P.underlying (ρ.t 24) = some (TypeDesc.slice (ρ.t 9))
 a24 : ∀ w, (isAgg (ρ.t 24)).run P w = .ok false w
 z24 : ∀ w, (Go.sizeOf (ρ.t 24)).run P w = .ok 1 w
 v24 : ∀ w, (zeroValue (ρ.t 24)).run P w = .ok (Value.slice none 0 0) w
 i9 : P.info? (ρ.t 9) = some i0
 z9 : ∀ w, (Go.sizeOf (ρ.t 9)).run P w = .ok es w
 size : i0.size = es
 v9 : i0.zero = some z
 pos : 0 < es

set_option maxHeartbeats 4000000 in
set_option maxRecDepth 100000 in
set_option maxHeartbeats 4000000 in
set_option maxRecDepth 100000 in
set_option maxHeartbeats 4000000 in
set_option maxRecDepth 100000 in
noncomputable def insM {α : Type} (a : List α) (i : Int) (v : List α) : Option (List α) :=
 if 0 ≤ i ∧ i ≤ a.length ∧ 0 < v.length ∧ a.length + v.length ≤ 4294967296 then some (a.take i.toNat ++ v ++ a.drop i.toNat) else none
noncomputable def insS (E : TypeId) (α : Type) [Enc α] : MS (List α × Int × List α) (List α) :=
 ⟨.x (.m E) (.x .r (.m E)), fun x => insM x.1 x.2.1 x.2.2, fun _ => .own 0, fun y => [arO E y], fun _ _ => []⟩

end Go.Ab
