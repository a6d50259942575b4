/- My own layer: slices.Insert(s, i, v..) at elements of any size, walked once for every program and every numbering. -/
import Derived.Test.YtjahononbnbjnaaAbC0
import Derived.Shelf.Spec.SlicesInsertGrow
import Derived.Deep.WholeRow
set_option linter.unusedVariables false
set_option linter.unusedSimpArgs false
namespace Go.Ab
set_option linter.unusedVariables false
set_option linter.unusedSimpArgs false
open Go.Shelf Go.RowKit Go.Lib Go.Proofs
variable {P : Program} {J : Inv} {ρ : Ren}

structure InsL (P : Program) (ρ : Ren) (i0 : TypeInfo) (z : Value) (es : Nat) : Prop where
 mixed : P.follows .mixedOrders = true
 t3 : P.underlying (ρ.t 3) = some (TypeDesc.int IntKind.i64)
 a3 : ∀ w, (isAgg (ρ.t 3)).run P w = .ok false w
 z3 : ∀ w, (Go.sizeOf (ρ.t 3)).run P w = .ok 1 w
 v3 : ∀ w, (zeroValue (ρ.t 3)).run P w = .ok (Value.int IntKind.i64 0) w
 t4 : P.underlying (ρ.t 4) = some (TypeDesc.bool)
 a4 : ∀ w, (isAgg (ρ.t 4)).run P w = .ok false w
 z4 : ∀ w, (Go.sizeOf (ρ.t 4)).run P w = .ok 1 w
 v4 : ∀ w, (zeroValue (ρ.t 4)).run P w = .ok (Value.bool false) w
 t24 : P.underlying (ρ.t 24) = some (TypeDesc.slice (ρ.t 9))
 a24 : ∀ w, (isAgg (ρ.t 24)).run P w = .ok false w
 z24 : ∀ w, (Go.sizeOf (ρ.t 24)).run P w = .ok 1 w
 v24 : ∀ w, (zeroValue (ρ.t 24)).run P w = .ok (Value.slice none 0 0) w
 i9 : P.info? (ρ.t 9) = some i0
 z9 : ∀ w, (Go.sizeOf (ρ.t 9)).run P w = .ok es w
 size : i0.size = es
 v9 : i0.zero = some z
 pos : 0 < es

set_option maxHeartbeats 4000000 in
set_option maxRecDepth 100000 in
set_option maxHeartbeats 4000000 in
set_option maxRecDepth 100000 in
set_option maxHeartbeats 4000000 in
set_option maxRecDepth 100000 in
theorem ret_arr {S : FnSpec} {ds : List D} {obs : List Obj'} {κ : Kap} {F : Nat → Prop} {w w' : World} {v0 v' : Value} {E : TypeId} {es : Nat} {y : List D} {xs : List Value} (hpost : S.post ds obs (.own 0) [.arr E es y] [])
  (hFl : ∀ b, F b → b < w.heap.size) (hg : w.grownBy w' (blk v0)) (hb : blk v' = blk v0 ∨ blk v' = some w.heap.size) (hl : ∀ b, blk v0 = some b → Lent κ obs b ∧ ¬ F b)
  (hown : Own w' E es v' y.length xs) (hre : RE F w' es y xs) (pos : 0 < es) :
  ∃ r new obs' κ' κl F', Ret S ds obs κ F w v' w' r new obs' κ' κl F' := by
 obtain ⟨a', c', hv'⟩ := hown.slice
 refine ⟨.own 0, [.arr E es y], [], fun _ => ⟨v', fun _ _ => undef⟩, κ, F, ?_⟩
 refine ⟨hpost, fun _ h => h, fun _ h => .inl h, fun b hb => Nat.lt_of_lt_of_le (hFl b hb) hg.size, ⟨hg.os, hg.tape, hg.output, hg.size, fun b hb => hg.block b hb.1 fun e => hb.2 (hl b e.symm).1⟩, ?_, ?_, ?_, ⟨?_, ?_, ?_⟩, ⟨?_, ?_, ?_⟩, ?_⟩
 ·unfold RV; exact ⟨rfl, by rw [hv']; rfl⟩
 ·unfold NB; simp
 ·intro i x j y hx; simp at hx
 ·intro j x hj
  rcases j with _ | j
  ·simp only [List.getElem?_cons_zero, Option.some.injEq] at hj
   subst hj
   exact ⟨⟨_, hown, hre, pos⟩, trivial⟩
  ·simp at hj
 ·intro j x hj b hbk
  rcases j with _ | j
  ·simp only [List.getElem?_cons_zero, Option.some.injEq] at hj
   subst hj
   rcases hbk with hbk | hbk
   ·have hbk : blk v' = some b := hbk
    rcases hb with g3 | g3
    ·rw [g3] at hbk
     exact ⟨.inl (hl b hbk).1, (hl b hbk).2⟩
    ·rw [g3] at hbk
     cases hbk
     exact ⟨.inr (Nat.le_refl _), fun hF => absurd (hFl _ hF) (Nat.lt_irrefl _)⟩
   ·exact hbk.elim
  ·simp at hj
 ·intro i x j y hx hy hne
  rcases i with _ | i
  ·rcases j with _ | j
   ·exact absurd rfl hne
   ·simp at hy
  ·simp at hx
 ·intro j x hj; simp at hj
 ·intro j x hj; simp at hj
 ·intro i x j y hx; simp at hx
 ·intro j hj; simp at hj

noncomputable def insM {α : Type} (a : List α) (i : Int) (v : List α) : Option (List α) :=
 if 0 ≤ i ∧ i ≤ a.length ∧ 0 < v.length ∧ a.length + v.length ≤ 4294967296 then some (a.take i.toNat ++ v ++ a.drop i.toNat) else none
noncomputable def insS (E : TypeId) (α : Type) [Enc α] : MS (List α × Int × List α) (List α) :=
 ⟨.x (.m E) (.x .r (.m E)), fun x => insM x.1 x.2.1 x.2.2, fun _ => .own 0, fun y => [arO E y], fun _ _ => []⟩

theorem run_zeroValue' {t : TypeId} {x : TyE} (h : TyOK P t x) (w : World) : (zeroValue t).run P w = .ok x.zero w := by
 obtain ⟨_, i, h1, _, _, h4, _⟩ := h
 simp [zeroValue, typeInfo, h1, h4]

end Go.Ab
