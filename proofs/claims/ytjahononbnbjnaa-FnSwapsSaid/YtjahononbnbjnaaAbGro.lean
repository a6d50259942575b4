/- My own layer: slices.Grow at elements of any size, by the kit's proof over any program. -/
import Derived.Test.YtjahononbnbjnaaAbIns
import Derived.Shelf.Spec.SlicesGrow
set_option linter.unusedVariables false
set_option linter.unusedSimpArgs false
namespace Go.Ab
set_option linter.unusedVariables false
set_option linter.unusedSimpArgs false
open Go.Shelf Go.RowKit Go.Lib Go.Proofs
variable {P : Program} {J : Inv} {ρ : Ren}

theorem gro_run (L : Lays8.n4 P ρ) {i0 : TypeInfo} {z : Value} {es : Nat} (hi0 : P.info? (ρ.t 25) = some i0) (hz0 : i0.zero = some z) (hs : i0.size = es) (hpos : 0 < es) (hzs : z.cells.size = es) (hbytes : i0.bytes ≤ 32768) (w : World) (v0 : Value) (l n : Nat) (us : List Value)
  (hE : Nat.ble (ρ.t 25) 4294967295 = true) (h0 : Own w (ρ.t 25) es v0 l us) (hbig : l + n ≤ 4294967296) :
  Calls P (ρ.f 4) #[v0, .int .i64 n] w fun e w' => ∃ v', e = .returned v' ∧ Own w' (ρ.t 25) es v' l us ∧ w.grownBy w' (blk v0) ∧ (blk v' = blk v0 ∨ blk v' = some w.heap.size) := by
 have hbb : (l + n) * i0.bytes ≤ 140737488355328 := by
  have := Nat.mul_le_mul hbig hbytes
  omega
 have grow : ∀ (base : Option Addr) (c : Nat) (cs : List Value), v0 = .slice base l c → l ≤ c → c < l + n → cs.length = c * es → (base = none → c = 0) → (∀ a, base = some a → ∀ j v, cs[j]? = some v → w.cell? (a.add j) = some v) → cs.take (l * es) = us →
   Calls P (ρ.f 4) #[v0, .int .i64 n] w fun e w' => ∃ v', e = .returned v' ∧ Own w' (ρ.t 25) es v' l us ∧ w.grownBy w' (blk v0) ∧ (blk v' = blk v0 ∨ blk v' = some w.heap.size) := by
  intro base c cs hv hlc hroom hcl hnil hcs htake
  subst hv
  refine Calls.mono (Any8.slices_Grow_grow L i0 z hi0 hz0 (by rw [hs]; exact hpos) base l c n cs w hlc hroom hbb (by omega) (by rw [hs]; exact hcl) hnil hcs) ?_
  rintro e w' ⟨rfl, rfl⟩
  have hge := grownCap_ge w (l + n) c (ρ.t 25)
  have hcm : grownCap w (l + n) c (ρ.t 25) ≤ maxLen := grownCap_le_maxLen w (l + n) c (ρ.t 25) (by unfold maxLen; omega)
  refine ⟨_, rfl, ⟨h0.1, .inr ⟨w.heap.size, 0, _, _, rfl, ⟨_, _, heap_alloc_new w.drew _, .inl rfl⟩, by omega, hcm, ?_, ?_⟩⟩, ⟨rfl, rfl, rfl, by simp, fun k hk _ => Go.RowKit.Below.heap_alloc w.drew _ k hk⟩, .inr rfl⟩
  ·simp only [Array.size_append, List.size_toArray, size_zeroCells, hzs, hcl, ← Nat.add_mul, Nat.zero_add]
   exact Nat.mul_le_mul_right _ (by omega)
  ·have hle : l * es ≤ cs.length := by rw [hcl]; exact Nat.mul_le_mul_right _ hlc
   simp only [Array.toList_append, List.append_assoc, List.drop_zero]
   rw [List.take_append_of_le_length hle, htake]
 rcases h0.2 with ⟨rfl, rfl⟩ | ⟨b, off, c, cur, rfl, ⟨tb, fz0, hg, hzf⟩, hnc, hcm, hfit, htake⟩
 ·by_cases hn : n = 0
  ·subst hn
   refine Calls.mono (Any8.slices_Grow_room L none 0 0 0 w (Nat.le_refl _) (by omega) (by omega) (by omega)) ?_
   rintro e w' ⟨rfl, rfl⟩
   exact ⟨_, rfl, h0, ⟨rfl, rfl, rfl, Nat.le_refl _, fun _ _ _ => rfl⟩, .inl rfl⟩
  ·have hus : us = [] := List.length_eq_zero_iff.1 (by rw [h0.1, Nat.zero_mul])
   exact grow none 0 [] rfl (Nat.le_refl _) (by omega) (by simp) (fun _ => rfl) (fun a h => by cases h) (by rw [hus]; simp)
 ·obtain rfl := hzf.low hE
  by_cases hroom : l + n ≤ c
  ·refine Calls.mono (Any8.slices_Grow_room L (some ⟨b, off, none⟩) l c n w hnc (by unfold maxLen at hcm; omega) (by omega) hroom) ?_
   rintro e w' ⟨rfl, rfl⟩
   exact ⟨_, rfl, h0, ⟨rfl, rfl, rfl, Nat.le_refl _, fun _ _ _ => rfl⟩, .inl rfl⟩
  ·have hcurl : cur.toList.length = cur.size := Array.length_toList
   refine grow (some ⟨b, off, none⟩) c ((cur.toList.drop off).take (c * es)) rfl hnc (by omega) ?_ (fun h => by cases h) (fun a ha j v hj => ?_) ?_
   ·rw [List.length_take, List.length_drop, hcurl]; omega
   ·cases ha
    rw [List.getElem?_take] at hj
    split at hj
    ·rw [List.getElem?_drop] at hj
     rw [Addr.add_lit, cell_of_row w b (off + j) cur tb (0, 0) hg]
     simpa using hj
    ·cases hj
   ·rw [List.take_take, Nat.min_eq_left (Nat.mul_le_mul_right _ hnc)]; exact htake

noncomputable def groM {α : Type} (a : List α) (n : Int) : Option (List α) := if 0 ≤ n ∧ (a.length : Int) + n ≤ 4294967296 then some a else none
noncomputable def groS (E : TypeId) (α : Type) [Enc α] : MS (List α × Int) (List α) :=
 ⟨.x (.m E) .r, fun x => groM x.1 x.2, fun _ => .own 0, fun y => [arO E y], fun _ _ => []⟩

noncomputable def groZM {α : Type} (n : Int) : Option (List α) := if 0 ≤ n ∧ n ≤ 4294967296 then some [] else none
noncomputable def groZS (E : TypeId) (α : Type) [Enc α] : MS Int (List α) :=
 ⟨.zi, fun x => groZM x, fun _ => .own 0, fun y => [arO E y], fun _ _ => []⟩
theorem groZ_ok {α : Type} [Enc α] (hE : Nat.ble (ρ.t 25) 4294967295 = true) (L : Lays8.n4 P ρ) {i0 : TypeInfo} {z : Value} (hi0 : P.info? (ρ.t 25) = some i0) (hz0 : i0.zero = some z) (hs : i0.size = Enc.sz α) (hpos : 0 < Enc.sz α) (hzs : z.cells.size = Enc.sz α) (hbytes : i0.bytes ≤ 32768) (hc : ∀ args w, (callFunc (ρ.f 4) args).run P w = .ok (.enter (ρ.f 4) args) w) : FnOK P J (ρ.f 4) (groZS (ρ.t 25) α).S := by
 refine ⟨hc, ?_⟩
 rintro vs w F ds obs κ ⟨i, y, rfl, rfl, hy⟩ hargs hFl hJ hobs
 have hm : groZM i = some y := hy
 unfold groZM at hm
 split at hm
 ·rename_i hcond
  obtain ⟨c1, c2⟩ := hcond
  cases hm
  have hargs' : RVs κ F w [.dat (.sc (.slice none 0 0)), .dat (.sc (.int .i64 i))] vs := hargs
  unfold RVs at hargs'
  obtain ⟨v0, r1, rfl, k0, hargs'⟩ := hargs'
  unfold RVs at hargs'
  obtain ⟨v1, r2, rfl, k1, hargs'⟩ := hargs'
  unfold RVs at hargs'
  subst hargs'
  unfold RV RD at k0 k1
  obtain ⟨rfl, _⟩ := k0
  obtain ⟨rfl, _⟩ := k1
  obtain ⟨n, rfl⟩ : ∃ n : Nat, i = n := ⟨i.toNat, by omega⟩
  refine Calls.mono (gro_run L hi0 hz0 hs hpos hzs hbytes w (.slice none 0 0) 0 n [] hE (Own.nil w _ _) (by omega)) ?_
  rintro e w' ⟨v', rfl, g1, g2, g3⟩
  exact ⟨v', rfl, ret_arr (v0 := .slice none 0 0) (E := ρ.t 25) (es := Enc.sz α) (y := []) ⟨(n : Int), _, rfl, rfl, hy, rfl, rfl, rfl⟩ hFl g2 g3 (fun b hbk => by cases hbk) g1 (by unfold RE; rfl) hpos⟩
 ·cases hm

theorem groZOK {ty : TypeId → Option TyE} (T : TT P ty) (ρ : Ren) {α : Type} [Enc α] {x : TyE} {nm : String} (hnm : (nm == "runtime.NumGoroutine") = false) (hc : ∀ args w, (callFunc (ρ.f 4) args).run P w = .ok (.enter (ρ.f 4) args) w) (hF : P.funcs[ρ.f 4]? = some { Body8.n4 ρ with name := nm }) {b0 b20 : Nat} {e0 e20 : Bool}
  (o0 : TyOK P (ρ.t 0) ⟨.tuple #[], 1, b0, .tuple #[], e0⟩) (o20 : TyOK P (ρ.t 20) ⟨.interface #[], 1, b20, .nilIface, e20⟩) (h3 : ty (ρ.t 3) = some ⟨.int .i64, 1, 8, .int .i64 0, false⟩) (h4 : ty (ρ.t 4) = some ⟨.bool, 1, 1, .bool false, false⟩) (h9 : ty (ρ.t 9) = some ⟨.string, 1, 16, .string ByteArray.empty, false⟩)
  (h22 : ty (ρ.t 22) = some ⟨.slice (ρ.t 25), 1, 24, .slice none 0 0, false⟩) (h25 : ty (ρ.t 25) = some x) (hx : (Nat.beq x.size (Enc.sz α) && Nat.blt 0 (Enc.sz α) && Nat.beq x.zero.cells.size x.size && Nat.ble x.bytes 32768) = true) (hE : Nat.ble (ρ.t 25) 4294967295 = true := by rfl) : FnOK P J (ρ.f 4) (groZS (ρ.t 25) α).S := by
 simp only [Bool.and_eq_true] at hx
 obtain ⟨⟨⟨x1, x2⟩, x3⟩, x4⟩ := hx
 have x2 : 0 < Enc.sz α := by simpa [Nat.blt_eq] using x2
 have x1 := Nat.eq_of_beq_eq_true x1
 have x3 := Nat.eq_of_beq_eq_true x3
 have x4 := Nat.le_of_ble_eq_true x4
 have o3 := T.ty _ _ h3
 have o4 := T.ty _ _ h4
 have o9 := T.ty _ _ h9
 have o22 := T.ty _ _ h22
 have o25 := T.ty _ _ h25
 obtain ⟨_, i0, i1, i2, i3, i4, _⟩ := o25
 exact groZ_ok hE ⟨T.mx, ⟨nm, hnm, hF⟩, o0.1, fun w => run_isAgg' o0, fun w => run_sizeOf' o0, fun w => run_zeroValue' o0 w, o3.1, fun w => run_isAgg' o3, fun w => run_sizeOf' o3, fun w => run_zeroValue' o3 w, o4.1, fun w => run_isAgg' o4, fun w => run_sizeOf' o4, fun w => run_zeroValue' o4 w, o9.1, fun w => run_isAgg' o9, fun w => run_sizeOf' o9, fun w => run_zeroValue' o9 w, o20.1, fun w => run_isAgg' o20, fun w => run_sizeOf' o20, fun w => run_zeroValue' o20 w, o22.1, fun w => run_isAgg' o22, fun w => run_sizeOf' o22, fun w => run_zeroValue' o22 w⟩ i1 i4 (by rw [i2, x1]) x2 (by rw [x3, x1]) (by rw [i3]; exact x4) hc
end Go.Ab
