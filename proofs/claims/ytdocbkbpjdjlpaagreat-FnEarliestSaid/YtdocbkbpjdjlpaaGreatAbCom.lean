/- My own layer: slices.Compact of ints, by the kit's proof over any program. -/
import Derived.Test.YtdocbkbpjdjlpaaGreatAbIns
import Derived.Shelf.Slices.CompactI
set_option linter.unusedVariables false
set_option linter.unusedSimpArgs false
namespace Go.Ab
set_option linter.unusedVariables false
set_option linter.unusedSimpArgs false
open Go.Shelf Go.RowKit Go.Lib Go.Proofs Go.Sort
variable {P : Program} {J : Inv} {ρ : Ren}

theorem jrc {F : Nat -> Prop} {w : World} : ∀ {a : List Int} {us : List Value}, RE F w 1 (a.map Enc.e) us -> us = a.map (Value.int .i64)
 | [], us, h => by
  unfold RE at h
  simpa using h
 | x :: a, us, h => by
  rw [List.map_cons] at h
  unfold RE at h
  obtain ⟨u, us', rfl, _, h1, h2⟩ := h
  have h3 : ∃ y, u = [y] /\ one y = true /\ RD F w (.sc (.int .i64 x)) y := h1
  obtain ⟨y, rfl, _, h4⟩ := h3
  unfold RD at h4
  obtain ⟨rfl, _⟩ := h4
  rw [jrc h2]; rfl
theorem jre {F : Nat -> Prop} {w : World} : ∀ (a : List Int), RE F w 1 (a.map Enc.e) (a.map (Value.int .i64))
 | [] => by unfold RE; rfl
 | x :: a => by
  rw [List.map_cons, List.map_cons]
  unfold RE
  refine ⟨[Value.int .i64 x], a.map (Value.int .i64), rfl, rfl, ?_, jre a⟩
  show ∃ y, [Value.int .i64 x] = [y] /\ one y = true /\ RD F w (.sc (.int .i64 x)) y
  refine ⟨_, rfl, rfl, ?_⟩
  unfold RD
  exact ⟨rfl, rfl⟩

theorem jso (L : Lays2.n20 P ρ) (w : World) (v0 : Value) (a : List Int) (hE : Nat.ble (ρ.t 3) 4294967295 = true) (h0 : Own w (ρ.t 3) 1 v0 a.length (a.map (Value.int .i64))) :
  Calls P (ρ.f 20) #[v0] w fun e w' => ∃ v', e = .returned v' /\ Own w' (ρ.t 3) 1 v' (compactUpTo a.toArray a.length).length ((compactUpTo a.toArray a.length).map (Value.int .i64)) /\ w.grownBy w' (blk v0) /\ blk v' = blk v0 := by
 by_cases hn : a = []
 ·subst hn
  obtain ⟨aa, cc, rfl⟩ := Own.slice h0
  refine Calls.mono (Any.slices_Compact_int_empty L aa cc w) ?_
  rintro e w' ⟨rfl, rfl⟩
  exact ⟨_, rfl, h0, ⟨rfl, rfl, rfl, Nat.le_refl _, fun _ _ _ => rfl⟩, rfl⟩
 rcases h0.2 with ⟨_, hz⟩ | ⟨b, off, c, cur, rfl, ⟨tb, fz0, hg, hzf⟩, hnc, hcm, hfit, htake⟩
 ·exact absurd (List.length_eq_zero_iff.1 hz) hn
 obtain rfl := hzf.low hE
 rw [Nat.mul_one] at hfit htake
 have hcell : ∀ j, j < a.length -> cur[off + j]? = some (Value.int .i64 a.toArray[j]!) := fun j hj => by
  have h : ((cur.toList.drop off).take a.length)[j]? = (a.map (Value.int .i64))[j]? := by rw [htake]
  rw [List.getElem?_take_of_lt hj, List.getElem?_drop, Array.getElem?_toList, List.getElem?_map] at h
  rw [h, List.getElem?_eq_getElem hj]
  simp [hj]
 have hH : Holds encI w b off a.toArray := fun j hj => ⟨by rw [cell_of_row w b (off + j) cur tb (0, 0) hg]; exact hcell j (by simpa using hj), by simp [World.frozen?, hg]⟩
 have hlen : (compactUpTo a.toArray a.length).length <= a.length := by
  unfold compactUpTo
  rw [List.length_map]
  exact Nat.le_trans (List.length_filter_le ..) (by simp)
 have hcall := Any.slices_Compact_int_arr L b off c a.toArray w hH (by simp only [List.size_toArray]; unfold maxLen at hcm; omega) (by simpa using hnc)
 simp only [List.size_toArray] at hcall
 refine Calls.mono hcall ?_
 rintro e w' ⟨rfl, q, rfl⟩
 generalize hC : compactUpTo a.toArray a.length = C at hlen ⊢
 generalize hD : (C ++ List.replicate (a.length - C.length) 0).toArray = D
 have hDs : D.size = a.length := by rw [<- hD]; simp; omega
 have hheap : (putRow encI (Sort.ahead w q) b off D).heap[b]? = some (.cells (putCells encI off D cur) tb (0, 0)) := by
  show (w.heap.modify b (onCells (putCells encI off D)))[b]? = _
  rw [Array.getElem?_modify, if_pos rfl, hg]; rfl
 refine ⟨_, rfl, ⟨by rw [List.length_map, Nat.mul_one], .inr ⟨b, off, c, putCells encI off D cur, rfl, ⟨tb, _, hheap, .inl rfl⟩, by omega, hcm, ?_, ?_⟩⟩, ⟨rfl, rfl, rfl, ?_, fun k _ hk => ?_⟩, rfl⟩
 ·rw [Nat.mul_one]
  unfold putCells
  rw [Array.size_mapIdx]; exact hfit
 ·rw [Nat.mul_one]
  refine List.ext_getElem? fun j => ?_
  rcases Nat.lt_or_ge j C.length with hj | hj
  ·rw [List.getElem?_take_of_lt hj, List.getElem?_drop, Array.getElem?_toList, List.getElem?_map]
   unfold putCells
   rw [Array.getElem?_mapIdx, hcell j (by omega)]
   have hin : off <= off + j /\ off + j < off + D.size := by omega
   have hDq : D[j]? = some C[j] := by rw [<- hD, List.getElem?_toArray, List.getElem?_append_left hj, List.getElem?_eq_getElem hj]
   have hDj : D[j]! = C[j] := by simp [getElem!_def, hDq]
   simp only [Option.map_some, hin, and_self, if_true, Nat.add_sub_cancel_left, hDj, List.getElem?_eq_getElem hj]
  ·rw [List.getElem?_eq_none (by rw [List.length_take]; omega), List.getElem?_eq_none (by rw [List.length_map]; exact hj)]
 ·show w.heap.size <= (w.heap.modify b _).size
  rw [Array.size_modify]; exact Nat.le_refl _
 ·show (w.heap.modify b _)[k]? = _
  rw [Array.getElem?_modify, if_neg]
  intro h
  subst h
  exact hk rfl

noncomputable def comM (a : List Int) : Option (List Int) := some (compactUpTo a.toArray a.length)
noncomputable def comS (E : TypeId) : MS (List Int) (List Int) :=
 ⟨.m E, fun x => comM x, fun _ => .own 0, fun y => [arO E y], fun _ _ => []⟩

theorem jtl (hE : Nat.ble (ρ.t 3) 4294967295 = true) (L : Lays2.n20 P ρ) (hc : ∀ args w, (callFunc (ρ.f 20) args).run P w = .ok (.enter (ρ.f 20) args) w) : FnOK P J (ρ.f 20) (comS (ρ.t 3)).S := by
 refine ⟨hc, ?_⟩
 rintro vs w F ds obs κ ⟨a, y, rfl, rfl, hy⟩ hargs hFl hJ hobs
 have hm : comM a = some y := hy
 unfold comM at hm
 ·cases hm
  have hargs' : RVs κ F w [.own 0] vs := hargs
  unfold RVs at hargs'
  obtain ⟨v0, r1, rfl, k0, hargs'⟩ := hargs'
  unfold RVs at hargs'
  subst hargs'
  unfold RV at k0
  have ho0 := (hobs.ok 0 (arO (ρ.t 3) a) rfl).1
  obtain ⟨us, w0, re0, pos⟩ := (show jbw F w (ρ.t 3) 1 (κ 0).v (a.map Enc.e) from ho0)
  rw [List.length_map] at w0
  have hus := jrc re0
  subst hus
  have hlt : ∀ b, blk (κ 0).v = some b -> b < w.heap.size /\ ¬ F b := fun b hbk => hobs.blk 0 (arO (ρ.t 3) a) rfl b (.inl hbk)
  have hcall := jso L w (κ 0).v a hE w0
  rw [k0.1]
  refine Calls.mono hcall ?_
  rintro e w' ⟨v', rfl, g1, g2, g3⟩
  refine ⟨v', rfl, jrx (v0 := (κ 0).v) (E := ρ.t 3) (es := 1) (y := (compactUpTo a.toArray a.length).map Enc.e) ⟨a, _, rfl, rfl, hy, rfl, rfl, rfl⟩ hFl g2 (.inl g3) (fun b hbk => ⟨⟨0, _, rfl, .inl hbk⟩, (hlt b hbk).2⟩) ?_ (jre _) pos⟩
  rw [List.length_map]; exact g1

theorem jt6 {ty : TypeId -> Option TyE} (T : TT P ty) (ρ : Ren) (hc : ∀ args w, (callFunc (ρ.f 20) args).run P w = .ok (.enter (ρ.f 20) args) w) (hF : P.funcs[ρ.f 20]? = some (Body2.n20 ρ)) {b0 : Nat} {e0 : Bool}
  (o0 : TyOK P (ρ.t 0) ⟨.tuple #[], 1, b0, .tuple #[], e0⟩) (h3 : ty (ρ.t 3) = some ⟨.int .i64, 1, 8, .int .i64 0, false⟩) (h4 : ty (ρ.t 4) = some ⟨.bool, 1, 1, .bool false, false⟩) (h22 : ty (ρ.t 22) = some ⟨.slice (ρ.t 3), 1, 24, .slice none 0 0, false⟩) (hE : Nat.ble (ρ.t 3) 4294967295 = true := by rfl) :
  FnOK P J (ρ.f 20) (comS (ρ.t 3)).S := by
 have o3 := T.ty _ _ h3
 have o4 := T.ty _ _ h4
 have o22 := T.ty _ _ h22
 have q3 := o3
 obtain ⟨_, i0, i1, i2, i3, i4, _⟩ := q3
 refine jtl hE ⟨T.mx, hF, o0.1, fun w => jbj o0, fun w => jap o0, fun w => jch o0 w, o3.1, fun w => jbj o3, fun w => jap o3, fun w => jch o3 w, o4.1, fun w => jbj o4, fun w => jap o4, fun w => jch o4 w, o22.1, fun w => jbj o22, fun w => jap o22, fun w => jch o22 w, ?_⟩ hc
 rw [i1, Option.map_some, i2, i3, i4]
end Go.Ab
