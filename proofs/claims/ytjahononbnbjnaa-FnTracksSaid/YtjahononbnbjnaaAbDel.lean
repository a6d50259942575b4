/- My own layer: slices.Delete(s, i, j) at elements of any size, walked once for every program and every numbering. -/
import Derived.Test.YtjahononbnbjnaaAbIns
import Derived.Deep.RegionLaw
set_option linter.unusedVariables false
set_option linter.unusedSimpArgs false
namespace Go.Ab
set_option linter.unusedVariables false
set_option linter.unusedSimpArgs false
open Go.Shelf Go.RowKit Go.Lib Go.Proofs
variable {P : Program} {J : Inv} {ρ : Ren}

/-- An append in a region that draws, its run being known. -/
theorem step_append_runI {ops : Array Oper} {o : Oper} {a : Act} {w : World} {K : Act → World → Prop} {Q : Exit → Act → World → Prop} {E : Prop}
    (hg : o.guard = none) (s x : Operand) (t tx : TypeId) (hop : o.op = Op.call { callee := Callee.builtin Builtin.append, args := #[s, x], argTypes := #[t, tx] })
    (v u : Value) (hd : a.eval s = v) (hx : a.eval x = u) {v' : Value} {w' : World} (hr : (Builtin.append_ #[t, tx] o.type #[v, u]).run P w = .ok v' w') (hK : K (a.put o.dst v') w') :
    if Region.wanted o (yielded ops a.tmps) = true then Oper.wp P o a w K Q else E := by
  have hw : Region.wanted o (yielded ops a.tmps) = true := by simp [Region.wanted, hg]
  rw [if_pos hw]
  unfold Oper.wp
  simp [execOp, hop, resolve, invoke, builtin, hd, hx, hr, Result.andThen]
  exact hK

theorem zero_mem {a : Array Value} {k : Nat} {u : Value} (h : u ∈ (Builtin.zeroCells a k).toList) : u ∈ a.toList := by
  unfold Builtin.zeroCells at h
  rw [Array.mem_toList_iff] at h
  obtain ⟨i, hi, rfl⟩ := Array.mem_map.1 h
  rw [Array.mem_range] at hi
  have hp : 0 < a.size := by
    rcases Nat.eq_zero_or_pos a.size with h0 | h0
    · rw [h0] at hi; omega
    · exact h0
  have hlt := Nat.mod_lt i hp
  rw [getElem!_pos a _ hlt, Array.mem_toList_iff]
  exact Array.getElem_mem hlt

/-- 'clear' of a slice with elements. -/
theorem run_clear_at (w : World) (t e ty : TypeId) (z : Value) (ht : P.underlying t = some (.slice e)) (hv : ∀ w, (zeroValue e).run P w = .ok z w) (h1 : ∀ u ∈ (Builtin.zeroCells z.cells 1).toList, u.oneCell' = true) (h1' : ∀ k, ∀ u ∈ (Builtin.zeroCells z.cells k).toList, u.oneCell' = true) (b o n c : Nat) (hn : 0 < n)
    (cur : Array Value) (tb : TypeId) (hg : w.heap[b]? = some (.cells cur tb (0, 0))) (hfit : o + n * z.cells.size ≤ cur.size) :
    (Builtin.clear_ #[t] ty #[.slice (some ⟨b, o, none⟩) n c]).run P w = .ok (.tuple #[]) (w.setRow b (cur.toList.take o ++ (Builtin.zeroCells z.cells n).toList ++ cur.toList.drop (o + (Builtin.zeroCells z.cells n).toList.length)).toArray) := by
  have hst := run_storeCells_at P b o tb (Builtin.zeroCells z.cells n).toList 0 cur w hg (by rw [Array.length_toList, size_zeroCells]; simpa using hfit) (h1' n)
  obtain ⟨k, rfl⟩ : ∃ k, n = k + 1 := ⟨n - 1, by omega⟩
  simp only [Nat.add_zero] at hst
  unfold Builtin.clear_
  simp [run_underlying ht, hv, hst]

set_option maxHeartbeats 4000000 in
set_option maxRecDepth 100000 in
theorem del_same {i0 : TypeInfo} {z : Value} {es : Nat} (L : InsL P ρ i0 z es) {f : FuncId} {nm : String} {ta : Array TypeId} (hF : P.funcs[f]? = some { Body2.n24 ρ with name := nm, targs := ta }) (a : Option Addr) (n c i : Nat) (ha : a = none → n = 0 ∧ c = 0) (hsp : ∀ x, a = some x → x.spot = none) (hi : i ≤ n) (hnc : n ≤ c) (w : World) :
    Calls P f #[.slice a n c, .int .i64 i, .int .i64 i] w fun e w2 => e = .returned (.slice a n c) ∧ w2 = w := by
  have t3 := L.t3; have a3 := L.a3; have z3 := L.z3; have v3 := L.v3; have t4 := L.t4; have a4 := L.a4; have z4 := L.z4; have v4 := L.v4; have z9 := L.z9; have t24 := L.t24; have a24 := L.a24; have z24 := L.z24; have v24 := L.v24
  have u3 := run_underlying L.t3; have u4 := run_underlying L.t4; have u24 := run_underlying L.t24
  have mixed := L.mixed
  go_enter hF, Body2.n24_ntmps ρ
  cases a with
  | none =>
    obtain ⟨rfl, rfl⟩ := ha rfl
    have hi0 : i = 0 := by omega
    subst hi0
    go_wp2
    all_goals (go_ret; exact ⟨rfl, rfl⟩)
  | some a =>
    obtain ⟨ab, ao, asp⟩ := a
    have hs := hsp _ rfl
    simp only at hs
    subst hs
    go_wp2
    all_goals (go_ret; exact ⟨rfl, rfl⟩)

theorem del_list {α : Type} {cur us r1 zs : List α} {off N I J : Nat} (hus : (cur.drop off).take N = us) (hl : us.length = N) (hIJ : I ≤ J) (hJ : J ≤ N) (hfit : off + N ≤ cur.length)
    (h1 : r1 = cur.take (off + I) ++ us.drop J ++ cur.drop (off + I + (us.drop J).length)) :
    ((r1.take (off + (I + (N - J))) ++ zs ++ r1.drop (off + (I + (N - J)) + zs.length)).drop off).take (I + (N - J)) = us.take I ++ us.drop J := by
  have e0 : (cur.take off).length = off := by rw [List.length_take]; omega
  have e1 : cur.take (off + I) = cur.take off ++ us.take I := by
    rw [List.take_add]
    congr 1
    rw [← hus, List.take_take, Nat.min_eq_left (by omega)]
  have e2 : (cur.take (off + I) ++ us.drop J).length = off + (I + (N - J)) := by
    rw [List.length_append, List.length_take, List.length_drop, hl]; omega
  have e3 : r1.take (off + (I + (N - J))) = cur.take off ++ (us.take I ++ us.drop J) := by
    rw [h1, List.take_left' e2, e1, List.append_assoc]
  rw [e3, List.append_assoc, List.append_assoc, List.drop_left' e0]
  exact List.take_left' (by rw [List.length_append, List.length_take, List.length_drop, hl]; omega)

set_option maxHeartbeats 4000000 in
set_option maxRecDepth 100000 in
theorem del_cut {i0 : TypeInfo} {z : Value} {es : Nat} (L : InsL P ρ i0 z es) (hzs : z.cells.size = es) (hz1 : z.cells.toList.all one = true) {f : FuncId} {nm : String} {ta : Array TypeId} (hF : P.funcs[f]? = some { Body2.n24 ρ with name := nm, targs := ta }) (b off n c i j : Nat) (us : List Value) (cur : Array Value) (tb : TypeId) (w : World) (hij : i < j) (hj : j ≤ n) (hnc : n ≤ c) (hc63 : c ≤ 9223372036854775807)
    (hg : w.heap[b]? = some (.cells cur tb (0, 0))) (hul : us.length = n * es) (hfit : off + c * es ≤ cur.size)
    (hus : (cur.toList.drop off).take (n * es) = us) (h1c : ∀ v ∈ us, v.oneCell' = true) :
    Calls P f #[.slice (some ⟨b, off, none⟩) n c, .int .i64 i, .int .i64 j] w fun e w' =>
      e = .returned (.slice (some ⟨b, off, none⟩) (i + (n - j)) c) ∧ ∃ row : Array Value, w' = w.drew.setRow b row ∧ row.size = cur.size ∧ (row.toList.drop off).take ((i + (n - j)) * es) = us.take (i * es) ++ us.drop (j * es) := by
  have t3 := L.t3; have a3 := L.a3; have z3 := L.z3; have v3 := L.v3; have t4 := L.t4; have a4 := L.a4; have z4 := L.z4; have v4 := L.v4; have z9 := L.z9; have t24 := L.t24; have a24 := L.a24; have z24 := L.z24; have v24 := L.v24
  have u3 := run_underlying L.t3; have u4 := run_underlying L.t4; have u24 := run_underlying L.t24
  have mixed := L.mixed
  have hes := L.size
  have hi9 := L.i9
  have hpos := L.pos
  have hne : ¬ ((i : Int) = (j : Int)) := by omega
  have hcurl : cur.toList.length = cur.size := Array.length_toList
  have m1 : i * es ≤ j * es := Nat.mul_le_mul_right es (Nat.le_of_lt hij)
  have m2 : j * es ≤ n * es := Nat.mul_le_mul_right es hj
  have m3 : n * es ≤ c * es := Nat.mul_le_mul_right es hnc
  have m4 : (n - j) * es = n * es - j * es := Nat.sub_mul ..
  have m5 : (i + (n - j)) * es = i * es + (n * es - j * es) := by rw [Nat.add_mul, m4]
  have m6 : (n - (i + (n - j))) * es = n * es - (i * es + (n * es - j * es)) := by rw [Nat.sub_mul, m5]
  have hcell : ∀ k u, us[k]? = some u → w.cell? ⟨b, off + k, none⟩ = some u := fun k u hk => by
    rw [cell_of_row w b (off + k) cur tb (0, 0) hg]
    rw [← hus, List.getElem?_take] at hk
    split at hk
    · rw [List.getElem?_drop] at hk; simpa using hk
    · cases hk
  have hdl : (us.drop (j * es)).length = (n - j) * es := by rw [List.length_drop, hul, m4]
  obtain ⟨A, hA, hsrc⟩ : ∃ A : Addr, (if c = j then some (⟨b, off, none⟩ : Addr) else some ⟨b, off + j * es, none⟩) = some A ∧ (∀ t u, (us.drop (j * es))[t]? = some u → w.drew.cell? (A.add t) = some u) := by
    by_cases h : c = j
    · refine ⟨⟨b, off, none⟩, by simp [h], fun t u hu => ?_⟩
      have h0 : (us.drop (j * es)).length = 0 := by rw [hdl, show n - j = 0 by omega, Nat.zero_mul]
      rw [List.length_eq_zero_iff.1 h0] at hu
      simp at hu
    · refine ⟨⟨b, off + j * es, none⟩, by simp [h], fun t u hu => ?_⟩
      rw [Addr.add_lit, Nat.add_assoc]
      rw [List.getElem?_drop] at hu
      exact hcell _ u hu
  obtain ⟨row1, hrow1⟩ : ∃ row1, row1 = (cur.toList.take (off + i * es) ++ us.drop (j * es) ++ cur.toList.drop (off + i * es + (us.drop (j * es)).length)).toArray := ⟨_, rfl⟩
  have hr1s : row1.size = cur.size := by
    rw [hrow1]
    simp only [List.size_toArray, List.length_append, List.length_take, List.length_drop, hul, hcurl]
    omega
  have hap : (Builtin.append_ #[ρ.t 24, ρ.t 24] (ρ.t 24) #[.slice (some ⟨b, off, none⟩) i c, .slice (some A) (n - j) (c - j)]).run P w.drew = .ok (.slice (some ⟨b, off, none⟩) (i + (n - j)) c) (w.drew.setRow b row1) := by
    have h := run_append_room_at (P := P) (w := w.drew) (ρ.t 24) (ρ.t 24) (ρ.t 9) i0 L.t24 hi9 b off i c cur tb (0, 0) hg (by simp) A (n - j) (c - j) (us.drop (j * es)) (by rw [hes]; exact hdl) hsrc (fun u hu => h1c u (List.mem_of_mem_drop hu)) (by omega) (by rw [hes, hdl, m4]; omega)
    rw [hes] at h
    rw [hrow1]
    exact h
  obtain ⟨W1, hW1⟩ : ∃ W1, W1 = w.drew.setRow b row1 := ⟨_, rfl⟩
  rw [← hW1] at hap
  have hg1 : W1.heap[b]? = some (.cells row1 tb (0, 0)) := by rw [hW1]; exact setRow_heap w.drew b cur row1 tb (0, 0) hg
  have hzone : ∀ k, ∀ u ∈ (Builtin.zeroCells z.cells k).toList, u.oneCell' = true := fun k u hu => by
    rw [one_eq]
    have : u ∈ z.cells.toList := zero_mem hu
    exact List.all_eq_true.1 hz1 u this
  obtain ⟨row2, hrow2⟩ : ∃ row2, row2 = (row1.toList.take (off + (i + (n - j)) * es) ++ (Builtin.zeroCells z.cells (n - (i + (n - j)))).toList ++ row1.toList.drop (off + (i + (n - j)) * es + (Builtin.zeroCells z.cells (n - (i + (n - j)))).toList.length)).toArray := ⟨_, rfl⟩
  have hzl : (Builtin.zeroCells z.cells (n - (i + (n - j)))).toList.length = n * es - (i * es + (n * es - j * es)) := by rw [Array.length_toList, size_zeroCells, hzs, m6]
  have hcl : ∀ ty c', (Builtin.clear_ #[ρ.t 24] ty #[.slice (some ⟨b, off + (i + (n - j)) * es, none⟩) (n - (i + (n - j))) c']).run P W1 = .ok (.tuple #[]) (W1.setRow b row2) := fun ty c' => by
    rw [hrow2]
    refine run_clear_at W1 _ _ ty z t24 ?_ (hzone 1) hzone b _ _ _ (by omega) row1 tb hg1 (by rw [hzs, hr1s, m6, m5]; omega)
    intro w
    simp [zeroValue, typeInfo, hi9, L.v9]
  have hfin : row2.size = cur.size ∧ (row2.toList.drop off).take ((i + (n - j)) * es) = us.take (i * es) ++ us.drop (j * es) := by
    refine ⟨?_, ?_⟩
    · rw [hrow2]
      simp only [List.size_toArray, List.length_append, List.length_take, List.length_drop, hzl, hr1s, Array.length_toList (xs := row1)]
      omega
    · rw [hrow2, m5]
      exact del_list hus hul m1 m2 (by rw [hcurl]; omega) (by rw [hrow1])
  have hW2 : W1.setRow b row2 = w.drew.setRow b row2 := by rw [hW1, setRow_setRow]
  have hic : i ≤ c := by omega
  have hjc : j ≤ c := by omega
  clear hrow1 hrow2 hW1 hus hcell hsrc m1 m2 m3 m4 m5 m6 hzl hr1s hdl
  go_enter hF, Body2.n24_ntmps ρ
  go_wp2_with fail
  go_region_law_o (refine step_append_runI rfl (.tmp 22) (.tmp 25) (ρ.t 24) (ρ.t 24) rfl (.slice (some ⟨b, off, none⟩) i c) (.slice (some A) (n - j) (c - j)) (by simp [Act.eval, Act.put]) (by simp [Act.eval, Act.put]) hap ?_)
  go_wp2
  go_ret
  exact ⟨rfl, row2, rfl, hfin⟩

theorem del_run {i0 : TypeInfo} {z : Value} {es : Nat} (L : InsL P ρ i0 z es) (hzs : z.cells.size = es) (hz1 : z.cells.toList.all one = true) {f : FuncId} {nm : String} {ta : Array TypeId} (hF : P.funcs[f]? = some { Body2.n24 ρ with name := nm, targs := ta }) (w : World) (v0 : Value) (n i j : Nat) (us : List Value)
    (hE : Nat.ble (ρ.t 9) 4294967295 = true) (h0 : Own w (ρ.t 9) es v0 n us) (hij : i ≤ j) (hj : j ≤ n) (h1c : ∀ v ∈ us, v.oneCell' = true) :
    Calls P f #[v0, .int .i64 i, .int .i64 j] w fun e w' => ∃ v', e = .returned v' ∧ Own w' (ρ.t 9) es v' (i + (n - j)) (us.take (i * es) ++ us.drop (j * es)) ∧ w.grownBy w' (blk v0) ∧ blk v' = blk v0 := by
  rcases Nat.lt_or_ge i j with hlt | hge
  · rcases h0.2 with ⟨_, hn0⟩ | ⟨b, off, c, cur, rfl, ⟨tb, fz0, hg, hzf⟩, hnc, hcm', hfit, htake⟩
    · omega
    obtain rfl := hzf.low hE
    refine Calls.mono (del_cut L hzs hz1 hF b off n c i j us cur tb w hlt hj hnc (by unfold maxLen at hcm'; omega) hg h0.1 hfit htake h1c) ?_
    rintro e w' ⟨rfl, row, rfl, hrs, hrt⟩
    have m1 : i * es ≤ n * es := Nat.mul_le_mul_right es (by omega)
    have m2 : j * es ≤ n * es := Nat.mul_le_mul_right es hj
    refine ⟨_, rfl, ⟨?_, .inr ⟨b, off, c, row, rfl, ⟨tb, _, setRow_heap w.drew b cur row tb (0, 0) hg, .inl rfl⟩, by omega, hcm', by rw [hrs]; exact hfit, hrt⟩⟩, ⟨rfl, rfl, rfl, ?_, fun k _ hk => setRow_other w.drew b k row (fun e => hk (by rw [e]; rfl))⟩, rfl⟩
    · simp only [List.length_append, List.length_take, List.length_drop, h0.1, Nat.add_mul, Nat.sub_mul]
      omega
    · exact Nat.le_of_eq (by show w.heap.size = (w.heap.modify b _).size; rw [Array.size_modify])
  · have e : j = i := by omega
    subst e
    obtain ⟨a, c, rfl⟩ := h0.slice
    refine Calls.mono (del_same L hF a n c j ?_ ?_ hj ?_ w) ?_
    · intro ha
      subst ha
      rcases h0.2 with ⟨h3, h4⟩ | ⟨b, off, c', cur, h3, _⟩
      · simp only [Value.slice.injEq] at h3; exact ⟨h4, h3.2.2⟩
      · simp at h3
    · intro x hx
      subst hx
      rcases h0.2 with ⟨h3, h4⟩ | ⟨b, off, c', cur, h3, _⟩
      · simp at h3
      · simp only [Value.slice.injEq, Option.some.injEq] at h3; rw [h3.1]
    · rcases h0.2 with ⟨h3, h4⟩ | ⟨b, off, c', cur, h3, _, h5, _⟩
      · omega
      · simp only [Value.slice.injEq] at h3; omega
    · rintro e w2 ⟨rfl, rfl⟩
      refine ⟨_, rfl, ?_, ⟨rfl, rfl, rfl, Nat.le_refl _, fun _ _ _ => rfl⟩, rfl⟩
      rw [List.take_append_drop, show j + (n - j) = n by omega]
      exact h0

/-- The model. -/
noncomputable def delM {α : Type} (a : List α) (i j : Int) : Option (List α) :=
  if 0 ≤ i ∧ i ≤ j ∧ j ≤ a.length then some (a.take i.toNat ++ a.drop j.toNat) else none
noncomputable def delS (E : TypeId) (α : Type) [Enc α] : MS (List α × Int × Int) (List α) :=
  ⟨.x (.m E) (.x .r .r), fun x => delM x.1 x.2.1 x.2.2, fun _ => .own 0, fun y => [arO E y], fun _ _ => []⟩

theorem del_ok {i0 : TypeInfo} {z : Value} {α : Type} [Enc α] (L : InsL P ρ i0 z (Enc.sz α)) (hE : Nat.ble (ρ.t 9) 4294967295 = true) (hzs : z.cells.size = Enc.sz α) (hz1 : z.cells.toList.all one = true) {f : FuncId} {nm : String} {ta : Array TypeId} (hc : ∀ args w, (callFunc f args).run P w = .ok (.enter f args) w) (hF : P.funcs[f]? = some { Body2.n24 ρ with name := nm, targs := ta }) :
    FnOK P J f (delS (ρ.t 9) α).S := by
  refine ⟨hc, ?_⟩
  rintro vs w F ds obs κ ⟨⟨a, i, j⟩, y, rfl, rfl, hy⟩ hargs hFl hJ hobs
  have hm : delM a i j = some y := hy
  unfold delM at hm
  split at hm
  · rename_i hcond
    obtain ⟨c1, c2, c3⟩ := hcond
    cases hm
    have hargs' : RVs κ F w [.own 0, .dat (.sc (.int .i64 i)), .dat (.sc (.int .i64 j))] vs := hargs
    unfold RVs at hargs'
    obtain ⟨v0, r1, rfl, k0, hargs'⟩ := hargs'
    unfold RVs at hargs'
    obtain ⟨v1, r2, rfl, k1, hargs'⟩ := hargs'
    unfold RVs at hargs'
    obtain ⟨v2, r3, rfl, k2, hargs'⟩ := hargs'
    unfold RVs at hargs'
    subst hargs'
    unfold RV at k0 k1 k2
    unfold RD at k1 k2
    obtain ⟨rfl, _⟩ := k1
    obtain ⟨rfl, _⟩ := k2
    have ho0 := (hobs.ok 0 (arO (ρ.t 9) a) rfl).1
    obtain ⟨us, w0, re0, pos⟩ := (show ArrOK F w (ρ.t 9) (Enc.sz α) (κ 0).v (a.map Enc.e) from ho0)
    rw [List.length_map] at w0
    obtain ⟨n, rfl⟩ : ∃ n : Nat, i = n := ⟨i.toNat, by omega⟩
    obtain ⟨m, rfl⟩ : ∃ m : Nat, j = m := ⟨j.toNat, by omega⟩
    have hlt : ∀ b, blk (κ 0).v = some b → b < w.heap.size ∧ ¬ F b := fun b hbk => hobs.blk 0 (arO (ρ.t 9) a) rfl b (.inl hbk)
    have hcall := del_run L hzs hz1 hF w (κ 0).v a.length n m us hE w0 (by omega) (by omega) (fun u hu => by rw [one_eq]; exact re0.ones u hu)
    rw [k0.1]
    refine Calls.mono hcall ?_
    rintro e w' ⟨v', rfl, g1, g2, g3⟩
    have hFb : ∀ b, F b → w'.heap[b]? = w.heap[b]? := fun b hb => g2.block b (hFl b hb) fun e => (hlt b e.symm).2 hb
    have hre : RE F w' (Enc.sz α) ((a.take n ++ a.drop m).map Enc.e) (us.take (n * Enc.sz α) ++ us.drop (m * Enc.sz α)) := by
      rw [List.map_append, List.map_take, List.map_drop]
      exact RE.mono (fun _ h => h) hFb (RE.app (re0.take n) (re0.drop m))
    refine ⟨v', rfl, ret_arr (v0 := (κ 0).v) (E := ρ.t 9) (es := Enc.sz α) (y := (a.take n ++ a.drop m).map Enc.e) ⟨(a, (n : Int), (m : Int)), _, rfl, rfl, hy, rfl, rfl, rfl⟩ hFl g2 (.inl g3) (fun b hbk => ⟨⟨0, _, rfl, .inl hbk⟩, (hlt b hbk).2⟩) ?_ hre pos⟩
    simp only [List.length_map, List.length_append, List.length_take, List.length_drop]
    have e : min n a.length + (a.length - m) = n + (a.length - m) := by omega
    rw [e]; exact g1
  · cases hm

/-- slices.Delete's contract at a program. -/
theorem delOK {ty : TypeId → Option TyE} (T : TT P ty) (ρ : Ren) {α : Type} [Enc α] {x : TyE} {f : FuncId} {nm : String} {ta : Array TypeId} (hc : ∀ args w, (callFunc f args).run P w = .ok (.enter f args) w) (hF : P.funcs[f]? = some { Body2.n24 ρ with name := nm, targs := ta })
    (h3 : ty (ρ.t 3) = some ⟨.int .i64, 1, 8, .int .i64 0, false⟩) (h4 : ty (ρ.t 4) = some ⟨.bool, 1, 1, .bool false, false⟩) (h24 : ty (ρ.t 24) = some ⟨.slice (ρ.t 9), 1, 24, .slice none 0 0, false⟩) (h9 : ty (ρ.t 9) = some x)
    (hx : (Nat.beq x.size (Enc.sz α) && Nat.blt 0 x.size && Nat.beq x.zero.cells.size x.size && Nat.ble x.bytes 32768 && x.zero.cells.toList.all one) = true) (hE : Nat.ble (ρ.t 9) 4294967295 = true := by rfl) :
    FnOK P J f (delS (ρ.t 9) α).S := by
  obtain ⟨i0, L, e1, _, e3⟩ := insL_of T ρ h3 h4 h24 h9 hx
  exact del_ok L hE e1 e3 hc hF
end Go.Ab
