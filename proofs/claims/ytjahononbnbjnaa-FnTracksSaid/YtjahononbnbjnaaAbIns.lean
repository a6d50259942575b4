/- My own layer: slices.Insert(s, i, v..) at elements of any size, walked once for every program and every numbering. -/
import Derived.Test.YtjahononbnbjnaaAbC0
import Derived.Shelf.Spec.SlicesInsertGrow
import Derived.Deep.WholeRow
set_option linter.unusedVariables false
set_option linter.unusedSimpArgs false
namespace Go.Ab
set_option linter.unusedVariables false
set_option linter.unusedSimpArgs false
open Go.Shelf Go.RowKit Go.Lib Go.Proofs
variable {P : Program} {J : Inv} {ρ : Ren}

/-- 'copy' into a row, the elements of any size. -/
theorem run_copy_at (w : World) (dT sT ty elem : TypeId) (i : TypeInfo) (g o dLen dCap : Nat) (a : Addr) (sLen sCap k : Nat) (cur : Array Value) (t : TypeId) (cs : List Value)
    (hu : P.underlying dT = some (.slice elem)) (hi : P.info? elem = some i)
    (hg : w.heap[g]? = some (.cells cur t (0, 0))) (hk : k = Nat.min sLen dLen) (hn : cs.length = k * i.size)
    (hsrc : ∀ j v, cs[j]? = some v → w.cell? (a.add j) = some v) (hfit : o + cs.length ≤ cur.size) (h1 : ∀ v ∈ cs, v.oneCell' = true) :
    (Builtin.copy_ #[dT, sT] ty #[.slice (some ⟨g, o, none⟩) dLen dCap, .slice (some a) sLen sCap]).run P w =
      .ok (goInt k) (w.setRow g (cur.toList.take o ++ cs ++ cur.toList.drop (o + cs.length)).toArray) := by
  have hl := run_loadCells_list (P := P) w a cs hsrc
  have hst := run_storeCells_at P g o t cs 0 cur w hg (by simpa using hfit) h1
  simp [Builtin.copy_, run_underlying hu, Builtin.lenOf, Builtin.firstCells, sizeOf, typeInfo, hi, ← hk, ← hn, hl, hst]

theorem ins_list {α : Type} {cur cs vs r1 : List α} {off N I M : Nat} (hcs : (cur.drop off).take N = cs) (hl : cs.length = N) (hv : vs.length = M) (hI : I ≤ N) (hfit : off + N + M ≤ cur.length)
    (h1 : r1 = cur.take (off + (I + M)) ++ cs.drop I ++ cur.drop (off + (I + M) + (cs.drop I).length)) :
    ((r1.take (off + I) ++ vs ++ r1.drop (off + I + vs.length)).drop off).take (N + M) = cs.take I ++ vs ++ cs.drop I := by
  have e0 : (cur.take (off + (I + M))).length = off + (I + M) := by rw [List.length_take]; omega
  have e1 : r1.take (off + I) = cur.take off ++ cs.take I := by
    rw [h1, List.append_assoc, List.take_append_of_le_length (by rw [e0]; omega), List.take_take, Nat.min_eq_left (by omega), List.take_add]
    congr 1
    rw [← hcs, List.take_take, Nat.min_eq_left hI]
  have e2 : r1.drop (off + I + vs.length) = cs.drop I ++ cur.drop (off + (I + M) + (cs.drop I).length) := by
    rw [h1, hv, List.append_assoc, Nat.add_assoc]
    exact List.drop_left' e0
  have e3 : (cur.take off).length = off := by rw [List.length_take]; omega
  rw [e1, e2, List.append_assoc, List.append_assoc, List.drop_left' e3, ← List.append_assoc, ← List.append_assoc]
  refine List.take_left' ?_
  simp only [List.length_append, List.length_take, List.length_drop, hl, hv]
  omega

/-- What is asked of the types that slices.Insert names. -/
structure InsL (P : Program) (ρ : Ren) (i0 : TypeInfo) (z : Value) (es : Nat) : Prop where
  mixed : P.follows .mixedOrders = true
  t3 : P.underlying (ρ.t 3) = some (TypeDesc.int IntKind.i64)
  a3 : ∀ w, (isAgg (ρ.t 3)).run P w = .ok false w
  z3 : ∀ w, (Go.sizeOf (ρ.t 3)).run P w = .ok 1 w
  v3 : ∀ w, (zeroValue (ρ.t 3)).run P w = .ok (Value.int IntKind.i64 0) w
  t4 : P.underlying (ρ.t 4) = some (TypeDesc.bool)
  a4 : ∀ w, (isAgg (ρ.t 4)).run P w = .ok false w
  z4 : ∀ w, (Go.sizeOf (ρ.t 4)).run P w = .ok 1 w
  v4 : ∀ w, (zeroValue (ρ.t 4)).run P w = .ok (Value.bool false) w
  t24 : P.underlying (ρ.t 24) = some (TypeDesc.slice (ρ.t 9))
  a24 : ∀ w, (isAgg (ρ.t 24)).run P w = .ok false w
  z24 : ∀ w, (Go.sizeOf (ρ.t 24)).run P w = .ok 1 w
  v24 : ∀ w, (zeroValue (ρ.t 24)).run P w = .ok (Value.slice none 0 0) w
  i9 : P.info? (ρ.t 9) = some i0
  z9 : ∀ w, (Go.sizeOf (ρ.t 9)).run P w = .ok es w
  size : i0.size = es
  v9 : i0.zero = some z
  pos : 0 < es

set_option maxHeartbeats 4000000 in
set_option maxRecDepth 100000 in
/-- There is room, i < len(s): in place. -/
theorem ins_shift {i0 : TypeInfo} {z : Value} {es : Nat} (L : InsL P ρ i0 z es) (hOV : ∀ args w, (callFunc (ρ.f 29) args).run P w = ((Extern.SlicesOverlaps.overlaps #[ρ.t 24, ρ.t 24] #[ρ.t 4] args).run P w).andThen fun v w' => .ok (.value v) w') {f : FuncId} {nm : String} {ta : Array TypeId} (hF : P.funcs[f]? = some { Body2.n22 ρ with name := nm, targs := ta }) (b off n c i vb voff m vc : Nat) (cs vs : List Value) (cur curv : Array Value) (tb tv : TypeId) (w : World) (hi : i < n) (hm : 0 < m) (hroom : n + m ≤ c) (hc63 : c ≤ 9223372036854775807) (hvb : vb ≠ b)
    (hg : w.heap[b]? = some (.cells cur tb (0, 0))) (hgv : w.heap[vb]? = some (.cells curv tv (0, 0))) (hcl : cs.length = n * es) (hvl : vs.length = m * es) (hfit : off + c * es ≤ cur.size) (hfitv : voff + vs.length ≤ curv.size)
    (hcs : (cur.toList.drop off).take (n * es) = cs) (hvs : (curv.toList.drop voff).take (m * es) = vs) (h1c : ∀ v ∈ cs, v.oneCell' = true) (h1v : ∀ v ∈ vs, v.oneCell' = true) :
    Calls P f #[.slice (some ⟨b, off, none⟩) n c, .int .i64 i, .slice (some ⟨vb, voff, none⟩) m vc] w fun e w' =>
      e = .returned (.slice (some ⟨b, off, none⟩) (n + m) c) ∧ ∃ row : Array Value, w' = w.drew.setRow b row ∧ row.size = cur.size ∧ (row.toList.drop off).take ((n + m) * es) = cs.take (i * es) ++ vs ++ cs.drop (i * es) := by
  have t3 := L.t3; have a3 := L.a3; have z3 := L.z3; have v3 := L.v3; have t4 := L.t4; have a4 := L.a4; have z4 := L.z4; have v4 := L.v4; have z9 := L.z9; have t24 := L.t24; have a24 := L.a24; have z24 := L.z24; have v24 := L.v24
  have u3 := run_underlying L.t3; have u4 := run_underlying L.t4; have u24 := run_underlying L.t24
  have hz1 : ¬ ((m : Int) = 0) := by omega
  have hz2 : ¬ ((i : Int) = (n : Int)) := by omega
  have hes := L.size
  have hi9 := L.i9
  have hpos := L.pos
  have hcx : cs.length ≤ cs.length := Nat.le_refl _
  have hcurl : cur.toList.length = cur.size := Array.length_toList
  have m1 : i * es ≤ n * es := Nat.mul_le_mul_right es (Nat.le_of_lt hi)
  have m2 : (n + m) * es ≤ c * es := Nat.mul_le_mul_right es hroom
  have m3 : (n + m) * es = n * es + m * es := Nat.add_mul ..
  have m4 : (i + m) * es = i * es + m * es := Nat.add_mul ..
  have m5 : (n - i) * es = n * es - i * es := Nat.sub_mul ..
  have hov : ∀ lb cb, (callFunc (ρ.f 29) #[.slice (some ⟨vb, voff, none⟩) m vc, .slice (some ⟨b, off + (i * es + m * es), none⟩) lb cb]).run P w = .ok (.value (.bool false)) w := fun lb cb => by
    rw [hOV, Lib.run_overlaps_apart w (ρ.t 24) (ρ.t 4) (ρ.t 9) L.t24 es z9 ⟨vb, voff, none⟩ ⟨b, off + (i * es + m * es), none⟩ m vc lb cb hvb tv tb curv.size cur.size ?_ ?_ ?_ ?_ ?_]
    · rfl
    · simp [World.shape?, hgv]
    · simp [World.shape?, hg]
    · have := Nat.mul_le_mul_right es (show 1 ≤ c by omega); omega
    · simp [World.frozen?, hgv]
    · simp [World.frozen?, hgv]
  have hdl : (cs.drop (i * es)).length = (n - i) * es := by rw [List.length_drop, hcl, m5]
  have mixed := L.mixed
  have hw1 : IntKind.i64.wrap ((i : Int) + (m : Int)) = (i : Int) + (m : Int) := by rw [IntKind.wrap_i64]; omega
  have hb1 : (0 : Int) ≤ (i : Int) + (m : Int) := by omega
  have hin : i ≤ n := by omega
  have htn : ((i : Int) + (m : Int)).toNat = i + m := by omega
  have hb2 : ¬ (c = i + m) := by omega
  have hb3 : (i : Int) ≤ (n : Int) + (m : Int) := by omega
  have hb4 : ¬ (c = i) := by omega
  have hcell : ∀ j u, cs[j]? = some u → w.cell? ⟨b, off + j, none⟩ = some u := fun j u hj => by
    rw [cell_of_row w b (off + j) cur tb (0, 0) hg]
    rw [← hcs, List.getElem?_take] at hj
    split at hj
    · rw [List.getElem?_drop] at hj; simpa using hj
    · cases hj
  have hcellv : ∀ (W : World), W.heap[vb]? = w.heap[vb]? → ∀ j u, vs[j]? = some u → W.cell? ⟨vb, voff + j, none⟩ = some u := fun W hW j u hj => by
    rw [cell_of_row W vb (voff + j) curv tv (0, 0) (hW.trans hgv)]
    rw [← hvs, List.getElem?_take] at hj
    split at hj
    · rw [List.getElem?_drop] at hj; simpa using hj
    · cases hj
  obtain ⟨row1, hrow1⟩ : ∃ row1, row1 = (cur.toList.take (off + (i * es + m * es)) ++ cs.drop (i * es) ++ cur.toList.drop (off + (i * es + m * es) + (cs.drop (i * es)).length)).toArray := ⟨_, rfl⟩
  have hr1s : row1.size = cur.size := by
    rw [hrow1]
    simp only [List.size_toArray, List.length_append, List.length_take, List.length_drop, hdl, hcurl]
    omega
  have hcp1 : ∀ ty dc sc, (Builtin.copy_ #[(ρ.t 24), (ρ.t 24)] ty #[.slice (some ⟨b, off + (i * es + m * es), none⟩) (n + m - (i + m)) dc, .slice (some ⟨b, off + i * es, none⟩) (n + m - i) sc]).run P w.drew = .ok (goInt ((n - i : Nat))) (w.drew.setRow b row1) := fun ty dc sc => by
    rw [hrow1]
    refine run_copy_at w.drew _ _ ty (ρ.t 9) i0 b _ _ dc _ _ sc (n - i) cur tb (cs.drop (i * es)) L.t24 hi9 hg (by simp only [Nat.min_def]; split <;> omega) (by rw [hes]; exact hdl) ?_ (by rw [hdl]; omega) (fun v hv => h1c v (List.mem_of_mem_drop hv))
    intro j v hj
    rw [Addr.add_lit, Nat.add_assoc]
    exact hcell _ v (by rwa [List.getElem?_drop] at hj)
  obtain ⟨W1, hW1⟩ : ∃ W1, W1 = w.drew.setRow b row1 := ⟨_, rfl⟩
  rw [← hW1] at hcp1
  have hg1 : W1.heap[b]? = some (.cells row1 tb (0, 0)) := by rw [hW1]; exact setRow_heap w.drew b cur row1 tb (0, 0) hg
  have hgv1 : W1.heap[vb]? = w.heap[vb]? := by rw [hW1]; exact setRow_other w.drew b vb row1 hvb
  obtain ⟨row2, hrow2⟩ : ∃ row2, row2 = (row1.toList.take (off + i * es) ++ vs ++ row1.toList.drop (off + i * es + vs.length)).toArray := ⟨_, rfl⟩
  have hcp2 : ∀ ty dc, (Builtin.copy_ #[(ρ.t 24), (ρ.t 24)] ty #[.slice (some ⟨b, off + i * es, none⟩) (n + m - i) dc, .slice (some ⟨vb, voff, none⟩) m vc]).run P W1 = .ok (goInt m) (W1.setRow b row2) := fun ty dc => by
    rw [hrow2]
    refine run_copy_at W1 _ _ ty (ρ.t 9) i0 b _ _ dc _ _ vc m row1 tb vs L.t24 hi9 hg1 (by simp only [Nat.min_def]; split <;> omega) (by rw [hes]; exact hvl) ?_ (by rw [hr1s, hvl]; omega) h1v
    intro j v hj
    rw [Addr.add_lit]
    exact hcellv W1 hgv1 j v hj
  have hfin : row2.size = cur.size ∧ (row2.toList.drop off).take ((n + m) * es) = cs.take (i * es) ++ vs ++ cs.drop (i * es) := by
    refine ⟨?_, ?_⟩
    · rw [hrow2]
      simp only [List.size_toArray, List.length_append, List.length_take, List.length_drop, Array.length_toList, hr1s, hvl]
      omega
    · rw [hrow2, m3]
      exact ins_list hcs hcl hvl m1 (by rw [hcurl]; omega) (by rw [hrow1])
  have hW2 : W1.setRow b row2 = w.drew.setRow b row2 := by rw [hW1, setRow_setRow]
  clear hrow1 hrow2 hW1 hcs hvs hcell hcellv hcx hOV
  go_enter hF, Body2.n22_ntmps ρ
  go_wp2_with (simp only [hov])
  go_region_law_o (refine step_copy_runI rfl _ _ (ρ.t 24) (ρ.t 24) rfl _ _ (by simp [Act.eval, Act.put]) (by simp [Act.eval, Act.put]) (hcp1 _ _ _) ?_)
  go_wp2_with (at_builtin; refine wpList_copy_runI _ rfl _ _ (ρ.t 24) (ρ.t 24) rfl _ _ rfl rfl (hcp2 _ _) ?_)
  go_ret
  exact ⟨rfl, row2, rfl, hfin⟩

set_option maxHeartbeats 4000000 in
set_option maxRecDepth 100000 in
/-- There is no room, i < len(s): a new row. -/
theorem ins_grow {i0 : TypeInfo} {z : Value} {es : Nat} (L : InsL P ρ i0 z es) (hzs : z.cells.size = es) {f : FuncId} {nm : String} {ta : Array TypeId} (hF : P.funcs[f]? = some { Body2.n22 ρ with name := nm, targs := ta }) (b off n c i vb voff m vc : Nat) (cs vs : List Value) (cur curv : Array Value) (tb tv : TypeId) (w : World) (hi : i < n) (hm : 0 < m) (hnc : n ≤ c) (hroom : c < n + m) (hbig : (n + m) * i0.bytes ≤ 140737488355328) (h63 : n + m ≤ maxLen)
    (hg : w.heap[b]? = some (.cells cur tb (0, 0))) (hgv : w.heap[vb]? = some (.cells curv tv (0, 0))) (hcl : cs.length = n * es) (hvl : vs.length = m * es) (hfit : off + c * es ≤ cur.size) (hfitv : voff + vs.length ≤ curv.size)
    (hcs : (cur.toList.drop off).take (n * es) = cs) (hvs : (curv.toList.drop voff).take (m * es) = vs) (h1c : ∀ v ∈ cs, v.oneCell' = true) (h1v : ∀ v ∈ vs, v.oneCell' = true) :
    Calls P f #[.slice (some ⟨b, off, none⟩) n c, .int .i64 i, .slice (some ⟨vb, voff, none⟩) m vc] w fun e w' =>
      ∃ G, e = .returned (.slice (some ⟨w.heap.size, 0, none⟩) (n + m) G) ∧ n + m ≤ G ∧ G ≤ maxLen ∧ ∃ row : Array Value, w'.heap = (w.alloc (.cells row (ρ.t 9))).heap ∧ (w'.os = w.os ∧ w'.tape = w.tape ∧ w'.output = w.output) ∧ row.size = G * es ∧ row.toList.take ((n + m) * es) = cs.take (i * es) ++ vs ++ cs.drop (i * es) := by
  have t3 := L.t3; have a3 := L.a3; have z3 := L.z3; have v3 := L.v3; have t4 := L.t4; have a4 := L.a4; have z4 := L.z4; have v4 := L.v4; have z9 := L.z9; have t24 := L.t24; have a24 := L.a24; have z24 := L.z24; have v24 := L.v24
  have u3 := run_underlying L.t3; have u4 := run_underlying L.t4; have u24 := run_underlying L.t24
  have hz1 : ¬ ((m : Int) = 0) := by omega
  have hz2 : ¬ ((i : Int) = (n : Int)) := by omega
  have hz3 : (c : Int) < (n : Int) + (m : Int) := by omega
  have hes := L.size
  have hi9 := L.i9
  have hpos := L.pos
  have hcurl : cur.toList.length = cur.size := Array.length_toList
  have m1 : i * es ≤ n * es := Nat.mul_le_mul_right es (Nat.le_of_lt hi)
  have m2 : n * es ≤ c * es := Nat.mul_le_mul_right es hnc
  have m3 : (n + m) * es = n * es + m * es := Nat.add_mul ..
  have m4 : (i + m) * es = i * es + m * es := Nat.add_mul ..
  have m5 : (n - i) * es = n * es - i * es := Nat.sub_mul ..
  have mixed := L.mixed
  have hbw : b < w.heap.size := (Array.getElem?_eq_some_iff.1 hg).1
  have hvw : vb < w.heap.size := (Array.getElem?_eq_some_iff.1 hgv).1
  have hkk : (n : Int) + (m : Int) - (i : Int) = ((n + m - i : Nat) : Int) := by omega
  have hik : i + (n + m - i) = n + m := by omega
  have hdl : (cs.drop (i * es)).length = (n - i) * es := by rw [List.length_drop, hcl, m5]
  have hcell : ∀ (W : World), W.heap[b]? = w.heap[b]? → ∀ j u, cs[j]? = some u → W.cell? ⟨b, off + j, none⟩ = some u := fun W hW j u hj => by
    rw [cell_of_row W b (off + j) cur tb (0, 0) (hW.trans hg)]
    rw [← hcs, List.getElem?_take] at hj
    split at hj
    · rw [List.getElem?_drop] at hj; simpa using hj
    · cases hj
  have hcellv : ∀ (W : World), W.heap[vb]? = w.heap[vb]? → ∀ j u, vs[j]? = some u → W.cell? ⟨vb, voff + j, none⟩ = some u := fun W hW j u hj => by
    rw [cell_of_row W vb (voff + j) curv tv (0, 0) (hW.trans hgv)]
    rw [← hvs, List.getElem?_take] at hj
    split at hj
    · rw [List.getElem?_drop] at hj; simpa using hj
    · cases hj
  have hold : (Builtin.firstCells i0.size i (.slice (some ⟨b, off, none⟩) i c)).run P w.drew = .ok (cs.take (i * es)).toArray w.drew := by
    rw [hes]
    refine run_firstCells_some w.drew es i ⟨b, off, none⟩ i c (cs.take (i * es)) (by rw [List.length_take]; omega) (fun j v hj => ?_)
    rw [Addr.add_lit]
    rw [List.getElem?_take] at hj
    split at hj
    · exact hcell w.drew rfl j v hj
    · cases hj
  have hrz : ∀ ty, (Builtin.append_ #[(ρ.t 24), (ρ.t 3)] ty #[.slice (some ⟨b, off, none⟩) i c, .int .i64 ((n : Int) + (m : Int) - (i : Int))]).run P w =
      .ok (.slice (some ⟨w.heap.size, 0, none⟩) (n + m) (grownCap w (n + m) c (ρ.t 9))) (w.drew.alloc (.cells ((cs.take (i * es)).toArray ++ Builtin.zeroCells z.cells (n + m - i) ++ Builtin.zeroCells z.cells (grownCap w (n + m) c (ρ.t 9) - (n + m))) (ρ.t 9))) := fun ty => by
    have h := Lib.run_append_grow_zeros w (ρ.t 24) (ρ.t 3) ty (ρ.t 9) i0 z .i64 .i64 L.t24 L.t3 hi9 L.v9 (some ⟨b, off, none⟩) i c (cs.take (i * es)) hold (n + m - i) (by omega) (by rw [hes]; exact hpos) (by omega) (by unfold maxLen at h63; omega) (by have := Nat.mul_le_mul_right i0.bytes (show n + m - i ≤ n + m by omega); omega) (by rw [hik]; exact growslice_fits hroom hbig)
    rw [hik] at h
    rw [hkk]
    exact h
  obtain ⟨G, hG⟩ : ∃ G, G = grownCap w (n + m) c (ρ.t 9) := ⟨_, rfl⟩
  obtain ⟨ROW, hROW⟩ : ∃ ROW : Array Value, ROW = (cs.take (i * es)).toArray ++ Builtin.zeroCells z.cells (n + m - i) ++ Builtin.zeroCells z.cells (G - (n + m)) := ⟨_, rfl⟩
  rw [← hG] at hrz
  rw [← hROW] at hrz
  have hGn : n + m ≤ G := by rw [hG]; exact grownCap_ge w _ _ _
  have hG63 : G ≤ maxLen := by
    rw [hG]; exact grownCap_le_maxLen w (n + m) c (ρ.t 9) h63
  have hG63' : G ≤ 9223372036854775807 := by unfold maxLen at hG63; omega
  have mG : (n + m - i) * es + (G - (n + m)) * es + i * es = G * es := by rw [← Nat.add_mul, ← Nat.add_mul]; congr 1; omega
  have mG2 : (n + m) * es ≤ G * es := Nat.mul_le_mul_right es hGn
  have hRl : ROW.size = G * es := by
    rw [hROW]
    simp only [Array.size_append, List.size_toArray, size_zeroCells, hzs, List.length_take, hcl]
    omega
  obtain ⟨W1, hW1⟩ : ∃ W1, W1 = w.drew.alloc (.cells ROW (ρ.t 9)) := ⟨_, rfl⟩
  rw [← hW1] at hrz
  have hN : W1.heap[w.heap.size]? = some (.cells ROW (ρ.t 9) (0, 0)) := by rw [hW1]; exact heap_alloc_new w.drew _
  have hO : ∀ x, x < w.heap.size → W1.heap[x]? = w.heap[x]? := fun x hx => by rw [hW1]; exact Go.RowKit.Below.heap_alloc w.drew _ x hx
  obtain ⟨R2, hR2⟩ : ∃ R2, R2 = (ROW.toList.take (i * es) ++ vs ++ ROW.toList.drop (i * es + vs.length)).toArray := ⟨_, rfl⟩
  have hcpA : ∀ W : World, W.heap = W1.heap → ∀ ty dc, (Builtin.copy_ #[(ρ.t 24), (ρ.t 24)] ty #[.slice (some ⟨w.heap.size, i * es, none⟩) (n + m - i) dc, .slice (some ⟨vb, voff, none⟩) m vc]).run P W = .ok (goInt m) (W.setRow w.heap.size R2) := fun W hW ty dc => by
    rw [hR2]
    refine run_copy_at W _ _ ty (ρ.t 9) i0 _ _ _ dc _ _ vc m ROW (ρ.t 9) vs L.t24 hi9 (by rw [hW]; exact hN) (by simp only [Nat.min_def]; split <;> omega) (by rw [hes]; exact hvl) ?_ (by rw [hRl, hvl]; omega) h1v
    intro j v hj
    rw [Addr.add_lit]
    exact hcellv W (by rw [hW]; exact hO vb hvw) j v hj
  have hR2s : R2.size = G * es := by
    rw [hR2]
    simp only [List.size_toArray, List.length_append, List.length_take, List.length_drop, Array.length_toList, hRl, hvl]
    omega
  obtain ⟨W2, hW2⟩ : ∃ W2, W2 = W1.setRow w.heap.size R2 := ⟨_, rfl⟩
  have hN2 : W2.heap[w.heap.size]? = some (.cells R2 (ρ.t 9) (0, 0)) := by rw [hW2]; exact setRow_heap W1 _ ROW R2 (ρ.t 9) (0, 0) hN
  have hO2 : ∀ x, x < w.heap.size → W2.heap[x]? = w.heap[x]? := fun x hx => by
    rw [hW2]
    exact (setRow_other W1 w.heap.size x R2 (by omega)).trans (hO x hx)
  obtain ⟨R3, hR3⟩ : ∃ R3, R3 = (R2.toList.take (i * es + m * es) ++ cs.drop (i * es) ++ R2.toList.drop (i * es + m * es + (cs.drop (i * es)).length)).toArray := ⟨_, rfl⟩
  have hcpB : ∀ W : World, W.heap = W2.heap → ∀ ty dc sc, (Builtin.copy_ #[(ρ.t 24), (ρ.t 24)] ty #[.slice (some ⟨w.heap.size, i * es + m * es, none⟩) (n + m - (i + m)) dc, .slice (some ⟨b, off + i * es, none⟩) (n - i) sc]).run P W = .ok (goInt (n - i : Nat)) (W.setRow w.heap.size R3) := fun W hW ty dc sc => by
    rw [hR3]
    refine run_copy_at W _ _ ty (ρ.t 9) i0 _ _ _ dc _ _ sc (n - i) R2 (ρ.t 9) (cs.drop (i * es)) L.t24 hi9 (by rw [hW]; exact hN2) (by simp only [Nat.min_def]; split <;> omega) (by rw [hes]; exact hdl) ?_ (by rw [hR2s, hdl]; omega) (fun v hv => h1c v (List.mem_of_mem_drop hv))
    intro j v hj
    rw [Addr.add_lit, Nat.add_assoc]
    exact hcell W (by rw [hW]; exact hO2 b hbw) _ v (by rwa [List.getElem?_drop] at hj)
  have hfin : R3.size = G * es ∧ R3.toList.take ((n + m) * es) = cs.take (i * es) ++ vs ++ cs.drop (i * es) := by
    refine ⟨?_, ?_⟩
    · rw [hR3]
      simp only [List.size_toArray, List.length_append, List.length_take, List.length_drop, Array.length_toList, hR2s, hcl]
      omega
    · have e0 : ROW.toList.take (i * es) = cs.take (i * es) := by
        rw [hROW]
        simp only [Array.toList_append, List.append_assoc]
        exact List.take_left' (by rw [List.length_take]; omega)
      have e1 : (cs.take (i * es)).length = i * es := by rw [List.length_take]; omega
      have e2 : R2.toList.take (i * es + m * es) = cs.take (i * es) ++ vs := by
        rw [hR2, e0, List.append_assoc, ← List.append_assoc]
        exact List.take_left' (by rw [List.length_append, e1, hvl])
      rw [hR3, e2]
      exact List.take_left' (by rw [List.length_append, List.length_append, e1, hvl, hdl]; omega)
  have hGi : ¬ (G = i) := by omega
  have hGim : ¬ (G = i + m) := by omega
  have hci : ¬ (c = i) := by omega
  have hbN : b ≠ w.heap.size := by omega
  have hw1 : IntKind.i64.wrap ((i : Int) + (m : Int)) = (i : Int) + (m : Int) := by rw [IntKind.wrap_i64]; omega
  have hb1 : (0 : Int) ≤ (i : Int) + (m : Int) := by omega
  have hin : i ≤ n := by omega
  have htn : ((i : Int) + (m : Int)).toNat = i + m := by omega
  have hb3 : (i : Int) ≤ (n : Int) := by omega
  subst hW2
  subst hW1
  have hcpA' := hcpA ((w.alloc (.cells ROW (ρ.t 9))).drew) rfl
  have hcpB' := hcpB (((w.alloc (.cells ROW (ρ.t 9))).drew.setRow w.heap.size R2).drew) rfl
  clear hkk hik hold hROW hG hRl hcell hcellv hO hO2 hN hN2 hcs hvs hR2 hR3 hcpA hcpB
  go_enter hF, Body2.n22_ntmps ρ
  go_wp2_with (at_builtin; refine Lib.wpList_append_run _ rfl _ _ _ _ rfl _ _ rfl rfl _ _ (hrz _) ?_)
  go_region_law_o (refine step_copy_runI rfl _ _ (ρ.t 24) (ρ.t 24) rfl (.slice (some ⟨w.heap.size, i * es + m * es, none⟩) (n + m - (i + m)) (G - (i + m))) (.slice (some ⟨b, off + i * es, none⟩) (n - i) (c - i)) (by simp [Act.eval, Act.put]) (by simp [Act.eval, Act.put]) (hcpB' (ρ.t 3) (G - (i + m)) (c - i)) ?_)
  go_wp2
  go_ret
  refine ⟨G, rfl, hGn, hG63, R3, ?_, ⟨rfl, rfl, rfl⟩, hfin.1, hfin.2⟩
  show (((w.alloc (.cells ROW (ρ.t 9))).setRow w.heap.size R2).setRow w.heap.size R3).heap = _
  rw [World.setRow_alloc_new, World.setRow_alloc_new]

set_option maxHeartbeats 4000000 in
set_option maxRecDepth 100000 in
/-- At the end (i = len(s)): an append. -/
theorem ins_end {i0 : TypeInfo} {z : Value} {es : Nat} (L : InsL P ρ i0 z es) {f : FuncId} {nm : String} {ta : Array TypeId} (hF : P.funcs[f]? = some { Body2.n22 ρ with name := nm, targs := ta }) (a : Option Addr) (n c vb voff m vc : Nat) (hm : 0 < m) (ha : a = none → n = 0 ∧ c = 0) (hsp : ∀ x, a = some x → x.spot = none) (hnc : n ≤ c) (w : World) (v' : Value) (w' : World)
    (hrun : (Builtin.append_ #[ρ.t 24, ρ.t 24] (ρ.t 24) #[.slice a n c, .slice (some ⟨vb, voff, none⟩) m vc]).run P w = .ok v' w') :
    Calls P f #[.slice a n c, .int .i64 n, .slice (some ⟨vb, voff, none⟩) m vc] w fun e w2 => e = .returned v' ∧ w2 = w' := by
  have t3 := L.t3; have a3 := L.a3; have z3 := L.z3; have v3 := L.v3; have t4 := L.t4; have a4 := L.a4; have z4 := L.z4; have v4 := L.v4; have z9 := L.z9; have t24 := L.t24; have a24 := L.a24; have z24 := L.z24; have v24 := L.v24
  have u3 := run_underlying L.t3; have u4 := run_underlying L.t4; have u24 := run_underlying L.t24
  have mixed := L.mixed
  have hz1 : ¬ ((m : Int) = 0) := by omega
  go_enter hF, Body2.n22_ntmps ρ
  cases a with
  | none =>
    obtain ⟨rfl, rfl⟩ := ha rfl
    go_wp2_with (at_builtin; refine Lib.wpList_append_run _ rfl _ _ _ _ rfl _ _ rfl rfl _ _ hrun ?_)
    go_ret
    exact ⟨rfl, rfl⟩
  | some a =>
    obtain ⟨ab, ao, asp⟩ := a
    have hs := hsp _ rfl
    simp only at hs
    subst hs
    go_wp2_with (at_builtin; refine Lib.wpList_append_run _ rfl _ _ _ _ rfl _ _ rfl rfl _ _ hrun ?_)
    all_goals (go_ret; exact ⟨rfl, rfl⟩)

theorem ins_run {i0 : TypeInfo} {z : Value} {es : Nat} (L : InsL P ρ i0 z es) (hOV : ∀ args w, (callFunc (ρ.f 29) args).run P w = ((Extern.SlicesOverlaps.overlaps #[ρ.t 24, ρ.t 24] #[ρ.t 4] args).run P w).andThen fun v w' => .ok (.value v) w') (hzs : z.cells.size = es) {f : FuncId} {nm : String} {ta : Array TypeId} (hF : P.funcs[f]? = some { Body2.n22 ρ with name := nm, targs := ta }) (w : World) (v0 v2 : Value) (n i m : Nat) (us vs : List Value)
    (hE : Nat.ble (ρ.t 9) 4294967295 = true) (h0 : Own w (ρ.t 9) es v0 n us) (h2 : Own w (ρ.t 9) es v2 m vs) (hne : ∀ b, blk v0 = some b → blk v2 ≠ some b) (hi : i ≤ n) (hm : 0 < m) (h1c : ∀ v ∈ us, v.oneCell' = true) (h1v : ∀ v ∈ vs, v.oneCell' = true) (hbig : (n + m) * i0.bytes ≤ 140737488355328) (h63 : n + m ≤ maxLen) :
    Calls P f #[v0, .int .i64 i, v2] w fun e w' => ∃ v', e = .returned v' ∧ Own w' (ρ.t 9) es v' (n + m) (us.take (i * es) ++ vs ++ us.drop (i * es)) ∧ w.grownBy w' (blk v0) ∧ (blk v' = blk v0 ∨ blk v' = some w.heap.size) := by
  have hes := L.size
  have hlen : (us.take (i * es) ++ vs ++ us.drop (i * es)).length = (n + m) * es := by
    have m1 : i * es ≤ n * es := Nat.mul_le_mul_right es hi
    simp only [List.length_append, List.length_take, List.length_drop, h0.1, h2.1, Nat.add_mul]
    omega
  rcases h2.2 with ⟨_, hm0⟩ | ⟨vb, voff, vc, curv, rfl, ⟨tv, fz1, hgv, hzv⟩, hmc, hcm, hfv, htv⟩
  · omega
  obtain rfl := hzv.low hE
  have hfv' : voff + vs.length ≤ curv.size := by
    have := Nat.mul_le_mul_right es hmc
    rw [h2.1]; omega
  have hcellv : ∀ j u, vs[j]? = some u → w.cell? ((⟨vb, voff, none⟩ : Addr).add j) = some u := fun j u hj => by
    rw [Addr.add_lit]; exact h2.cells rfl j u hj
  rcases Nat.lt_or_ge i n with hin | hin
  · rcases h0.2 with ⟨_, hn0⟩ | ⟨b, off, c, cur, rfl, ⟨tb, fz0, hg, hzf⟩, hnc, hcm', hfit, htake⟩
    · omega
    obtain rfl := hzf.low hE
    have hvb : vb ≠ b := fun e => hne b rfl (by rw [e]; rfl)
    by_cases hroom : n + m ≤ c
    · refine Calls.mono (ins_shift L hOV hF b off n c i vb voff m vc us vs cur curv tb tv w hin hm hroom (by unfold maxLen at hcm'; omega) hvb hg hgv h0.1 h2.1 hfit hfv' htake htv h1c h1v) ?_
      rintro e w' ⟨rfl, row, rfl, hrs, hrt⟩
      refine ⟨_, rfl, ⟨hlen, .inr ⟨b, off, c, row, rfl, ⟨tb, _, setRow_heap w.drew b cur row tb (0, 0) hg, .inl rfl⟩, hroom, hcm', by rw [hrs]; exact hfit, hrt⟩⟩, ⟨rfl, rfl, rfl, ?_, fun k _ hk => setRow_other w.drew b k row (fun e => hk (by rw [e]; rfl))⟩, .inl rfl⟩
      show w.heap.size ≤ (w.drew.setRow b row).heap.size
      exact Nat.le_of_eq (by show w.heap.size = (w.heap.modify b _).size; rw [Array.size_modify])
    · refine Calls.mono (ins_grow L hzs hF b off n c i vb voff m vc us vs cur curv tb tv w hin hm hnc (by omega) hbig h63 hg hgv h0.1 h2.1 hfit hfv' htake htv h1c h1v) ?_
      rintro e w' ⟨G, rfl, hG1, hG2, row, hh, ⟨o1, o2, o3⟩, hrs, hrt⟩
      refine ⟨_, rfl, ⟨hlen, .inr ⟨w.heap.size, 0, G, row, rfl, ⟨ρ.t 9, _, by rw [hh]; exact heap_alloc_new w _, .inl rfl⟩, hG1, hG2, by rw [hrs]; omega, by rw [List.drop_zero]; exact hrt⟩⟩, ⟨o1, o2, o3, by rw [hh]; simp, fun k hk _ => by rw [hh]; exact Go.RowKit.Below.heap_alloc w _ k hk⟩, .inr rfl⟩
  · have hin' : i = n := by omega
    subst hin'
    obtain ⟨a, c, rfl⟩ := h0.slice
    obtain ⟨v', w', g1, g2, g3, g4⟩ := run_append_at (P := P) (w := w) (ρ.t 24) (ρ.t 24) (ρ.t 9) i0 z L.t24 L.i9 L.v9 (by rw [hzs, hes]) (by rw [hes]; exact L.pos) _ i us (by rw [hes]; exact h0) (some ⟨vb, voff, none⟩) m vc (by simp) vs (by rw [hes]; exact h2.1) (fun ad had => by cases had; exact hcellv) h1v h63 hbig
    rw [hes] at g2
    refine Calls.mono (ins_end L hF a i c vb voff m vc hm ?_ ?_ ?_ w v' w' g1) ?_
    · intro ha
      subst ha
      rcases h0.2 with ⟨h3, h4⟩ | ⟨b, off, c', cur, h3, _⟩
      · simp only [Value.slice.injEq] at h3; exact ⟨h4, h3.2.2⟩
      · simp at h3
    · intro x hx
      subst hx
      rcases h0.2 with ⟨h3, h4⟩ | ⟨b, off, c', cur, h3, _⟩
      · simp at h3
      · simp only [Value.slice.injEq, Option.some.injEq] at h3; rw [h3.1]
    · rcases h0.2 with ⟨h3, h4⟩ | ⟨b, off, c', cur, h3, _, h5, _⟩
      · omega
      · simp only [Value.slice.injEq] at h3; omega
    · rintro e w2 ⟨rfl, rfl⟩
      have e1 : us.take (i * es) = us := List.take_of_length_le (Nat.le_of_eq h0.1)
      have e2 : us.drop (i * es) = [] := List.drop_of_length_le (Nat.le_of_eq h0.1)
      refine ⟨v', rfl, ?_, ?_, g4⟩
      · rw [e1, e2, List.append_nil]; exact g2
      · rw [← ownBlock_blk _ ⟨_, _, _, rfl⟩]; exact g3

/-- A call that gives back one array, made of memory that was handed over or is new. -/
theorem ret_arr {S : FnSpec} {ds : List D} {obs : List Obj'} {κ : Kap} {F : Nat → Prop} {w w' : World} {v0 v' : Value} {E : TypeId} {es : Nat} {y : List D} {xs : List Value} (hpost : S.post ds obs (.own 0) [.arr E es y] [])
    (hFl : ∀ b, F b → b < w.heap.size) (hg : w.grownBy w' (blk v0)) (hb : blk v' = blk v0 ∨ blk v' = some w.heap.size) (hl : ∀ b, blk v0 = some b → Lent κ obs b ∧ ¬ F b)
    (hown : Own w' E es v' y.length xs) (hre : RE F w' es y xs) (pos : 0 < es) :
    ∃ r new obs' κ' κl F', Ret S ds obs κ F w v' w' r new obs' κ' κl F' := by
  obtain ⟨a', c', hv'⟩ := hown.slice
  refine ⟨.own 0, [.arr E es y], [], fun _ => ⟨v', fun _ _ => undef⟩, κ, F, ?_⟩
  refine ⟨hpost, fun _ h => h, fun _ h => .inl h, fun b hb => Nat.lt_of_lt_of_le (hFl b hb) hg.size, ⟨hg.os, hg.tape, hg.output, hg.size, fun b hb => hg.block b hb.1 fun e => hb.2 (hl b e.symm).1⟩, ?_, ?_, ?_, ⟨?_, ?_, ?_⟩, ⟨?_, ?_, ?_⟩, ?_⟩
  · unfold RV; exact ⟨rfl, by rw [hv']; rfl⟩
  · unfold NB; simp
  · intro i x j y hx; simp at hx
  · intro j x hj
    rcases j with _ | j
    · simp only [List.getElem?_cons_zero, Option.some.injEq] at hj
      subst hj
      exact ⟨⟨_, hown, hre, pos⟩, trivial⟩
    · simp at hj
  · intro j x hj b hbk
    rcases j with _ | j
    · simp only [List.getElem?_cons_zero, Option.some.injEq] at hj
      subst hj
      rcases hbk with hbk | hbk
      · have hbk : blk v' = some b := hbk
        rcases hb with g3 | g3
        · rw [g3] at hbk
          exact ⟨.inl (hl b hbk).1, (hl b hbk).2⟩
        · rw [g3] at hbk
          cases hbk
          exact ⟨.inr (Nat.le_refl _), fun hF => absurd (hFl _ hF) (Nat.lt_irrefl _)⟩
      · exact hbk.elim
    · simp at hj
  · intro i x j y hx hy hne
    rcases i with _ | i
    · rcases j with _ | j
      · exact absurd rfl hne
      · simp at hy
    · simp at hx
  · intro j x hj; simp at hj
  · intro j x hj; simp at hj
  · intro i x j y hx; simp at hx
  · intro j hj; simp at hj

/-- The model. -/
noncomputable def insM {α : Type} (a : List α) (i : Int) (v : List α) : Option (List α) :=
  if 0 ≤ i ∧ i ≤ a.length ∧ 0 < v.length ∧ a.length + v.length ≤ 4294967296 then some (a.take i.toNat ++ v ++ a.drop i.toNat) else none
noncomputable def insS (E : TypeId) (α : Type) [Enc α] : MS (List α × Int × List α) (List α) :=
  ⟨.x (.m E) (.x .r (.m E)), fun x => insM x.1 x.2.1 x.2.2, fun _ => .own 0, fun y => [arO E y], fun _ _ => []⟩

theorem ins_ok {i0 : TypeInfo} {z : Value} {α : Type} [Enc α] (L : InsL P ρ i0 z (Enc.sz α)) (hE : Nat.ble (ρ.t 9) 4294967295 = true) (hOV : ∀ args w, (callFunc (ρ.f 29) args).run P w = ((Extern.SlicesOverlaps.overlaps #[ρ.t 24, ρ.t 24] #[ρ.t 4] args).run P w).andThen fun v w' => .ok (.value v) w') (hzs : z.cells.size = Enc.sz α) (hb : Nat.ble i0.bytes 32768 = true) {f : FuncId} {nm : String} {ta : Array TypeId} (hc : ∀ args w, (callFunc f args).run P w = .ok (.enter f args) w) (hF : P.funcs[f]? = some { Body2.n22 ρ with name := nm, targs := ta }) :
    FnOK P J f (insS (ρ.t 9) α).S := by
  refine ⟨hc, ?_⟩
  rintro vs w F ds obs κ ⟨⟨a, i, v⟩, y, rfl, rfl, hy⟩ hargs hFl hJ hobs
  have hm : insM a i v = some y := hy
  unfold insM at hm
  split at hm
  · rename_i hcond
    obtain ⟨c1, c2, c3, c4⟩ := hcond
    cases hm
    have hargs' : RVs κ F w [.own 0, .dat (.sc (.int .i64 i)), .own 1] vs := hargs
    unfold RVs at hargs'
    obtain ⟨v0, r1, rfl, k0, hargs'⟩ := hargs'
    unfold RVs at hargs'
    obtain ⟨v1, r2, rfl, k1, hargs'⟩ := hargs'
    unfold RVs at hargs'
    obtain ⟨v2, r3, rfl, k2, hargs'⟩ := hargs'
    unfold RVs at hargs'
    subst hargs'
    unfold RV at k0 k1 k2
    unfold RD at k1
    obtain ⟨rfl, _⟩ := k1
    have ho0 := (hobs.ok 0 (arO (ρ.t 9) a) rfl).1
    have ho1 := (hobs.ok 1 (arO (ρ.t 9) v) rfl).1
    obtain ⟨us, w0, re0, pos⟩ := (show ArrOK F w (ρ.t 9) (Enc.sz α) (κ 0).v (a.map Enc.e) from ho0)
    obtain ⟨vs, w1, re1, _⟩ := (show ArrOK F w (ρ.t 9) (Enc.sz α) (κ 1).v (v.map Enc.e) from ho1)
    rw [List.length_map] at w0 w1
    obtain ⟨n, rfl⟩ : ∃ n : Nat, i = n := ⟨i.toNat, by omega⟩
    have hb' := Nat.le_of_ble_eq_true hb
    have hlt : ∀ b, blk (κ 0).v = some b → b < w.heap.size ∧ ¬ F b := fun b hbk => hobs.blk 0 (arO (ρ.t 9) a) rfl b (.inl hbk)
    have hcall := ins_run L hOV hzs hF w (κ 0).v (κ 1).v a.length n v.length us vs hE w0 w1 (fun b e1 e2 => hobs.apart 0 (arO (ρ.t 9) a) 1 (arO (ρ.t 9) v) rfl rfl (by decide) b (.inl e1) (.inl e2)) (by omega) c3 (fun u hu => by rw [one_eq]; exact re0.ones u hu) (fun u hu => by rw [one_eq]; exact re1.ones u hu)
      (Nat.le_trans (Nat.mul_le_mul c4 hb') (by decide)) (by unfold maxLen; omega)
    rw [k0.1, k2.1]
    refine Calls.mono hcall ?_
    rintro e w' ⟨v', rfl, g1, g2, g3⟩
    have hFb : ∀ b, F b → w'.heap[b]? = w.heap[b]? := fun b hb => g2.block b (hFl b hb) fun e => (hlt b e.symm).2 hb
    have hre : RE F w' (Enc.sz α) ((a.take n ++ v ++ a.drop n).map Enc.e) (us.take (n * Enc.sz α) ++ vs ++ us.drop (n * Enc.sz α)) := by
      rw [List.map_append, List.map_append, List.map_take, List.map_drop]
      exact RE.mono (fun _ h => h) hFb (RE.app (RE.app (re0.take n) re1) (re0.drop n))
    refine ⟨v', rfl, ret_arr (v0 := (κ 0).v) (E := ρ.t 9) (es := Enc.sz α) (y := (a.take n ++ v ++ a.drop n).map Enc.e) ⟨(a, (n : Int), v), _, rfl, rfl, hy, rfl, rfl, rfl⟩ hFl g2 g3 (fun b hbk => ⟨⟨0, _, rfl, .inl hbk⟩, (hlt b hbk).2⟩) ?_ hre pos⟩
    simp only [List.length_map, List.length_append, List.length_take, List.length_drop]
    have e : min n a.length + v.length + (a.length - n) = a.length + v.length := by omega
    rw [e]; exact g1
  · cases hm

theorem run_zeroValue' {t : TypeId} {x : TyE} (h : TyOK P t x) (w : World) : (zeroValue t).run P w = .ok x.zero w := by
  obtain ⟨_, i, h1, _, _, h4, _⟩ := h
  simp [zeroValue, typeInfo, h1, h4]

/-- The types' facts, off the table. -/
theorem insL_of {ty : TypeId → Option TyE} (T : TT P ty) (ρ : Ren) {n : Nat} {x : TyE}
    (h3 : ty (ρ.t 3) = some ⟨.int .i64, 1, 8, .int .i64 0, false⟩) (h4 : ty (ρ.t 4) = some ⟨.bool, 1, 1, .bool false, false⟩) (h24 : ty (ρ.t 24) = some ⟨.slice (ρ.t 9), 1, 24, .slice none 0 0, false⟩) (h9 : ty (ρ.t 9) = some x)
    (hx : (Nat.beq x.size n && Nat.blt 0 x.size && Nat.beq x.zero.cells.size x.size && Nat.ble x.bytes 32768 && x.zero.cells.toList.all one) = true) :
    ∃ i0, InsL P ρ i0 x.zero n ∧ x.zero.cells.size = n ∧ Nat.ble i0.bytes 32768 = true ∧ x.zero.cells.toList.all one = true := by
  simp only [Bool.and_eq_true] at hx
  obtain ⟨⟨⟨⟨x1, x2⟩, x3⟩, x4⟩, x5⟩ := hx
  have x1 := Nat.eq_of_beq_eq_true x1
  have x3 := Nat.eq_of_beq_eq_true x3
  have x2 : 0 < x.size := Nat.le_of_ble_eq_true x2
  have o3 := T.ty _ _ h3
  have o4 := T.ty _ _ h4
  have o24 := T.ty _ _ h24
  have o9 := T.ty _ _ h9
  have q9 := o9
  obtain ⟨_, i0, i1, i2, i3, i4, _⟩ := o9
  refine ⟨i0, ⟨T.mx, o3.1, fun w => run_isAgg' o3, fun w => run_sizeOf' o3, fun w => run_zeroValue' o3 w, o4.1, fun w => run_isAgg' o4, fun w => run_sizeOf' o4, fun w => run_zeroValue' o4 w, o24.1, fun w => run_isAgg' o24, fun w => run_sizeOf' o24, fun w => run_zeroValue' o24 w, i1, fun w => ?_, ?_, i4, ?_⟩, by rw [x3, x1], by rw [i3]; exact x4, x5⟩
  · rw [← x1]; exact run_sizeOf' q9
  · rw [← x1]; exact i2
  · rw [← x1]; exact x2

/-- slices.Insert's contract at a program. -/
theorem insOK {ty : TypeId → Option TyE} (T : TT P ty) (ρ : Ren) {α : Type} [Enc α] {x : TyE} {f : FuncId} {nm : String} {ta : Array TypeId} {fo : Func} (hc : ∀ args w, (callFunc f args).run P w = .ok (.enter f args) w) (hF : P.funcs[f]? = some { Body2.n22 ρ with name := nm, targs := ta })
    (h3 : ty (ρ.t 3) = some ⟨.int .i64, 1, 8, .int .i64 0, false⟩) (h4 : ty (ρ.t 4) = some ⟨.bool, 1, 1, .bool false, false⟩) (h24 : ty (ρ.t 24) = some ⟨.slice (ρ.t 9), 1, 24, .slice none 0 0, false⟩) (h9 : ty (ρ.t 9) = some x)
    (hx : (Nat.beq x.size (Enc.sz α) && Nat.blt 0 x.size && Nat.beq x.zero.cells.size x.size && Nat.ble x.bytes 32768 && x.zero.cells.toList.all one) = true)
    (hfo : P.funcs[ρ.f 29]? = some fo) (hname : (fo.name == "runtime.NumGoroutine") = false) (hb : fo.body.isNone = true) (hn : Extern.findNext fo = none) (he : Extern.find fo = some (Extern.SlicesOverlaps.overlaps #[ρ.t 24, ρ.t 24] #[ρ.t 4])) (hE : Nat.ble (ρ.t 9) 4294967295 = true := by rfl) :
    FnOK P J f (insS (ρ.t 9) α).S := by
  obtain ⟨i0, L, e1, e2, _⟩ := insL_of T ρ h3 h4 h24 h9 hx
  exact ins_ok L hE (fun args w => run_callFunc_extern hfo hname hb hn he args w) e1 e2 hc hF
end Go.Ab
