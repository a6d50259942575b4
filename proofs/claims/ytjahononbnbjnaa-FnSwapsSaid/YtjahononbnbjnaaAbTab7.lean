/- My own layer: tables: what their operations leave (7): literals. -/
import Derived.Test.YtjahononbnbjnaaAbTab6
namespace Go.Ab
set_option linter.unusedVariables false
set_option linter.unusedSimpArgs false
section
variable {P : Program} {cx : Cx} {κ : Kap} {F : Nat → Prop} {w : World} {U : Nat → Prop} {nm : Nat} {σ : Objs} {ty : TypeId → Option TyE} {Γ : Nat → Option FnSpec}

theorem RD_cells1 {d : D} {u : Value} (h1 : one u = true) (h : RD F w d u) : d.cells = [d] := by
 cases d with
 | agg cs =>
  unfold RD at h
  obtain ⟨vs, rfl, _⟩ := h
  cases h1
 | _ => rfl

def nilSlice : Value := .slice none 0 0
theorem sound_elemsTab (h : ORel cx κ F w U σ) {mask : List (Option TypeId)} {agg : Bool} {es : Nat} {ρ : Operand → Value} {e : Operand → AV} (he : ∀ x, RV κ F w (e x) (ρ x)) (hn : ∀ x, NB U (e x)) :
  ∀ (parts : List (Nat × Operand)) (k : Nat) (ds : List D) (ns : List Nat) (c : Array Value), elemsTab ty σ nm mask agg es k (parts.map fun p => (p.1, e p.2)) = some (ds, ns) → c.size = (k + parts.length) * es →
   ∃ c' us src, Instr.fill (fun i => some (i * es, es)) c (parts.map fun p => (p.1, ρ p.2)) = some c' ∧ c'.toList = c.toList.take (k * es) ++ us ∧ TabC κ σ F w mask es ds us none src ∧
    (∀ k j s, j < es → src k j = some s → ∃ n, s = .obj n ∧ n ∈ ns) ∧ (ns.Nodup → ∀ k j k' j' s, j < es → j' < es → src k j = some s → src k' j' = some s → (k, j) = (k', j')) ∧ ds.length = parts.length
 | [], k, ds, ns, c, h', hc => by
  simp only [List.map_nil, elemsTab, Option.some.injEq, Prod.mk.injEq] at h'
  obtain ⟨rfl, rfl⟩ := h'
  refine ⟨c, [], fun _ _ => none, rfl, ?_, ⟨by simp, by simp, by simp⟩, by simp, by simp, rfl⟩
  rw [List.append_nil, List.take_of_length_le (by simp at hc ⊢; omega)]
 | (i, x) :: rest, k, ds, ns, c, h', hc => by
  simp only [List.map_cons, elemsTab] at h'
  split at h'
  ·rename_i hik
   subst hik
   split at h'
   ·rename_i cs hcs
    split at h'
    ·rename_i hlen
     split at h'
     ·rename_i ds0 ns0 r ns' hput hr
      split at h'
      ·rename_i d hd
       simp only [Option.some.injEq, Prod.mk.injEq] at h'
       obtain ⟨rfl, rfl⟩ := h'
       obtain ⟨h1, h2⟩ := cells_of hcs (he x) (hn x)
       obtain ⟨q1, q2, q3⟩ := tabPut_some hput
       have hsz : (ρ x).cells.size = es := by rw [← Array.length_toList, h1.length]; exact hlen
       simp only [List.length_cons] at hc
       have e1 : (i + (rest.length + 1)) * es = i * es + es + rest.length * es := by rw [Nat.add_mul, Nat.add_mul, Nat.one_mul]; omega
       have e2 : (i + 1 + rest.length) * es = i * es + es + rest.length * es := by rw [Nat.add_mul, Nat.add_mul, Nat.one_mul]
       have hfit : i * es + (ρ x).cells.size ≤ c.size := by omega
       obtain ⟨c', us, src', g1, g2, g3, g4, g5, g6⟩ := sound_elemsTab h he hn rest (i + 1) r ns' (spl c.toList (i * es) (ρ x).cells.toList).toArray hr (by
        simp only [List.size_toArray]
        rw [spl_length (by simpa using hfit), Array.length_toList]; omega)
       have hcell : ∀ j < es, ∃ y u cc, cs[j]? = some y ∧ (ρ x).cells.toList[j]? = some u ∧ one u = true ∧ RV κ F w y u ∧ ds0[j]? = some cc ∧ PutAt ty σ nm nm mask none (.sc undef) [] j y cc := fun j hj => by
        have hjl : j < cs.length := by omega
        obtain ⟨u, u1, u2, u3⟩ := RVc.at j _ h1 (List.getElem?_eq_getElem hjl)
        obtain ⟨cc, v1, v2⟩ := q3 j _ (List.getElem?_eq_getElem hjl)
        rw [Nat.zero_add] at v2
        exact ⟨_, u, cc, List.getElem?_eq_getElem hjl, u1, u2, u3, v1, v2⟩
       have hdc : d.cells = ds0 := by
        unfold elemsTab.mkDD at hd
        split at hd
        ·cases hd; rfl
        ·split at hd
         ·rename_i d'
          cases hd
          simp only [List.length_cons, List.length_nil, Nat.zero_add] at q1
          obtain ⟨y, u, cc, _, _, u2, u3, v1, v2⟩ := hcell 0 (by omega)
          simp only [List.getElem?_cons_zero, Option.some.injEq] at v1
          subst v1
          have hpc := put_cell (k := 0) h v2 (.inl rfl) u3
          cases hm : maskAt mask 0 with
          | none => rw [hm] at hpc; exact RD_cells1 u2 hpc
          | some e2 =>
           rw [hm] at hpc
           obtain ⟨es2, rows2, rfl, _⟩ := hpc.1
           rfl
         ·cases hd
       let src0 : Nat → Nat → Option Sc := fun k j => if k = 0 then (ownN (cs.getD j .und)).map .obj else none
       have hs0 : ∀ k j s, src0 k j = some s → k = 0 ∧ ∃ n, cs[j]? = some (.own n) ∧ s = .obj n := fun k j s hs => by
        have hs' : (if k = 0 then (ownN (cs.getD j .und)).map Sc.obj else none) = some s := hs
        by_cases hk : k = 0
        ·rw [if_pos hk] at hs'
         obtain ⟨n, hn1, hn2⟩ := Option.map_eq_some_iff.1 hs'
         have := ownN_some hn1
         refine ⟨hk, n, ?_, hn2.symm⟩
         rw [List.getD_eq_getElem?_getD] at this
         cases hc0 : cs[j]? with
         | none => rw [hc0] at this; cases this
         | some y => rw [hc0] at this; simp only [Option.getD_some] at this; rw [this]
        ·rw [if_neg hk] at hs'; cases hs'
       have hC0 : TabC κ σ F w mask es [d] (ρ x).cells.toList none src0 := by
        refine ⟨by simp [hsz], fun k' d' hk' => ?_, fun k' d' j cc hk' hj' => ?_⟩
        ·cases k' with
         | zero => simp at hk'; subst hk'; rw [hdc, q1]; exact hlen
         | succ k' => simp at hk'
        ·cases k' with
         | succ k' => simp at hk'
         | zero =>
          simp at hk'; subst hk'
          rw [hdc] at hj'
          have hjl := (List.getElem?_eq_some_iff.1 hj').1
          obtain ⟨y, u, cc', v0, u1, u2, u3, v1, v2⟩ := hcell j (by omega)
          rw [hj'] at v1; cases v1
          refine ⟨u, by rw [Nat.zero_mul, Nat.zero_add]; exact u1, u2, ?_⟩
          have hpc := put_cell (k := 0) h v2 (.inl rfl) u3
          have hsr : src0 0 j = (ownN y).map .obj := by
           show (if 0 = 0 then (ownN (cs.getD j .und)).map Sc.obj else none) = _
           rw [if_pos rfl, List.getD_eq_getElem?_getD, v0]; rfl
          unfold PutAt at v2
          cases hm : maskAt mask j with
          | none => rw [hm] at hpc; exact hpc
          | some e2 =>
           rw [hm] at hpc v2
           simp only [] at hpc v2 ⊢
           refine .inr ⟨hpc.1, fun b hb => ?_⟩
           have hb2 := hpc.2 b hb
           rcases v2 with ⟨n, es2, rows, rfl, hσ, _⟩ | ⟨k2, _, hk2, _⟩ | ⟨rfl, _⟩ | ⟨k2, _, _, _, _, hk2, _⟩
           ·exact ⟨.obj n, by rw [hsr]; rfl, hb2⟩
           ·cases hk2
           ·unfold RV RD at u3
            rw [u3.1] at hb
            simp [blk] at hb
           ·cases hk2
       have hmem : ∀ (j n : Nat), cs[j]? = some (AV.own n) → n ∈ ns0 := fun j n hj => by rw [q2]; exact List.mem_filterMap.2 ⟨_, List.mem_of_getElem? hj, rfl⟩
       refine ⟨c', (ρ x).cells.toList ++ us, _, ?_, ?_, hC0.app g3, fun k j s hj hs => ?_, fun hnd k j k' j' s hj hj' hs hs' => ?_, by simp [g6]⟩
       ·simp only [List.map_cons, Instr.fill]
        rw [if_neg (by simp only [Bool.or_eq_true, decide_eq_true_eq, ne_eq]; omega), foldl_spl _ _ _ hfit]
        exact g1
       ·rw [g2, ← List.append_assoc]
        congr 1
        have e3 : (i + 1) * es = i * es + es := by rw [Nat.add_mul, Nat.one_mul]
        unfold spl
        have : (c.toList.take (i * es) ++ (ρ x).cells.toList).length = (i + 1) * es := by
         rw [List.length_append, List.length_take, Array.length_toList, Array.length_toList]; omega
        rw [← this, List.take_left]
       ·by_cases hk : k < [d].length
        ·rw [if_pos hk] at hs
         obtain ⟨_, n, h3, rfl⟩ := hs0 k j s hs
         exact ⟨n, rfl, List.mem_append_left _ (hmem j n h3)⟩
        ·rw [if_neg hk] at hs
         obtain ⟨n, rfl, h3⟩ := g4 _ j s hj hs
         exact ⟨n, rfl, List.mem_append_right _ h3⟩
       ·obtain ⟨n1, n2, n3⟩ := List.nodup_append.1 hnd
        by_cases hk : k < [d].length
        ·rw [if_pos hk] at hs
         obtain ⟨a1, n, a2, rfl⟩ := hs0 k j s hs
         by_cases hk' : k' < [d].length
         ·rw [if_pos hk'] at hs'
          obtain ⟨b1, n', b2, b3⟩ := hs0 k' j' _ hs'
          cases b3
          rw [a1, b1, ownN_inj (by rw [← q2]; exact n1) a2 b2]
         ·rw [if_neg hk'] at hs'
          obtain ⟨n', b3, b4⟩ := g4 _ j' _ hj' hs'
          cases b3
          exact absurd rfl (n3 n (hmem j n a2) n b4)
        ·rw [if_neg hk] at hs
         by_cases hk' : k' < [d].length
         ·rw [if_pos hk'] at hs'
          obtain ⟨b1, n', b2, rfl⟩ := hs0 k' j' _ hs'
          obtain ⟨n, b3, b4⟩ := g4 _ j _ hj hs
          cases b3
          exact absurd rfl (n3 n' (hmem j' n' b2) n' b4)
         ·rw [if_neg hk'] at hs'
          have := g5 n2 _ j _ j' s hj hj' hs hs'
          simp only [Prod.mk.injEq, List.length_cons, List.length_nil] at this hk hk' ⊢
          exact ⟨by omega, this.2⟩
      ·cases h'
     ·cases h'
    ·cases h'
   ·cases h'
  ·cases h'

theorem maskOf_length : ∀ {cs : List AV}, (maskOf σ cs).length = cs.length
 | [] => rfl
 | x :: cs => by
  cases x <;> simp [maskOf, maskOf_length (cs := cs)]

theorem sound_tabBuild (hty : ∀ t x, ty t = some x → TyOK P t x) (h : ORel cx κ F w U σ) (hf : ¬ U nm) {o : Oper} {ρ : Operand → Value} {e : Operand → AV} (he : ∀ x, RV κ F w (e x) (ρ x)) (hn : ∀ x, NB U (e x)) {t : TypeId} {len : Nat} {parts : Array (Nat × Operand)} (ho : o.op = .buildSlice t len parts)
  {el : TypeId} {E : TyE} {ds : List D} {ns : List Nat} (hel : elemOf ty t = some (el, E)) (hlen : parts.toList.length = len) (hle : len * E.size ≤ 16777216) (hpos : 0 < E.size) (hzs : E.zero.cells.size = E.size)
  (hds : elemsTab ty σ nm (maskOf σ (headCells (parts.toList.map fun p => (p.1, e p.2)))) E.isAgg E.size 0 (parts.toList.map fun p => (p.1, e p.2)) = some (ds, ns)) :
  Sound P cx κ F w U nm σ o ρ (.det ns.Nodup ns (.own nm) (goneD ns ++ [(nm, some (.tab el E.size (maskOf σ (headCells (parts.toList.map fun p => (p.1, e p.2)))) ds nm none))])) := by
 obtain ⟨hu, tok⟩ := elemOf_some hty hel
 intro hnd
 have hml : (maskOf σ (headCells (parts.toList.map fun p => (p.1, e p.2)))).length ≤ E.size := by
  rw [maskOf_length]
  cases hp : parts.toList with
  | nil => simp [headCells]
  | cons p rest =>
   obtain ⟨i, x⟩ := p
   rw [hp] at hds
   simp only [List.map_cons, elemsTab] at hds
   split at hds <;> try cases hds
   split at hds <;> try cases hds
   rename_i cs hcs
   split at hds <;> try cases hds
   rename_i hl
   simp only [List.map_cons, headCells, hcs, Option.getD_some]
   omega
 generalize hmk : maskOf σ (headCells (parts.toList.map fun p => (p.1, e p.2))) = mask at *
 obtain ⟨c', us, src, g1, g2, g3, g4, g5, g6⟩ := sound_elemsTab h he hn parts.toList 0 ds ns ((Array.range (len * E.size)).map (fun i => (if len * E.size = 0 then #[] else E.zero.cells)[i % (if len * E.size = 0 then #[] else E.zero.cells).size]!)) hds (by simp [← hlen])
 simp only [Nat.zero_mul, List.take_zero, List.nil_append] at g2
 have hv : (parts.map fun (i, x) => (i, ρ x)).toList = parts.toList.map fun p => (p.1, ρ p.2) := by simp
 have e1 : ds.length = len := by rw [g6]; exact hlen
 have hsrc : ∀ k j s, isRow mask ds.length none k j → src k j = some s → ∃ n, s = .obj n ∧ n ∈ ns := fun k j s hr hs => g4 k j s (Nat.lt_of_lt_of_le (mask_lt hr.2.1) hml) hs
 refine out_val (v := .slice (some ⟨w.heap.size, 0, none⟩) ds.length ds.length) (w' := w.alloc (.cells c' el)) ?_ ?_
 ·unfold execOp
  simp only [ho]
  refine exec_v _ ?_
  have hle' : ¬ (len * E.size > 2 ^ 24) := by omega
  simp only [Instr.buildSlice, Sem.run_bind, run_underlying hu, Result.andThen_ok, run_sizeOf' tok, hle', if_false, hv]
  by_cases h0 : len * E.size = 0
  ·simp only [h0, if_true] at g1
   simp only [h0, if_true, Sem.run_bind, Sem.run_pure, Result.andThen_ok, g1, run_newRow', e1]
  ·simp only [h0, if_false] at g1
   simp only [h0, if_false, Sem.run_bind, run_zero' tok, Sem.run_pure, Result.andThen_ok, g1, run_newRow', e1]
 ·have hold : ∀ b, b < w.heap.size → (w.alloc (.cells c' el)).heap[b]? = w.heap[b]? := fun b hb => Go.RowKit.Below.heap_alloc w _ b hb
  have hdl : ds.length ≤ maxLen := by
   unfold maxLen
   have : ds.length * 1 ≤ ds.length * E.size := Nat.mul_le_mul_left _ hpos
   rw [e1] at this ⊢; omega
  have hcl : c'.size = ds.length * E.size := by rw [← Array.length_toList, g2, g3.len]
  have hown : Own (w.alloc (.cells c' el)) el E.size (.slice (some ⟨w.heap.size, 0, none⟩) ds.length ds.length) ds.length us := by
   refine ⟨g3.len, .inr ⟨w.heap.size, 0, ds.length, c', rfl, ⟨_, _, heap_alloc_new w _, .inl rfl⟩, Nat.le_refl _, hdl, by omega, ?_⟩⟩
   rw [List.drop_zero, g2, List.take_of_length_le (by rw [g3.len]; omega)]
  refine ⟨.own nm, _, _, F, ⟨rfl, rfl⟩, aft_gen (w' := w.alloc (.cells c' el)) h hf ns nm (.inl rfl) (v := ⟨.slice (some ⟨w.heap.size, 0, none⟩) ds.length ds.length, fun k j => us.getD (k * E.size + j) undef⟩) rfl rfl rfl (by simp) (fun b hb _ => hold b hb) (x := .tab el E.size mask ds nm none) (fun b hb => ?_) ?_ nm_un ?_, ?_, own_nb _ nm_un⟩
  ·rcases hb with hb | ⟨k, j, hr, hb⟩
   ·simp [kapN, blk] at hb
    exact .inr (by omega)
   ·simp only [kapN, if_true] at hb
    obtain ⟨s, k1, k2⟩ := g3.src_blk hml hr hb
    obtain ⟨n, rfl, hn'⟩ := hsrc k j s hr k1
    obtain ⟨x, hx, hbx⟩ := k2.blk
    exact .inl ⟨n, hn', x, hx, hbx⟩
  ·show TabOK F _ el E.size mask ds (kapN κ nm _ nm).v (kapN κ nm _ nm).r none
   simp only [kapN, if_true]
   refine g3.tab h hpos hml (fun b hb => hold b (h.fG b hb).2) (fun k j s b _ _ hb => hold b (sc_lt h hb)) hown (fun k j k' j' s hr hr' hs hs' => ?_) (fun b hb => .inl ?_)
   ·exact g5 hnd k j k' j' s (Nat.lt_of_lt_of_le (mask_lt hr.2.1) hml) (Nat.lt_of_lt_of_le (mask_lt hr'.2.1) hml) hs hs'
   ·simp [blk] at hb; omega
  ·intro o' y hy
   rw [app_gone] at hy
   have hy' : upd (rmvs σ ns) nm (some (.tab el E.size mask ds nm none)) o' = some y := hy
   by_cases ho' : o' = nm
   ·subst ho'
    rw [upd_same] at hy'
    exact .inl ⟨rfl, (Option.some.inj hy').symm⟩
   ·rw [upd_ne ho'] at hy'
    obtain ⟨k1, k2⟩ := rmvs_some hy'
    exact .inr ⟨ho', k2, k1⟩
  ·unfold RV
   exact ⟨by simp [kapN], rfl⟩

theorem mtMask_at : ∀ {ts : List (Option TypeId)} {vs : List Value} {ds : List D} {j : Nat} {e' : TypeId}, maskAt (mtMask ts vs ds) j = some e' → vs[j]? = some nilSlice ∧ ∃ n, ds[j]? = some (.sl (n + 1) [])
 | [], vs, ds, j, e', h => by simp [mtMask, maskAt] at h
 | t :: ts, [], ds, j, e', h => by cases t <;> simp [mtMask, maskAt] at h
 | t :: ts, v :: vs, [], j, e', h => by cases t <;> simp [mtMask, maskAt] at h
 | t :: ts, v :: vs, d :: ds, 0, e', h => by
  unfold mtMask at h
  split at h
  ·rename_i heq1 heq2 heq3
   cases heq2; cases heq3
   exact ⟨rfl, _, rfl⟩
  ·simp [maskAt] at h
  ·simp [maskAt] at h
 | t :: ts, v :: vs, d :: ds, j + 1, e', h => by
  have h' : maskAt (mtMask ts vs ds) j = some e' := by
   unfold mtMask at h
   split at h
   ·rename_i heq1 heq2 heq3
    cases heq1; cases heq2; cases heq3
    simpa [maskAt] using h
   ·rename_i heq1 heq2 heq3
    cases heq1; cases heq2; cases heq3
    simpa [maskAt] using h
   ·simp [maskAt] at h
  simpa using mtMask_at h'
theorem mtMask_le : ∀ {ts : List (Option TypeId)} {vs : List Value} {ds : List D}, (mtMask ts vs ds).length ≤ ds.length
 | [], vs, ds => by simp [mtMask]
 | t :: ts, [], ds => by cases t <;> simp [mtMask]
 | t :: ts, v :: vs, [] => by cases t <;> simp [mtMask]
 | t :: ts, v :: vs, d :: ds => by
  unfold mtMask
  split
  ·rename_i heq1 heq2 heq3
   cases heq1; cases heq2; cases heq3
   simpa using mtMask_le
  ·rename_i heq1 heq2 heq3
   cases heq1; cases heq2; cases heq3
   simpa using mtMask_le
  ·simp
theorem made_at {z : Array Value} : ∀ {n k j : Nat}, k < n → j < z.size → (madeCells z (n * z.size)).toList[k * z.size + j]? = z.toList[j]?
 | 0, k, j, hk, _ => by omega
 | n + 1, 0, j, _, hj => by
  rw [made_succ, Nat.zero_mul, Nat.zero_add, List.getElem?_append_left (by simpa using hj)]
 | n + 1, k + 1, j, hk, hj => by
  rw [made_succ, List.getElem?_append_right (by simp [Nat.add_mul]; omega)]
  have : (k + 1) * z.size + j - z.toList.length = k * z.size + j := by simp [Nat.add_mul]; omega
  rw [this]
  exact made_at (by omega) hj

theorem sound_tabMake (hty : ∀ t x, ty t = some x → TyOK P t x) (h : ORel cx κ F w U σ) (hf : ¬ U nm) {o : Oper} {ρ : Operand → Value} {e : Operand → AV} (he : ∀ x, RV κ F w (e x) (ρ x)) {t : TypeId} {l c : Operand} (ho : o.op = .makeSlice t l c)
  {el : TypeId} {E : TyE} {k k' : IntKind} {n m : Int} {d : D} (hel : elemOf ty t = some (el, E)) (hl : isInt (e l) = some (k, n)) (hc : isInt (e c) = some (k', m)) (hpos : 0 < E.size) (hzs : E.zero.cells.size = E.size) (hone : E.zero.cells.toList.all one = true)
  (hd : mkD E.isAgg (nzC (shp ty 6 el) (E.zero.cells.toList.map .sc)) = some d) :
  Sound P cx κ F w U nm σ o ρ (.det (0 ≤ n ∧ n = m ∧ n ≤ 140737488355328 ∧ n * E.bytes ≤ 140737488355328) [] (.own nm) [(nm, some (.tab el E.size (mtMask (shT ty 6 el) E.zero.cells.toList d.cells) (List.replicate n.toNat d) nm none))]) := by
 obtain ⟨hu, tok⟩ := elemOf_some hty hel
 have vl := rv_int hl (he l)
 have vc := rv_int hc (he c)
 intro hp
 obtain ⟨p1, p2, p3, p4⟩ := (show _ ∧ _ ∧ _ ∧ _ from hp)
 subst p2
 obtain ⟨_, i, i1, i2, i3, i4, _⟩ := tok
 have hr := run_make (P := P) w t el i E.zero hu i1 i4 k k' n n p1 (Int.le_refl _) (by rw [i3, Int.mul_comm]; omega) (by omega)
 have hrc : RC F w d.cells E.zero.cells.toList := rc_mkD hd (RC.nz _ _ _ (RC_scs hone))
 have hdc : d.cells.length = E.size := by rw [← hrc.length, Array.length_toList, hzs]
 have hlen : (List.replicate n.toNat d).length = n.toNat := List.length_replicate
 generalize hmk : mtMask (shT ty 6 el) E.zero.cells.toList d.cells = mask
 have hml : mask.length ≤ E.size := by rw [← hmk, ← hdc]; exact mtMask_le
 generalize husz : (madeCells E.zero.cells (n.toNat * E.size)) = c'
 have hus : c'.size = n.toNat * E.size := by rw [← husz]; simp [madeCells]
 have hC : TabC κ σ F w mask E.size (List.replicate n.toNat d) c'.toList none (fun _ _ => none) := by
  refine ⟨by rw [Array.length_toList, hus, hlen], fun k d' hk => ?_, fun k d' j cc hk hj => ?_⟩
  ·have := List.mem_replicate.1 (List.mem_of_getElem? hk)
   rw [this.2]; exact hdc
  ·have hkn : k < n.toNat := by have := (List.getElem?_eq_some_iff.1 hk).1; omega
   have hdd := (List.mem_replicate.1 (List.mem_of_getElem? hk)).2
   subst hdd
   have hjs : j < E.size := by have := (List.getElem?_eq_some_iff.1 hj).1; omega
   have hat : c'.toList[k * E.size + j]? = E.zero.cells.toList[j]? := by
    have := made_at (z := E.zero.cells) hkn (by rw [hzs]; exact hjs)
    rw [hzs, husz] at this; exact this
   obtain ⟨u, u1, u2, u3⟩ := RC.at j cc hrc hj
   refine ⟨u, by rw [hat]; exact u1, u2, ?_⟩
   cases hm : maskAt mask j with
   | none => exact u3
   | some e' =>
    rw [← hmk] at hm
    obtain ⟨g1, q, g2⟩ := mtMask_at hm
    rw [u1] at g1; cases g1
    rw [hj] at g2; cases g2
    exact .inr ⟨⟨q + 1, [], rfl, [], Own.nil w e' (q + 1), by unfold RE; rfl, by omega⟩, by simp [blk, nilSlice]⟩
 refine out_val (v := .slice (some ⟨w.heap.size, 0, none⟩) n.toNat n.toNat) (w' := w.alloc (.cells c' el)) ?_ ?_
 ·unfold execOp
  simp only [ho]
  refine exec_v _ ?_
  rw [vl, vc, hr, i2, husz]
 ·have hold : ∀ b, b < w.heap.size → (w.alloc (.cells c' el)).heap[b]? = w.heap[b]? := fun b hb => Go.RowKit.Below.heap_alloc w _ b hb
  have hown : Own (w.alloc (.cells c' el)) el E.size (.slice (some ⟨w.heap.size, 0, none⟩) n.toNat n.toNat) (List.replicate n.toNat d).length c'.toList := by
   rw [hlen]
   refine ⟨by rw [Array.length_toList, hus], .inr ⟨w.heap.size, 0, n.toNat, c', rfl, ⟨_, _, heap_alloc_new w _, .inl rfl⟩, Nat.le_refl _, by unfold maxLen; omega, by omega, ?_⟩⟩
   rw [List.drop_zero, List.take_of_length_le (by rw [Array.length_toList, hus]; omega)]
  refine ⟨.own nm, _, _, F, ⟨rfl, rfl⟩, aft_gen (w' := w.alloc (.cells c' el)) h hf [] nm (.inl rfl) (v := ⟨.slice (some ⟨w.heap.size, 0, none⟩) n.toNat n.toNat, fun k j => c'.toList.getD (k * E.size + j) undef⟩) rfl rfl rfl (by simp) (fun b hb _ => hold b hb) (x := .tab el E.size mask (List.replicate n.toNat d) nm none) (fun b hb => ?_) ?_ nm_un ?_, ?_, own_nb _ nm_un⟩
  ·rcases hb with hb | ⟨k, j, hr, hb⟩
   ·simp [kapN, blk] at hb
    exact .inr (by omega)
   ·simp only [kapN, if_true] at hb
    obtain ⟨s, k1, k2⟩ := hC.src_blk hml hr hb
    cases k1
  ·show TabOK F _ el E.size mask (List.replicate n.toNat d) (kapN κ nm _ nm).v (kapN κ nm _ nm).r none
   simp only [kapN, if_true]
   refine hC.tab h hpos hml (fun b hb => hold b (h.fG b hb).2) (fun k j s b _ _ hb => hold b (sc_lt h hb)) hown (fun k j k' j' s hr hr' hs hs' => ?_) (fun b hb => .inl ?_)
   ·cases hs
   ·simp [blk] at hb; omega
  ·intro o' y hy
   have hy' : upd σ nm (some (.tab el E.size mask (List.replicate n.toNat d) nm none)) o' = some y := hy
   by_cases ho' : o' = nm
   ·subst ho'
    rw [upd_same] at hy'
    exact .inl ⟨rfl, (Option.some.inj hy').symm⟩
   ·rw [upd_ne ho'] at hy'
    exact .inr ⟨ho', by simp, hy'⟩
  ·unfold RV
   exact ⟨by simp [kapN], rfl⟩

end
end Go.Ab
