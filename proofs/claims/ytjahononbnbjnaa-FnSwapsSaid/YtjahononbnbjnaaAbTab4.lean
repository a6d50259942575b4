/- My own layer: tables: what their operations leave (4): cells from somewhere; stores. -/
import Derived.Test.YtjahononbnbjnaaAbTab3
namespace Go.Ab
set_option linter.unusedVariables false
set_option linter.unusedSimpArgs false

structure TabC (κ : Kap) (σ : Objs) (F : Nat → Prop) (w : World) (mask : List (Option TypeId)) (es : Nat) (l : List D) (us : List Value) (hole : Option (Nat × Nat)) (src : Nat → Nat → Option Sc) : Prop where
 len : us.length = l.length * es
 cells : ∀ (k : Nat) (d : D), l[k]? = some d → d.cells.length = es
 cell : ∀ (k : Nat) (d : D) (j : Nat) (c : D), l[k]? = some d → d.cells[j]? = some c → ∃ x, us[k * es + j]? = some x ∧ one x = true ∧ match maskAt mask j with
  | none => RD F w c x
  | some e' => hole = some (k, j) ∨ ((∃ es' rows, c = .sl es' rows ∧ ArrOK F w e' es' x rows) ∧ ∀ b, blk x = some b → ∃ s, src k j = some s ∧ ScBlk κ σ s b)

section
variable {P : Program} {cx : Cx} {κ : Kap} {F : Nat → Prop} {w : World} {U : Nat → Prop} {nm : Nat} {σ : Objs} {ty : TypeId → Option TyE} {Γ : Nat → Option FnSpec}
variable {mask : List (Option TypeId)} {es : Nat} {l : List D} {us : List Value} {hole : Option (Nat × Nat)} {src : Nat → Nat → Option Sc}

theorem mask_lt {j : Nat} (h : (maskAt mask j).isSome = true) : j < mask.length := Classical.byContradiction fun hn => by
 unfold maskAt at h
 rw [List.getElem?_eq_none (Nat.le_of_not_lt hn)] at h
 cases h

theorem TabC.row (hC : TabC κ σ F w mask es l us hole src) (hml : mask.length ≤ es) {k j : Nat} (hr : isRow mask l.length hole k j) : ∃ d c x e' es' rows, l[k]? = some d ∧ d.cells[j]? = some c ∧ us[k * es + j]? = some x ∧ maskAt mask j = some e' ∧ c = .sl es' rows ∧ ArrOK F w e' es' x rows ∧
  ∀ b, blk x = some b → ∃ s, src k j = some s ∧ ScBlk κ σ s b := by
 obtain ⟨h1, h2, h3⟩ := hr
 have hk := getD_of_lt (d := D.sc undef) h1
 have hj : j < es := Nat.lt_of_lt_of_le (mask_lt h2) hml
 have hj' : j < (l.getD k (.sc undef)).cells.length := by rw [hC.cells k _ hk]; exact hj
 have hcd := getD_of_lt (d := D.sc undef) hj'
 obtain ⟨x, g1, g2, g3⟩ := hC.cell k _ j _ hk hcd
 obtain ⟨e', he⟩ := Option.isSome_iff_exists.1 h2
 rw [he] at g3
 simp only [] at g3
 rcases g3 with g3 | ⟨⟨es', rows, g4, g5⟩, g6⟩
 ·exact absurd g3 h3
 ·exact ⟨_, _, x, e', es', rows, hk, hcd, g1, he, g4, g5, g6⟩

theorem TabC.src_blk (hC : TabC κ σ F w mask es l us hole src) (hml : mask.length ≤ es) {k j b : Nat} (hr : isRow mask l.length hole k j) (hb : blk (us.getD (k * es + j) undef) = some b) : ∃ s, src k j = some s ∧ ScBlk κ σ s b := by
 obtain ⟨d, c, x, e', es', rows, h1, h2, h3, h4, h5, h6, h7⟩ := hC.row hml hr
 rw [List.getD_eq_getElem?_getD, h3] at hb
 exact h7 b hb

theorem TabC.tab (h : ORel cx κ F w U σ) (hC : TabC κ σ F w mask es l us hole src) (hpos : 0 < es) (hml : mask.length ≤ es) {w' : World} (hF : ∀ b, F b → w'.heap[b]? = w.heap[b]?)
  (hS : ∀ k j s b, isRow mask l.length hole k j → src k j = some s → ScBlk κ σ s b → w'.heap[b]? = w.heap[b]?) {e : TypeId} {u : Value} (hown : Own w' e es u l.length us)
  (inj : ∀ k j k' j' s, isRow mask l.length hole k j → isRow mask l.length hole k' j' → src k j = some s → src k' j' = some s → (k, j) = (k', j'))
  (hout : ∀ b, blk u = some b → w.heap.size ≤ b ∨ ∃ o, ScBlk κ σ (.obj o) b ∧ ∀ k j, isRow mask l.length hole k j → src k j ≠ some (.obj o)) :
  TabOK F w' e es mask l u (fun k j => us.getD (k * es + j) undef) hole := by
 refine TabOK.fresh h hpos hml hC.cells hown (fun k d j c hk hd => ?_) src (fun k j hr b hb => hC.src_blk hml hr hb) inj hout
 obtain ⟨x, h1, h2, h3⟩ := hC.cell k d j c hk hd
 refine ⟨x, h1, h2, ?_⟩
 cases hm : maskAt mask j with
 | none => rw [hm] at h3; exact RD.mono (fun _ hb => hb) hF h3
 | some e' =>
  rw [hm] at h3
  simp only [] at h3 ⊢
  by_cases hh : hole = some (k, j)
  ·exact .inl hh
  ·rcases h3 with h3 | ⟨⟨es', rows, g4, g5⟩, g6⟩
   ·exact absurd h3 hh
   ·refine .inr ⟨es', rows, g4, ArrOK.mono (fun _ hb => hb) hF (fun b hb => ?_) g5⟩
    obtain ⟨s, k1, k2⟩ := g6 b hb
    exact hS k j s b ⟨(List.getElem?_eq_some_iff.1 hk).1, by rw [hm]; rfl, hh⟩ k1 k2

def ownN : AV → Option Nat
 | .own n => some n
 | _ => none
theorem ownN_some {x : AV} {n : Nat} (h : ownN x = some n) : x = .own n := by
 cases x with
 | own o => simp only [ownN, Option.some.injEq] at h; rw [h]
 | _ => cases h
theorem ownN_inj : ∀ {cs : List AV} {i i' n : Nat}, (cs.filterMap ownN).Nodup → cs[i]? = some (.own n) → cs[i']? = some (.own n) → i = i'
 | [], i, i', n, _, h, _ => by simp at h
 | x :: cs, i, i', n, hd, h, h' => by
  have mem : ∀ {q : Nat}, cs[q]? = some (AV.own n) → n ∈ cs.filterMap ownN := fun hq => List.mem_filterMap.2 ⟨_, List.mem_of_getElem? hq, rfl⟩
  rw [List.filterMap_cons] at hd
  cases i with
  | zero =>
   simp only [List.getElem?_cons_zero, Option.some.injEq] at h
   subst h
   simp only [ownN, List.nodup_cons] at hd
   cases i' with
   | zero => rfl
   | succ i' => exact absurd (mem (by simpa using h')) hd.1
  | succ i =>
   cases i' with
   | zero =>
    simp only [List.getElem?_cons_zero, Option.some.injEq] at h'
    subst h'
    simp only [ownN, List.nodup_cons] at hd
    exact absurd (mem (by simpa using h)) hd.1
   | succ i' =>
    have hd' : (cs.filterMap ownN).Nodup := by
     cases hx : ownN x with
     | none => rw [hx] at hd; exact hd
     | some m => rw [hx] at hd; exact (List.nodup_cons.1 hd).2
    have := ownN_inj (i := i) (i' := i') (n := n) hd' (by simpa using h) (by simpa using h')
    rw [this]

def PutAt (ty : TypeId → Option TyE) (σ : Objs) (o g : Nat) (mask : List (Option TypeId)) (hole : Option (Nat × Nat)) (d : D) (ks : List Nat) (j : Nat) (x : AV) (c : D) : Prop :=
 match maskAt mask j with
 | none => x = .dat c
 | some e' => (∃ n es rows, x = .own n ∧ σ n = some (.arr e' es rows) ∧ c = .sl es rows) ∨ (∃ k', x = .row o g k' j ∧ k' ∈ ks ∧ c = d.cells.getD j (.sc undef) ∧ holeOff hole j 1 = true) ∨
   (x = .dat (.sc (.slice none 0 0)) ∧ ∃ E, ty e' = some E ∧ 0 < E.size ∧ c = .sl E.size []) ∨
   (∃ k' es lo n, x = .vw o g k' j es lo n ∧ k' ∈ ks ∧ c = .sl es (((rowD d j).2.take (lo + n)).drop lo) ∧ holeOff hole j 1 = true ∧ (rowD d j).1 = es)

theorem PutAt.mono {o g : Nat} {d : D} {ks ks' : List Nat} {j : Nat} {x : AV} {c : D} (hs : ∀ k ∈ ks, k ∈ ks') (h : PutAt ty σ o g mask hole d ks j x c) : PutAt ty σ o g mask hole d ks' j x c := by
 unfold PutAt at *
 split
 ·rename_i hm; rw [hm] at h; exact h
 ·rename_i e' hm
  rw [hm] at h
  rcases h with h | ⟨k', h1, h2, h3⟩ | h | ⟨k', es, lo, n, h1, h2, h3⟩
  ·exact .inl h
  ·exact .inr (.inl ⟨k', h1, hs _ h2, h3⟩)
  ·exact .inr (.inr (.inl h))
  ·exact .inr (.inr (.inr ⟨k', es, lo, n, h1, hs _ h2, h3⟩))

theorem tabPut_some {o g : Nat} {d : D} : ∀ {cs : List AV} {j : Nat} {ds : List D} {ns ks : List Nat}, tabPut ty σ o g mask hole d j cs = some (ds, ns, ks) → ds.length = cs.length ∧ ns = cs.filterMap ownN ∧
  ∀ (i : Nat) (x : AV), cs[i]? = some x → ∃ c, ds[i]? = some c ∧ PutAt ty σ o g mask hole d ks (j + i) x c
 | [], j, ds, ns, ks, h => by
  simp only [tabPut, Option.some.injEq, Prod.mk.injEq] at h
  obtain ⟨rfl, rfl, rfl⟩ := h
  exact ⟨rfl, rfl, by simp⟩
 | x :: cs, j, ds, ns, ks, h => by
  unfold tabPut at h
  split at h
  ·cases h
  ·rename_i ds' ns' ks' h'
   obtain ⟨i1, i2, i3⟩ := tabPut_some h'
   have fin : ∀ (c : D) (m : List Nat) (q : List Nat), (ds = c :: ds' ∧ ns = m ++ ns' ∧ ks = q ++ ks') → (x :: cs).filterMap ownN = m ++ cs.filterMap ownN → PutAt ty σ o g mask hole d ks j x c →
     ds.length = (x :: cs).length ∧ ns = (x :: cs).filterMap ownN ∧ ∀ (i : Nat) (y : AV), (x :: cs)[i]? = some y → ∃ c, ds[i]? = some c ∧ PutAt ty σ o g mask hole d ks (j + i) y c := by
    rintro c m q ⟨rfl, rfl, rfl⟩ hf hp
    refine ⟨by simp [i1], by rw [hf, i2], fun i y hi => ?_⟩
    cases i with
    | zero =>
     simp only [List.getElem?_cons_zero, Option.some.injEq] at hi
     subst hi
     exact ⟨c, by simp, hp⟩
    | succ i =>
     obtain ⟨c', g1, g2⟩ := i3 i y (by simpa using hi)
     refine ⟨c', by simpa using g1, ?_⟩
     rw [show j + (i + 1) = j + 1 + i from by omega]
     exact g2.mono fun k hk => List.mem_append_right _ hk
   split at h
   ·rename_i hm
    split at h
    ·rename_i d'
     simp only [Option.some.injEq, Prod.mk.injEq] at h
     obtain ⟨rfl, rfl, rfl⟩ := h
     exact fin d' [] [] ⟨rfl, rfl, rfl⟩ rfl (by unfold PutAt; rw [hm])
    ·cases h
   ·rename_i e' hm
    split at h
    ·rename_i n
     split at h
     ·rename_i e2 es2 rows hn
      split at h
      ·rename_i he
       subst he
       simp only [Option.some.injEq, Prod.mk.injEq] at h
       obtain ⟨rfl, rfl, rfl⟩ := h
       exact fin (.sl es2 rows) [n] [] ⟨rfl, rfl, rfl⟩ rfl (by unfold PutAt; rw [hm]; exact .inl ⟨n, es2, rows, rfl, hn, rfl⟩)
      ·cases h
     ·cases h
    ·rename_i o' g' k' j'
     split at h
     ·rename_i hc
      obtain ⟨rfl, rfl, rfl, hh⟩ := hc
      simp only [Option.some.injEq, Prod.mk.injEq] at h
      obtain ⟨rfl, rfl, rfl⟩ := h
      exact fin _ [] [k'] ⟨rfl, rfl, rfl⟩ rfl (by unfold PutAt; rw [hm]; exact .inr (.inl ⟨k', rfl, by simp, rfl, hh⟩))
     ·cases h
    ·rename_i o' g' k' j' es' lo n
     split at h
     ·rename_i hc
      obtain ⟨rfl, rfl, rfl, hh, he⟩ := hc
      simp only [Option.some.injEq, Prod.mk.injEq] at h
      obtain ⟨rfl, rfl, rfl⟩ := h
      exact fin _ [] [k'] ⟨rfl, rfl, rfl⟩ rfl (by unfold PutAt; rw [hm]; exact .inr (.inr (.inr ⟨k', _, lo, n, rfl, by simp, rfl, hh, he⟩)))
     ·cases h
    ·split at h
     ·rename_i E hE
      split at h
      ·rename_i hpos
       simp only [Option.some.injEq, Prod.mk.injEq] at h
       obtain ⟨rfl, rfl, rfl⟩ := h
       exact fin _ [] [] ⟨rfl, rfl, rfl⟩ rfl (by unfold PutAt; rw [hm]; exact .inr (.inr (.inl ⟨rfl, E, hE, hpos, rfl⟩)))
      ·cases h
     ·cases h
    ·cases h

theorem put_cell (h : ORel cx κ F w U σ) {o g k : Nat} {d : D} {ks : List Nat} {j : Nat} {x : AV} {c : D} {u : Value} (hp : PutAt ty σ o g mask hole d ks j x c)
  (hrow : ks = [] ∨ ∃ e es l, σ o = some (.tab e es mask l g hole) ∧ d = l.getD k (.sc undef) ∧ k < l.length ∧ ∀ k' ∈ ks, k' = k) (hu : RV κ F w x u) :
  match maskAt mask j with
  | none => RD F w c u
  | some e' => (∃ es' rows, c = .sl es' rows ∧ ArrOK F w e' es' u rows) ∧ ∀ b, blk u = some b → ScBlk κ σ (match ownN x with | some n => .obj n | none => .row o k j) b := by
 unfold PutAt at hp
 split at hp
 ·subst hp
  unfold RV at hu
  exact hu
 ·rename_i e' hm
  rcases hp with ⟨n, es', rows, rfl, hn, rfl⟩ | ⟨k', rfl, hk', rfl, hh⟩ | ⟨rfl, E, hE, hpos, rfl⟩ | ⟨k', es', lo, n, rfl, hk', rfl, hh, he⟩
  ·unfold RV at hu
   have := h.ok n _ hn
   refine ⟨⟨es', rows, rfl, ?_⟩, fun b hb => ?_⟩
   ·rw [hu.1]; exact this
   ·simp only [ownN]
    exact ⟨_, hn, by rw [← hu.1]; exact hb⟩
  ·rcases hrow with hrow | ⟨e, es, l, hob, rfl, hk, hks⟩
   ·rw [hrow] at hk'; cases hk'
   ·have := hks k' hk'
    subst this
    unfold RV at hu
    have ht : TabOK F w e es mask l (κ o).v (κ g).r hole := h.ok o _ hob
    have hr : isRow mask l.length hole k' j := ⟨hk, by rw [hm]; rfl, by simpa using holeOff_at (k := k') (i := 0) hh (by omega)⟩
    obtain ⟨d', e2, es2, rows2, g1, g2, g3, g4⟩ := ht.row hr
    rw [hm] at g2
    cases g2
    have hd : l.getD k' (.sc undef) = d' := by rw [List.getD_eq_getElem?_getD, g1]; rfl
    refine ⟨⟨es2, rows2, ?_, ?_⟩, fun b hb => ?_⟩
    ·rw [hd, List.getD_eq_getElem?_getD, g3]; rfl
    ·rw [hu.1]; exact g4
    ·simp only [ownN]
     exact ⟨e, es, mask, l, g, hole, hob, hr, by rw [← hu.1]; exact hb⟩
  ·unfold RV RD at hu
   rw [hu.1]
   exact ⟨⟨E.size, [], rfl, [], Own.nil w e' E.size, by unfold RE; rfl, hpos⟩, fun b hb => by simp [blk] at hb⟩
  ·rcases hrow with hrow | ⟨e, es, l, hob, rfl, hk, hks⟩
   ·rw [hrow] at hk'; cases hk'
   ·have := hks k' hk'
    subst this
    unfold RV at hu
    obtain ⟨a, m, cap, hr0, hmc, hlm, hn0, hv⟩ := hu
    have ht : TabOK F w e es mask l (κ o).v (κ g).r hole := h.ok o _ hob
    have hr : isRow mask l.length hole k' j := ⟨hk, by rw [hm]; rfl, by simpa using holeOff_at (k := k') (i := 0) hh (by omega)⟩
    obtain ⟨d', e2, es2, rows2, g1, g2, g3, us, g4, g5, g6⟩ := ht.row hr
    rw [hm] at g2
    cases g2
    have hd : l.getD k' (.sc undef) = d' := by rw [List.getD_eq_getElem?_getD, g1]; rfl
    have hrd : rowD (l.getD k' (.sc undef)) j = (es2, rows2) := by unfold rowD; rw [hd, List.getD_eq_getElem?_getD, g3]; rfl
    rw [hrd] at he ⊢
    simp only [] at he ⊢
    subst he
    have hml : m = rows2.length := by
     rcases g4.2 with ⟨q1, q2⟩ | ⟨_, _, _, _, q1, _⟩
     ·rw [hr0] at q1; simp only [Value.slice.injEq] at q1; omega
     ·rw [hr0] at q1; simp only [Value.slice.injEq] at q1; omega
    subst hml
    obtain ⟨c1, c2⟩ := g4.cut hr0 (Nat.le_add_right lo n) hlm
    rw [Nat.add_sub_cancel_left] at c1 c2
    have hlen : ((rows2.take (lo + n)).drop lo).length = n := by rw [List.length_drop, List.length_take]; omega
    refine ⟨⟨es2, _, rfl, _, by rw [hlen, hv]; exact c1, ?_, g6⟩, fun b hb => ?_⟩
    ·exact (g5.take (lo + n)).drop lo
    ·simp only [ownN]
     refine ⟨e, es, mask, l, g, hole, hob, hr, ?_⟩
     rw [← hb, hv, ← ownBlock_blk _ ⟨_, _, _, hr0⟩, ← ownBlock_blk _ ⟨_, _, _, rfl⟩]; exact c2.symm

end
end Go.Ab
