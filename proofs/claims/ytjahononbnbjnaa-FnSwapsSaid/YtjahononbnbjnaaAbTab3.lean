/- My own layer: tables: what their operations leave (3): writing. -/
import Derived.Test.YtjahononbnbjnaaAbTab2
namespace Go.Ab
set_option linter.unusedVariables false
set_option linter.unusedSimpArgs false
section
variable {P : Program} {cx : Cx} {κ : Kap} {F : Nat → Prop} {w : World} {U : Nat → Prop} {nm : Nat} {σ : Objs} {ty : TypeId → Option TyE} {Γ : Nat → Option FnSpec}

theorem own_set {e : TypeId} {es : Nat} {u : Value} {m : Nat} {us : List Value} (hown : Own w e es u m us) {b f n cap : Nat} (hu : u = .slice (some ⟨b, f, none⟩) n cap) {p : Nat} {vs : List Value} (hp : p + vs.length ≤ m * es) :
  ∃ cur eb fz, w.heap[b]? = some (.cells cur eb fz) ∧ FzOK e cur.size fz ∧ f + p + vs.length ≤ cur.size ∧ Own (w.setRow b (spl cur.toList (f + p) vs).toArray) e es u m (spl us p vs) := by
 subst hu
 rcases hown.2 with ⟨g1, _⟩ | ⟨g, off, capp, cur, g1, ⟨eb, fz, c1, cz⟩, c2, c3, c4, c5⟩
 ·simp at g1
 ·simp at g1
  obtain ⟨⟨rfl, rfl⟩, rfl, rfl⟩ := g1
  have hm : n * es ≤ cap * es := Nat.mul_le_mul_right _ c2
  have hcl : f + cap * es ≤ cur.toList.length := by rw [Array.length_toList]; exact c4
  have hul := hown.1
  refine ⟨cur, eb, fz, c1, cz, by omega, ?_, .inr ⟨b, f, cap, _, rfl, ⟨_, _, setRow_heap w b cur _ eb _ c1, by rwa [show (List.toArray (spl cur.toList (f + p) vs)).size = cur.size by rw [List.size_toArray, spl_length (by omega)]; rfl]⟩, c2, c3, ?_, ?_⟩⟩
  ·rw [spl_length (by omega), hul]
  ·simp only [List.size_toArray]
   rw [spl_length (by omega)]; exact hcl
  ·rw [List.toList_toArray, spl_drop (by omega), spl_take hp (by rw [List.length_drop]; omega), c5]

theorem arr_set {e : TypeId} {es : Nat} {u : Value} {l : List D} (h : ArrOK F w e es u l) {b f n cap : Nat} (hu : u = .slice (some ⟨b, f, none⟩) n cap) {i c : Nat} (hi : i < l.length) {vs : List Value} (hc : c + vs.length ≤ es) (hF : ¬ F b) {d : D}
  (hd : ∀ us0, us0.length = es → RC F w (l.getD i (.sc undef)).cells us0 → RC F w d.cells (spl us0 c vs)) :
  ∃ cur eb fz, w.heap[b]? = some (.cells cur eb fz) ∧ FzOK e cur.size fz ∧ f + (i * es + c) + vs.length ≤ cur.size ∧ ArrOK F (w.setRow b (spl cur.toList (f + (i * es + c)) vs).toArray) e es u (l.set i d) := by
 obtain ⟨us, hown, hre, hpos⟩ := h
 have hm1 : (i + 1) * es ≤ l.length * es := Nat.mul_le_mul_right _ hi
 have hm2 : (i + 1) * es = i * es + es := by rw [Nat.add_mul, Nat.one_mul]
 have hul := hown.1
 obtain ⟨cur, eb, fz, c1, cz, c2, c3⟩ := own_set hown hu (p := i * es + c) (vs := vs) (by omega)
 refine ⟨cur, eb, fz, c1, cz, by omega, ?_⟩
 obtain ⟨r1, r2⟩ := RE.at i _ hre (getD_of_lt (d := .sc undef) hi)
 have hset := RE.set i d _ hre hi (hd _ r2 r1) (by rw [spl_length (by rw [List.length_take, List.length_drop]; omega), r2])
 rw [spl_mid hc (by omega)] at hset
 have hbF : ∀ b', F b' → (w.setRow b (spl cur.toList (f + (i * es + c)) vs).toArray).heap[b']? = w.heap[b']? := fun b' hb' =>
  setRow_other w b b' _ fun e' => hF (e' ▸ hb')
 exact ⟨_, by rw [List.length_set]; exact c3, RE.mono (fun _ hb => hb) hbF hset, hpos⟩

theorem setCell_cells {d x : D} {j n : Nat} (hl : d.cells.length = n) (hj : j < n) (hx : x.cells = [x]) : (setCell d j x).cells = d.cells.set j x := by
 cases d with
 | agg cs => rfl
 | sc v =>
  simp only [D.cells, List.length_cons, List.length_nil, Nat.zero_add] at hl
  have : j = 0 := by omega
  subst this
  simp only [setCell, D.cells, List.set_cons_zero]
  exact hx
 | sl e l =>
  simp only [D.cells, List.length_cons, List.length_nil, Nat.zero_add] at hl
  have : j = 0 := by omega
  subst this
  simp only [setCell, D.cells, List.set_cons_zero]
  exact hx

theorem TabOK.setRow {e : TypeId} {es : Nat} {mask : List (Option TypeId)} {l : List D} {u : Value} {r : Nat → Nat → Value} {hole : Option (Nat × Nat)} (h : TabOK F w e es mask l u r hole) {k j : Nat} (hr : isRow mask l.length hole k j) {w' : World}
  (hF : ∀ b, F b → w'.heap[b]? = w.heap[b]?) (hb : ∀ b, blk (r k j) ≠ some b → (∃ o, w.heap[b]? = some o) → w'.heap[b]? = w.heap[b]?) {e' : TypeId} (hm : maskAt mask j = some e') {es' : Nat} {rows : List D} (ha : ArrOK F w' e' es' (r k j) rows) :
  TabOK F w' e es mask (l.set k (setCell (l.getD k (.sc undef)) j (.sl es' rows))) u r hole := by
 obtain ⟨us, ⟨g1, g2⟩, hul, hc⟩ := h.mem
 have hk := hr.1
 have hkd := getD_of_lt (d := D.sc undef) hk
 have hjm : j < mask.length := Classical.byContradiction fun hn => by
  have := hr.2.1
  unfold maskAt at this
  rw [List.getElem?_eq_none (Nat.le_of_not_lt hn)] at this
  cases this
 have hje : j < es := Nat.lt_of_lt_of_le hjm h.mlen
 have hsc : (setCell (l.getD k (.sc undef)) j (.sl es' rows)).cells = (l.getD k (.sc undef)).cells.set j (.sl es' rows) := setCell_cells (h.cells k _ hkd) hje rfl
 have hother : ∀ k' j', isRow mask l.length hole k' j' → (k', j') ≠ (k, j) → ∀ b, blk (r k' j') = some b → w'.heap[b]? = w.heap[b]? := fun k' j' hr' hne b hb' => by
  refine hb b (h.apart k' j' k j hr' hr hne b hb') ?_
  obtain ⟨_, _, _, _, _, _, _, ha'⟩ := h.row hr'
  have := arr_lt ha' hb'
  exact ⟨_, Array.getElem?_eq_getElem this⟩
 refine ⟨h.pos, h.mlen, fun k' d hk' => ?_, ⟨us, ⟨by rw [List.length_set]; exact g1, ?_⟩, by rw [List.length_set]; exact hul, fun k' d j' c hk' hd => ?_⟩, by rw [List.length_set]; exact h.apart, by rw [List.length_set]; exact h.outer⟩
 ·by_cases hkk : k' = k
  ·subst hkk
   rw [List.getElem?_set_self hk] at hk'
   cases hk'
   rw [hsc, List.length_set]
   exact h.cells _ _ hkd
  ·rw [List.getElem?_set_ne (Ne.symm hkk)] at hk'
   exact h.cells _ _ hk'
 ·rcases g2 with ⟨g2, g3⟩ | ⟨g, off, cap, cur, k1, k3, k4⟩
  ·exact .inl ⟨g2, by rw [List.length_set]; exact g3⟩
  ·refine .inr ⟨g, off, cap, cur, by rw [List.length_set]; exact k1, ?_, by rw [List.length_set]; exact k4⟩
   obtain ⟨eb, fz, k5, k6⟩ := k3
   exact ⟨eb, fz, (hb g (fun e2 => h.outer k j hr g e2 (by rw [k1]; rfl)) ⟨_, k5⟩).trans k5, k6⟩
 ·have old : ∀ d c, l[k']? = some d → d.cells[j']? = some c → ((k', j') ≠ (k, j)) → ∃ x, us[k' * es + j']? = some x ∧ one x = true ∧ match maskAt mask j' with
   | none => RD F w' c x
   | some e' => x = r k' j' ∧ (hole = some (k', j') ∨ ∃ es' rows, c = .sl es' rows ∧ ArrOK F w' e' es' x rows) := by
   intro d c hk' hd hne
   obtain ⟨x, h1, h2, h3⟩ := hc k' d j' c hk' hd
   refine ⟨x, h1, h2, ?_⟩
   cases hm' : maskAt mask j' with
   | none => rw [hm'] at h3; exact RD.mono (fun _ hb => hb) hF h3
   | some e2 =>
    rw [hm'] at h3
    simp only [] at h3 ⊢
    obtain ⟨hx, h3⟩ := h3
    refine ⟨hx, ?_⟩
    by_cases hh : hole = some (k', j')
    ·exact .inl hh
    ·rcases h3 with h3 | ⟨es2, rows2, hc2, ha2⟩
     ·exact absurd h3 hh
     ·refine .inr ⟨es2, rows2, hc2, ArrOK.mono (fun _ hb => hb) hF (fun b hbx => ?_) ha2⟩
      rw [hx] at hbx
      exact hother k' j' ⟨(List.getElem?_eq_some_iff.1 hk').1, by rw [hm']; rfl, hh⟩ hne b hbx
  by_cases hkk : k' = k
  ·subst hkk
   rw [List.getElem?_set_self hk] at hk'
   cases hk'
   rw [hsc] at hd
   by_cases hjj : j' = j
   ·subst hjj
    have hjc : j' < (l.getD k' (.sc undef)).cells.length := by rw [h.cells _ _ hkd]; exact hje
    rw [List.getElem?_set_self hjc] at hd
    cases hd
    have hcd := getD_of_lt (d := D.sc undef) hjc
    obtain ⟨x, h1, h2, h3⟩ := hc k' _ j' _ hkd hcd
    refine ⟨x, h1, h2, ?_⟩
    rw [hm] at h3 ⊢
    simp only [] at h3 ⊢
    exact ⟨h3.1, .inr ⟨es', rows, rfl, by rw [h3.1]; exact ha⟩⟩
   ·rw [List.getElem?_set_ne (Ne.symm hjj)] at hd
    exact old _ _ hkd hd (by simp [hjj])
  ·rw [List.getElem?_set_ne (Ne.symm hkk)] at hk'
   exact old _ _ hk' hd (by simp [hkk])

theorem sound_rowStore (hty : ∀ t x, ty t = some x → TyOK P t x) (h : ORel cx κ F w U σ) {o : Oper} {ρ : Operand → Value} {e : Operand → AV} (he : ∀ x, RV κ F w (e x) (ρ x)) (hn : ∀ x, NB U (e x)) {t : TypeId} {a x : Operand} (ho : o.op = .store t a x)
  {T : TyE} {cs : List AV} {ds : List D} {ob g k j es i c : Nat} (hT : ty t = some T) (hcs : (e x).cells = some cs) (hlen : cs.length = T.size) (hds : toDs cs = some ds) (hea : e a = .rref ob g k j es i c) : Sound P cx κ F w U nm σ o ρ (rowStore ty σ ob g k j es i c ds) := by
 have tok := hty t T hT
 obtain ⟨hc, hcn⟩ := cells_of hcs (he x) (hn x)
 have hsz : (ρ x).cells.size = cs.length := by rw [← Array.length_toList]; exact hc.length
 have hcd := toDs_some hds
 subst hcd
 have hcr := RC_of_RVc hc
 rw [List.length_map] at hsz hlen
 have ha := he a
 rw [hea] at ha; unfold RV at ha
 obtain ⟨b, f, n, cap, hk, hρ⟩ := ha
 unfold rowStore
 split
 ·rename_i t' ht
  split
  ·rename_i E hE
   split
   ·rename_i hcc
    obtain ⟨hh, hEs⟩ := hcc
    have hm : (maskAt t'.mask j).isSome = true := by
     cases hm : maskAt t'.mask j with
     | none => rw [hm] at hE; cases hE
     | some _ => rfl
    have hob := tabAt_some ht
    have key : ∀ (d : D), k < t'.l.length → (rowOf t'.l k j).1 = es → i < (rowOf t'.l k j).2.length → c + ds.length ≤ es →
      (∀ us0, us0.length = es → RC F w ((rowOf t'.l k j).2.getD i (.sc undef)).cells us0 → RC F w d.cells (spl us0 c (ρ x).cells.toList)) →
      ∀ {p : Prop} {rd : List Nat}, Out P o ρ w (SR cx κ F w U nm σ (.det p rd .und [(ob, some (.tab t'.e t'.es t'.mask (t'.l.set k (setCell (t'.l.getD k (.sc undef)) j (.sl es ((rowOf t'.l k j).2.set i d)))) g t'.hole))])) := by
     intro d p1 p2 p3 p4 hd p rd
     obtain ⟨e', hm', harr, _, hr⟩ := row_of h ht p1 hm hh
     rw [p2] at harr
     have hfree := h.free ob _ hob b (.inr ⟨k, j, hr, by rw [hk]; rfl⟩)
     have hok : TabOK F w t'.e t'.es t'.mask t'.l (κ ob).v (κ g).r t'.hole := h.ok ob _ hob
     have hvl : (ρ x).cells.toList.length = ds.length := by rw [Array.length_toList, hsz]
     obtain ⟨cur, _, fz, c1, cz, c2, c3⟩ := arr_set harr hk p3 (vs := (ρ x).cells.toList) (by rw [hvl]; exact p4) hfree.1 hd
     have hoth : ∀ b', b' ≠ b → (w.setRow b (spl cur.toList (f + (i * es + c)) (ρ x).cells.toList).toArray).heap[b']? = w.heap[b']? := fun b' hb' => setRow_other w b b' _ hb'
     refine out_skip (exec_store tok ho hρ c1 (fun _ hj => cz.not hj) (by rw [hsz, hlen]) (by rw [Array.length_toList] at c2; exact c2) hcr.ones) (sr_upd (aft_write h hob rfl rfl rfl (by simp) (fun b' _ hne => hoth b' fun e' => hne (.inr ⟨k, j, hr, by rw [hk, e']; rfl⟩)) (fun b' hb' => ?_) ?_ (h.nb ob _ hob).2))
     ·rcases hb' with hb' | ⟨k', j', hr', hb'⟩
      ·exact .inl hb'
      ·rw [List.length_set] at hr'
       exact .inr ⟨k', j', hr', hb'⟩
     ·show TabOK F _ t'.e t'.es t'.mask _ (κ ob).v (κ g).r t'.hole
      refine hok.setRow hr (fun b' hb' => hoth b' fun e' => hfree.1 (e' ▸ hb')) (fun b' hb' _ => hoth b' fun e' => hb' (by rw [hk, e']; rfl)) hm' c3
    split
    ·rename_i hg
     intro hp
     obtain ⟨p1, p2, p3, p4⟩ := (show _ ∧ _ ∧ _ ∧ _ from hp)
     exact key (.agg _) p1 p2 p3 p4 fun us0 _ hr => RC.spl hr hcr
    ·rename_i hg
     split
     ·rename_i d
      split
      ·rename_i h1
       subst h1
       intro hp
       obtain ⟨p1, p2, p3, rfl⟩ := (show _ ∧ _ ∧ _ ∧ _ from hp)
       unfold RC at hcr
       obtain ⟨u, us', g1, g2, g3, g4⟩ := hcr
       unfold RC at g4; subst g4
       refine key d p1 p2 p3 (by simp) fun us0 hl _ => ?_
       rw [g1]
       have : spl us0 0 [u] = [u] := by
        unfold spl
        rw [List.take_zero, List.nil_append]
        simp only [List.length_cons, List.length_nil, Nat.zero_add]
        rw [List.drop_eq_nil_of_le (by omega)]
        rfl
       rw [this]
       exact rc_one g2 g3
      ·intro hp; exact hp.elim
     ·intro hp; exact hp.elim
   ·intro hp; exact hp.elim
  ·intro hp; exact hp.elim
 ·intro hp; exact hp.elim

end
end Go.Ab
