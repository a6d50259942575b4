/- My own layer: tables: what their operations leave (6): appends, literals. -/
import Derived.Test.YtjahononbnbjnaaAbTab5
namespace Go.Ab
set_option linter.unusedVariables false
set_option linter.unusedSimpArgs false
section
variable {P : Program} {cx : Cx} {κ : Kap} {F : Nat → Prop} {w : World} {U : Nat → Prop} {nm : Nat} {σ : Objs} {ty : TypeId → Option TyE} {Γ : Nat → Option FnSpec}

theorem tabC_of (h : ORel cx κ F w U σ) {o : Nat} {e : TypeId} {es : Nat} {mask : List (Option TypeId)} {l : List D} {g : Nat} (hob : σ o = some (.tab e es mask l g none)) :
  ∃ us, Own w e es (κ o).v l.length us ∧ 0 < es ∧ mask.length ≤ es ∧ TabC κ σ F w mask es l us none fun k j => some (.row o k j) := by
 have ht : TabOK F w e es mask l (κ o).v (κ g).r none := h.ok o _ hob
 obtain ⟨us, hown, hul, hc⟩ := ht.mem
 refine ⟨us, hown, ht.pos, ht.mlen, hul, ht.cells, fun k d j c hk hd => ?_⟩
 obtain ⟨x, h1, h2, h3⟩ := hc k d j c hk hd
 refine ⟨x, h1, h2, ?_⟩
 cases hm : maskAt mask j with
 | none => rw [hm] at h3; exact h3
 | some e' =>
  rw [hm] at h3
  simp only [] at h3 ⊢
  rcases h3 with ⟨hx, h3 | ⟨es', rows, g1, g2⟩⟩
  ·cases h3
  ·exact .inr ⟨⟨es', rows, g1, g2⟩, fun b hb => ⟨_, rfl, e, es, mask, l, g, none, hob, ⟨(List.getElem?_eq_some_iff.1 hk).1, by rw [hm]; rfl, by simp⟩, by rw [← hx]; exact hb⟩⟩

theorem TabC.app {mask : List (Option TypeId)} {es : Nat} {l l' : List D} {us us' : List Value} {src src' : Nat → Nat → Option Sc} (h : TabC κ σ F w mask es l us none src) (h' : TabC κ σ F w mask es l' us' none src') :
  TabC κ σ F w mask es (l ++ l') (us ++ us') none fun k j => if k < l.length then src k j else src' (k - l.length) j := by
 refine ⟨by rw [List.length_append, List.length_append, h.len, h'.len, Nat.add_mul], fun k d hk => ?_, fun k d j c hk hd => ?_⟩
 ·by_cases hlt : k < l.length
  ·rw [List.getElem?_append_left hlt] at hk; exact h.cells k d hk
  ·rw [List.getElem?_append_right (Nat.le_of_not_lt hlt)] at hk; exact h'.cells _ d hk
 ·by_cases hlt : k < l.length
  ·rw [List.getElem?_append_left hlt] at hk
   obtain ⟨x, h1, h2, h3⟩ := h.cell k d j c hk hd
   refine ⟨x, by rw [List.getElem?_append_left (List.getElem?_eq_some_iff.1 h1).1]; exact h1, h2, ?_⟩
   rw [if_pos hlt]; exact h3
  ·rw [List.getElem?_append_right (Nat.le_of_not_lt hlt)] at hk
   obtain ⟨x, h1, h2, h3⟩ := h'.cell _ d j c hk hd
   refine ⟨x, ?_, h2, ?_⟩
   ·have e : k * es + j = us.length + ((k - l.length) * es + j) := by
     rw [h.len]
     have : k = l.length + (k - l.length) := by omega
     rw [this, Nat.add_mul]; simp only [Nat.add_sub_cancel_left]; omega
    rw [e, List.getElem?_append_right (by omega), Nat.add_sub_cancel_left]; exact h1
   ·rw [if_neg hlt]
    cases hm : maskAt mask j with
    | none => rw [hm] at h3; exact h3
    | some e' =>
     rw [hm] at h3
     simp only [] at h3 ⊢
     rcases h3 with h3 | h3
     ·cases h3
     ·exact .inr h3

theorem aft_tab (h : ORel cx κ F w U σ) (hf : ¬ U nm) {rm : List Nat} {v v' : Value} {w' : World} (hg : w.grownBy w' (blk v)) (hv : ∀ b, blk v = some b → ∃ o ∈ rm, ScBlk κ σ (.obj o) b) (hblk : blk v' = blk v ∨ blk v' = some w.heap.size)
  {e : TypeId} {es : Nat} {mask : List (Option TypeId)} {l : List D} {us : List Value} {src : Nat → Nat → Option Sc} (hpos : 0 < es) (hml : mask.length ≤ es) (hown : Own w' e es v' l.length us) (hC : TabC κ σ F w mask es l us none src)
  (hsrc : ∀ k j s, isRow mask l.length none k j → src k j = some s → s.o ∈ rm) (hno : ∀ k j o b, isRow mask l.length none k j → src k j = some (.obj o) → blk v = some b → ¬ ScBlk κ σ (.obj o) b)
  (inj : ∀ k j k' j' s, isRow mask l.length none k j → isRow mask l.length none k' j' → src k j = some s → src k' j' = some s → (k, j) = (k', j')) :
  Aft cx κ F w U (kapN κ nm ⟨v', fun k j => us.getD (k * es + j) undef⟩) F w' (Un U nm) (upd (rmvs σ rm) nm (some (.tab e es mask l nm none))) := by
 have hvb : ∀ b, blk v = some b → ∃ o ∈ rm, ∃ x, σ o = some x ∧ Blk κ o x b := fun b hb => by
  obtain ⟨o, ho, hs⟩ := hv b hb
  obtain ⟨x, hx, hbx⟩ := hs.blk
  exact ⟨o, ho, x, hx, hbx⟩
 have hbl : ∀ b, b < w.heap.size → blk v ≠ some b → w'.heap[b]? = w.heap[b]? := fun b hb hne => hg.block b hb fun e => hne e.symm
 have hFv : ∀ b, F b → blk v ≠ some b := fun b hF hb => by
  obtain ⟨o, _, x, hx, hbx⟩ := hvb b hb
  exact (h.free o x hx b hbx).1 hF
 refine aft_gen h hf rm nm (.inl rfl) hg.os hg.tape hg.output hg.size (fun b hb hno' => hbl b hb fun e => ?_) (x := .tab e es mask l nm none) (fun b hb => ?_) ?_ nm_un ?_
 ·obtain ⟨o, ho, x, hx, hbx⟩ := hvb b e
  exact hno' o ho x hx hbx
 ·rcases hb with hb | ⟨k, j, hr, hb⟩
  ·simp only [kapN, if_true] at hb
   rcases hblk with h1 | h1
   ·exact .inl (hvb b (by rw [← h1]; exact hb))
   ·rw [h1] at hb; simp at hb; exact .inr (by omega)
  ·simp only [kapN, if_true] at hb
   obtain ⟨s, g1, g2⟩ := hC.src_blk hml hr hb
   obtain ⟨x, hx, hbx⟩ := g2.blk
   exact .inl ⟨s.o, hsrc k j s hr g1, x, hx, hbx⟩
 ·show TabOK F w' e es mask l (kapN κ nm _ nm).v (kapN κ nm _ nm).r none
  simp only [kapN, if_true]
  have hne : ∀ k j s b, isRow mask l.length none k j → src k j = some s → ScBlk κ σ s b → blk v ≠ some b := fun k j s b hr hs hb hvb' => by
   obtain ⟨o, ho, hs'⟩ := hv b hvb'
   have := sc_apart h hb hs'
   subst this
   exact hno k j o b hr hs hvb' hs'
  refine hC.tab h hpos hml (fun b hb => hbl b (h.fG b hb).2 (hFv b hb)) (fun k j s b hr hs hb => hbl b (sc_lt h hb) (hne k j s b hr hs hb)) hown inj (fun b hb => ?_)
  rcases hblk with h1 | h1
  ·rw [h1] at hb
   obtain ⟨o, ho, hs'⟩ := hv b hb
   exact .inr ⟨o, hs', fun k j hr hs => hno k j o b hr hs hb hs'⟩
  ·rw [h1] at hb; simp at hb; exact .inl (by omega)
 ·intro o y hy
  by_cases ho : o = nm
  ·subst ho
   rw [upd_same] at hy
   exact .inl ⟨rfl, (Option.some.inj hy).symm⟩
  ·rw [upd_ne ho] at hy
   obtain ⟨g1, g2⟩ := rmvs_some hy
   exact .inr ⟨ho, g2, g1⟩

theorem TabC.ones {mask : List (Option TypeId)} {es : Nat} {l : List D} {us : List Value} {src : Nat → Nat → Option Sc} (h : TabC κ σ F w mask es l us none src) (hpos : 0 < es) : ∀ u ∈ us, one u = true := by
 intro u hu
 obtain ⟨i, hi⟩ := List.getElem?_of_mem hu
 have hil := (List.getElem?_eq_some_iff.1 hi).1
 rw [h.len] at hil
 have hk : i / es < l.length := Nat.div_lt_of_lt_mul (by rw [Nat.mul_comm]; exact hil)
 have hkd := getD_of_lt (d := D.sc undef) hk
 have hj : i % es < es := Nat.mod_lt _ hpos
 have hcl := h.cells _ _ hkd
 obtain ⟨x, h1, h2, _⟩ := h.cell _ _ (i % es) _ hkd (getD_of_lt (d := D.sc undef) (by rw [hcl]; exact hj))
 rw [Nat.mul_comm, Nat.div_add_mod, hi] at h1
 cases h1
 exact h2

theorem sound_tabAppend (hty : ∀ t x, ty t = some x → TyOK P t x) (h : ORel cx κ F w U σ) (hf : ¬ U nm) {o : Oper} {ρ : Operand → Value} {e : Operand → AV} (he : ∀ x, RV κ F w (e x) (ρ x)) {x y : Operand} {t : TypeId}
  (ho : o.op = .call { callee := .builtin .append, args := #[x, y], argTypes := #[t, t] }) {el : TypeId} {E : TyE} {o2 : Nat} (hel : elemOf ty t = some (el, E)) (hpos : 0 < E.size) (hzs : E.zero.cells.size = E.size) (hey : e y = .own o2) :
  Sound P cx κ F w U nm σ o ρ (tabAppend σ nm el E (e x) o2) := by
 have run : ∀ v w', (Builtin.append_ #[t, t] o.type #[ρ x, ρ y]).run P w = .ok v w' → (execOp ρ o).run P w = .ok (.value v) w' := by
  intro v w' hv
  unfold execOp
  simp only [ho, resolve, invoke, builtin, Sem.run_bind, Sem.run_pure, Result.andThen_ok, List.map_toArray, List.map_cons, List.map_nil, hv]
 obtain ⟨hu, tok⟩ := elemOf_some hty hel
 obtain ⟨_, i, i1, i2, i3, i4, _⟩ := tok
 have hy := he y
 rw [hey] at hy; unfold RV at hy
 unfold tabAppend
 split
 ·rename_i e2 es2 mask2 l2 g2 hob2
  split
  ·rename_i hc
   obtain ⟨rfl, rfl⟩ := hc
   obtain ⟨us2, hown2, _, hml2, hC2⟩ := tabC_of h hob2
   have ones2 : ∀ u ∈ us2, u.oneCell' = true := fun u hu => by rw [one_eq]; exact hC2.ones hpos u hu
   obtain ⟨a2, m2, c2, hy2⟩ : ∃ a m c, (κ o2).v = .slice a m c := by
    obtain ⟨a, c, h1⟩ := Own.slice hown2
    exact ⟨a, _, c, h1⟩
   have hm2 : m2 = l2.length ∧ (a2 = none → m2 = 0 ∧ c2 = 0) ∧ ∀ ad, a2 = some ad → ∀ j u, us2[j]? = some u → w.cell? (ad.add j) = some u := by
    rcases hown2.2 with ⟨g1, g3⟩ | ⟨g, f, cap, cur, g1, _⟩
    ·rw [hy2] at g1
     simp only [Value.slice.injEq] at g1
     exact ⟨by rw [g1.2.1, g3], fun _ => ⟨g1.2.1, g1.2.2⟩, fun ad had => (by rw [g1.1] at had; cases had)⟩
    ·have g1' := g1
     rw [hy2] at g1
     simp only [Value.slice.injEq] at g1
     refine ⟨g1.2.1, fun ha => (by rw [g1.1] at ha; cases ha), fun ad had j u hj => ?_⟩
     rw [g1.1] at had; cases had
     rw [Addr.add_lit]; exact hown2.cells g1' j u hj
   obtain ⟨rfl, hac2, hcell2⟩ := hm2
   split
   ·rename_i hex
    have hx := he x
    rw [hex] at hx; unfold RV RD at hx
    intro hp
    obtain ⟨p1, p2⟩ := (show _ ∧ _ from hp)
    obtain ⟨v', w', g1, g2, g3, g4⟩ := run_append_at (P := P) (w := w) t o.type e2 i E.zero hu i1 i4 (by rw [hzs, i2]) (by rw [i2]; exact hpos) (.slice none 0 0) 0 [] (by rw [i2]; exact Own.nil w e2 E.size)
     a2 l2.length c2 hac2 us2 (by rw [i2]; exact hC2.len) hcell2 ones2 (by unfold maxLen; omega) (by rw [i3, Nat.zero_add]; omega)
    rw [i2] at g2
    simp only [Nat.zero_add, List.nil_append] at g2
    refine out_val (run _ _ (by rw [hx.1, hy.1, hy2]; exact g1)) ?_
    refine ⟨.own nm, _, _, F, ⟨rfl, rfl⟩, aft_tab h hf (rm := [o2]) (v := .slice none 0 0) g3 (by simp [blk]) g4 hpos hml2 g2 hC2 ?_ ?_ ?_, ?_, own_nb _ nm_un⟩
    ·rintro k j s _ hs; cases hs; simp [Sc.o]
    ·rintro k j o' b _ hs; cases hs
    ·rintro k j k' j' s _ _ hs hs'; cases hs; cases hs'; rfl
    ·unfold RV
     obtain ⟨a, c, e'⟩ := Own.slice g2
     exact ⟨by simp [kapN], by rw [e']; rfl⟩
   ·rename_i o1 hex
    have hx := he x
    rw [hex] at hx; unfold RV at hx
    split
    ·rename_i e1 es1 mask1 l1 g1' hob1
     split
     ·rename_i hc2
      obtain ⟨rfl, rfl, rfl, hne⟩ := hc2
      obtain ⟨us1, hown1, _, _, hC1⟩ := tabC_of h hob1
      intro hp
      obtain ⟨p1, p2⟩ := (show _ ∧ _ from hp)
      obtain ⟨v', w', g1, g2, g3, g4⟩ := run_append_at (P := P) (w := w) t o.type e1 i E.zero hu i1 i4 (by rw [hzs, i2]) (by rw [i2]; exact hpos) (κ o1).v l1.length us1 (by rw [i2]; exact hown1)
       a2 l2.length c2 hac2 us2 (by rw [i2]; exact hC2.len) hcell2 ones2 (by unfold maxLen; omega) (by rw [i3]; omega)
      rw [i2] at g2
      have hlen : (l1 ++ l2).length = l1.length + l2.length := List.length_append
      rw [← hlen] at g2
      have hvs : ∃ a n c, (κ o1).v = .slice a n c := by
       obtain ⟨a, c, h1⟩ := Own.slice hown1
       exact ⟨a, _, c, h1⟩
      rw [ownBlock_blk _ hvs] at g3
      refine out_val (run _ _ (by rw [hx.1, hy.1, hy2]; exact g1)) ?_
      have hcases : ∀ (k j : Nat) (s : Sc), (if k < l1.length then some (Sc.row o1 k j) else some (Sc.row o2 (k - l1.length) j)) = some s → (k < l1.length ∧ s = .row o1 k j) ∨ (¬ k < l1.length ∧ s = .row o2 (k - l1.length) j) := fun k j s hs => by
       by_cases hk : k < l1.length
       ·rw [if_pos hk] at hs; exact .inl ⟨hk, (Option.some.inj hs).symm⟩
       ·rw [if_neg hk] at hs; exact .inr ⟨hk, (Option.some.inj hs).symm⟩
      refine ⟨.own nm, _, _, F, ⟨rfl, rfl⟩, aft_tab h hf (rm := [o1, o2]) (v := (κ o1).v) g3 (fun b hb => ⟨o1, by simp, _, hob1, hb⟩) g4 hpos hml2 g2 (hC1.app hC2) ?_ ?_ ?_, ?_, own_nb _ nm_un⟩
      ·intro k j s _ hs
       rcases hcases k j s hs with ⟨_, rfl⟩ | ⟨_, rfl⟩ <;> simp [Sc.o]
      ·intro k j o' b _ hs
       rcases hcases k j _ hs with ⟨_, h1⟩ | ⟨_, h1⟩ <;> cases h1
      ·intro k j k' j' s _ _ hs hs'
       rcases hcases k j _ hs with ⟨k1, h1⟩ | ⟨k1, h1⟩ <;> rcases hcases k' j' _ hs' with ⟨k2, h2⟩ | ⟨k2, h2⟩
       ·rw [h1] at h2; cases h2; rfl
       ·rw [h1] at h2; cases h2; exact absurd rfl hne
       ·rw [h1] at h2; cases h2; exact absurd rfl hne
       ·rw [h1] at h2
        simp only [Sc.row.injEq, true_and] at h2
        rw [h2.2, show k = k' from by omega]
      ·unfold RV
       obtain ⟨a, c, e'⟩ := Own.slice g2
       exact ⟨by simp [kapN], by rw [e']; rfl⟩
     ·intro hp; exact hp.elim
    ·intro hp; exact hp.elim
   ·intro hp; exact hp.elim
  ·intro hp; exact hp.elim
 ·intro hp; exact hp.elim

end
end Go.Ab
