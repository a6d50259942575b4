/- My own layer, fourteenth part: to know less of a state: to forget slots, to rename objects, to freeze arrays, to take a nil slice for an empty array of one's own. -/
import Derived.Test.YtjahononbnbjnaaAbFn2
namespace Go.Ab
set_option linter.unusedVariables false
set_option linter.unusedSimpArgs false

def Wk (cx : Cx) (s s' : St) : Prop := ∀ κ F a w, Rel cx κ F s a w → ∃ κ' F', (∀ b, F b → F' b) ∧ Rel cx κ' F' s' a w

theorem Wk.refl {cx : Cx} (s : St) : Wk cx s s := fun κ F _ _ h => ⟨κ, F, fun _ h => h, h⟩
theorem Wk.trans {cx : Cx} {a b c : St} (h : Wk cx a b) (h' : Wk cx b c) : Wk cx a c := fun κ F x w hr =>
 let ⟨κ1, F1, h1, h2⟩ := h κ F x w hr
 let ⟨κ2, F2, h3, h4⟩ := h' κ1 F1 x w h2
 ⟨κ2, F2, fun b hb => h3 b (h1 b hb), h4⟩

theorem Ok_weak {P : Program} {cx : Cx} {c : Code} {Q : Exit → St → Prop} {s s' : St} (h : Wk cx s s') (h' : Ok P cx c Q s') : Ok P cx c Q s := by
 intro κ F a w hr
 obtain ⟨κ', F', h1, h2⟩ := h κ F a w hr
 exact wp_mono (h' κ' F' a w h2) fun _ _ _ hp => Post.lift h1 (Wx.refl _ _) hp

theorem Ok_loop_weak {P : Program} {cx : Cx} {c : Code} {Q : Exit → St → Prop} {st : St} (I : Nat → St → Prop) (n₀ : Nat) (h₀ : ∃ s, Wk cx st s ∧ I n₀ s)
  (round : ∀ n s, I n s → Ok P cx c (Then (fun s' => ∃ n' s'', n' < n ∧ Wk cx s' s'' ∧ I n' s'') Q) s) : Ok P cx (.loop c) Q st := by
 refine Ok_loop (fun n s => ∃ s', Wk cx s s' ∧ I n s') n₀ h₀ ?_
 rintro n s ⟨s', h1, h2⟩
 refine Ok_weak h1 (Ok.mono (round n s' h2) ?_)
 intro e s2 h
 cases e with
 | normal =>
  obtain ⟨n', s'', g1, g2, g3⟩ := h
  exact ⟨n', g1, s'', g2, g3⟩
 | _ => exact h

mutual
def VLe (L : Nat) (σ : Objs) (ren : List (Nat × Nat)) (nils : List Nat) : AV → AV → Prop
 | .dat d, y => y = .unk ∨ (∃ d', y = .dat d' ∧ DLe d d') ∨ (d = .sc nilSl ∧ ∃ o, y = .own o ∧ o ∈ nils)
 | .own o, y => y = .unk ∨ (∃ o', y = .own o' ∧ (o', o) ∈ ren) ∨ (∃ es l, slO σ o = some (es, l) ∧ o ∉ ren.map Prod.snd ∧ L ≤ o ∧ y = .dat (.sl es l))
 | .ref o i, y => y = .unk ∨ ∃ o', y = .ref o' i ∧ (o', o) ∈ ren
 | .eref o es k j, y => y = .unk ∨ ∃ o', y = .eref o' es k j ∧ (o', o) ∈ ren
 | .row o g k j, y => y = .unk ∨ ∃ o', y = .row o' o' k j ∧ (o', o) ∈ ren ∧ ∃ t, tabAt σ o g = some t
 | .rref o g k j es i c, y => y = .unk ∨ ∃ o', y = .rref o' o' k j es i c ∧ (o', o) ∈ ren ∧ ∃ t, tabAt σ o g = some t
 | .vw o g k j es lo n, y => y = .unk ∨ ∃ o', y = .vw o' o' k j es lo n ∧ (o', o) ∈ ren ∧ ∃ t, tabAt σ o g = some t
 | .fp l, y => y = .unk ∨ y = .fp l
 | .aggv l, y => y = .unk ∨ (∃ l', y = .aggv l' ∧ VLes L σ ren nils l l') ∨ (∃ ds, y = .dat (.agg ds) ∧ VLed L σ ren nils l ds)
 | .tup l, y => y = .unk ∨ ∃ l', y = .tup l' ∧ VLes L σ ren nils l l'
 | .fn f l, y => y = .unk ∨ ∃ l', y = .fn f l' ∧ VLes L σ ren nils l l'
 | .und, y => y = .unk ∨ y = .und
 | .unk, y => y = .unk
def VLes (L : Nat) (σ : Objs) (ren : List (Nat × Nat)) (nils : List Nat) : List AV → List AV → Prop
 | [], l' => l' = []
 | x :: l, l' => ∃ y r, l' = y :: r ∧ VLe L σ ren nils x y ∧ VLes L σ ren nils l r
def VLed (L : Nat) (σ : Objs) (ren : List (Nat × Nat)) (nils : List Nat) : List AV → List D → Prop
 | [], l' => l' = []
 | x :: l, l' => ∃ y r, l' = y :: r ∧ VLe L σ ren nils x (.dat y) ∧ VLed L σ ren nils l r
end

def OLe (L : Nat) (σ : Objs) (ren : List (Nat × Nat)) (nils : List Nat) (fr : List Nat) (n o : Nat) : Obj' → Obj' → Prop
 | .box T l, y => (∃ l', y = .box T l' ∧ VLes L σ ren nils l l') ∨ (l = [.dat (.sc (.pointer none)), .dat (.sc nilSl)] ∧ (∃ E, y = .bld T E [] n) ∧ o ∉ fr)
 | .bld T E l _, y => y = .bld T E l n ∧ o ∉ fr
 | .mp t l, y => y = .mp t l
 | .arr e es l, y => y = .arr e es l ∨ (l = [] ∧ ∃ mask, y = .tab e es mask [] n none ∧ mask.length ≤ es)
 | .tab e es mask l _ hole, y => (y = .tab e es mask l n hole ∧ o ∉ fr) ∨ (hole = none ∧ y = .arr e es l ∧ o ∈ fr)

def obs (l : List (Nat × Obj')) : Objs := fun n => match l with
 | [] => none
 | (k, x) :: r => bif Nat.beq n k then some x else obs r n

theorem obs_some : ∀ {l : List (Nat × Obj')} {n : Nat} {x : Obj'}, obs l n = some x → (n, x) ∈ l
 | [], n, x, h => by unfold obs at h; cases h
 | (k, y) :: r, n, x, h => by
  unfold obs at h
  cases hb : Nat.beq n k with
  | true =>
   rw [hb] at h
   simp only [cond_true, Option.some.injEq] at h
   have := Nat.eq_of_beq_eq_true hb
   subst this; subst h
   exact List.mem_cons_self ..
  | false =>
   rw [hb] at h
   exact List.mem_cons_of_mem _ (obs_some h)

def newKap (κ : Kap) (σ : Objs) (ren : List (Nat × Nat)) : Kap := fun n => match ren.lookup n with
 | some o => tk κ σ o
 | none => kv nilSl

section
variable {cx : Cx} {κ : Kap} {F : Nat → Prop} {w : World} {U : Nat → Prop} {σ : Objs}

theorem newKap_at {ren : List (Nat × Nat)} (hnd : (ren.map Prod.fst).Nodup) {n o : Nat} (h : (n, o) ∈ ren) : newKap κ σ ren n = tk κ σ o := by
 unfold newKap
 have : ren.lookup n = some o := by
  induction ren with
  | nil => cases h
  | cons p r ih =>
   obtain ⟨a, b⟩ := p
   simp only [List.map_cons, List.nodup_cons] at hnd
   rcases List.mem_cons.1 h with h | h
   ·cases h; simp [List.lookup]
   ·have hne : n ≠ a := fun e => hnd.1 (e ▸ List.mem_map.2 ⟨(n, o), h, rfl⟩)
    have hb : (n == a) = false := by simpa using hne
    simp only [List.lookup, hb]
    exact ih hnd.2 h
 rw [this]

theorem newKap_none {ren : List (Nat × Nat)} {n : Nat} (h : n ∉ ren.map Prod.fst) : newKap κ σ ren n = kv nilSl := by
 unfold newKap
 have : ren.lookup n = none := by
  induction ren with
  | nil => rfl
  | cons p r ih =>
   obtain ⟨a, b⟩ := p
   simp only [List.map_cons, List.mem_cons, not_or] at h
   have hb : (n == a) = false := by simpa using h.1
   simp only [List.lookup, hb]
   exact ih h.2
 rw [this]

def Ffrz (cx : Cx) (κ : Kap) (F : Nat → Prop) (σ : Objs) (ren : List (Nat × Nat)) (fr : List Nat) : Nat → Prop := fun b => F b ∨ (∃ o es l x, σ o = some x ∧ x.sl = some (es, l) ∧ o ∉ ren.map Prod.snd ∧ cx.L ≤ o ∧ Blk κ o x b) ∨
 ∃ o ∈ fr, ∃ e es mask l g k j, σ o = some (.tab e es mask l g none) ∧ isRow mask l.length none k j ∧ blk ((κ g).r k j) = some b

structure RenOK (cx : Cx) (ren : List (Nat × Nat)) (nils : List Nat) : Prop where
 new : (ren.map Prod.fst).Nodup
 old : (ren.map Prod.snd).Nodup
 nil : ∀ n ∈ nils, n ∉ ren.map Prod.fst
 lent : ∀ j, j < cx.L → (j, j) ∈ ren

theorem tk_r {o g : Nat} {t : TabV} (h : tabAt σ o g = some t) : (tk κ σ o).r = (κ g).r := by
 unfold tk; rw [tabAt_some h]

mutual
theorem VLe.rv {ren : List (Nat × Nat)} {nils fr : List Nat} (h : ORel cx κ F w U σ) (hr : RenOK cx ren nils) : ∀ {x y : AV} {v : Value}, VLe cx.L σ ren nils x y → RV κ F w x v → RV (newKap κ σ ren) (Ffrz cx κ F σ ren fr) w y v
 | .dat d, y, v, hx, hv => by
  unfold VLe at hx
  rcases hx with rfl | ⟨d', rfl, hd⟩ | ⟨rfl, o, rfl, ho⟩
  ·unfold RV; trivial
  ·unfold RV at hv ⊢; exact RD.le hd (RD.mono (fun b hb => .inl hb) (fun _ _ => rfl) hv)
  ·unfold RV RD at hv; unfold RV
   rw [newKap_none (hr.nil o ho), hv.1]; exact ⟨rfl, rfl⟩
 | .own o, y, v, hx, hv => by
  unfold VLe at hx
  rcases hx with rfl | ⟨o', rfl, ho⟩ | ⟨es, l, h1, h2, h3, rfl⟩
  ·unfold RV; trivial
  ·unfold RV at hv ⊢; rw [newKap_at hr.new ho, tk_v]; exact hv
  ·unfold RV at hv ⊢
   rw [hv.1]
   obtain ⟨x, hx, hs⟩ := slO_some h1
   exact sl_rd h (fun b hb => .inl hb) hx hs (fun b hb => .inr (.inl ⟨o, es, l, x, hx, hs, h2, h3, hb⟩))
 | .ref o i, y, v, hx, hv => by
  unfold VLe at hx
  rcases hx with rfl | ⟨o', rfl, ho⟩
  ·unfold RV; trivial
  ·unfold RV at hv ⊢; rw [newKap_at hr.new ho, tk_v]; exact hv
 | .eref o es k j, y, v, hx, hv => by
  unfold VLe at hx
  rcases hx with rfl | ⟨o', rfl, ho⟩
  ·unfold RV; trivial
  ·unfold RV at hv ⊢; rw [newKap_at hr.new ho, tk_v]; exact hv
 | .row o g k j, y, v, hx, hv => by
  unfold VLe at hx
  rcases hx with rfl | ⟨o', rfl, ho, t, ht⟩
  ·unfold RV; trivial
  ·unfold RV at hv ⊢; rw [newKap_at hr.new ho, tk_r ht]; exact hv
 | .rref o g k j es i c, y, v, hx, hv => by
  unfold VLe at hx
  rcases hx with rfl | ⟨o', rfl, ho, t, ht⟩
  ·unfold RV; trivial
  ·unfold RV at hv ⊢; rw [newKap_at hr.new ho, tk_r ht]; exact hv
 | .vw o g k j es lo n, y, v, hx, hv => by
  unfold VLe at hx
  rcases hx with rfl | ⟨o', rfl, ho, t, ht⟩
  ·unfold RV; trivial
  ·unfold RV at hv ⊢; rw [newKap_at hr.new ho, tk_r ht]; exact hv
 | .fp l, y, v, hx, hv => by
  unfold VLe at hx
  rcases hx with rfl | rfl
  ·unfold RV; trivial
  ·have h2 : RV κ (Ffrz cx κ F σ ren fr) w (.fp l) v := RV.mono (U := fun _ => True) (fun _ _ => rfl) (fun b hb => Or.inl hb) (fun _ _ => rfl) (by unfold NB; trivial) hv
   unfold RV at h2 ⊢; exact h2
 | .aggv l, y, v, hx, hv => by
  unfold VLe at hx
  rcases hx with rfl | ⟨l', rfl, hl⟩ | ⟨ds, rfl, hl⟩
  ·unfold RV; trivial
  ·unfold RV at hv ⊢
   obtain ⟨cs, h1, h2⟩ := hv
   exact ⟨cs, h1, VLes.rvc h hr hl h2⟩
  ·unfold RV at hv; unfold RV RD
   obtain ⟨cs, h1, h2⟩ := hv
   exact ⟨cs, h1, VLed.rv h hr hl h2⟩
 | .tup l, y, v, hx, hv => by
  unfold VLe at hx
  rcases hx with rfl | ⟨l', rfl, hl⟩
  ·unfold RV; trivial
  ·unfold RV at hv ⊢
   obtain ⟨cs, h1, h2⟩ := hv
   exact ⟨cs, h1, VLes.rvs h hr hl h2⟩
 | .fn f l, y, v, hx, hv => by
  unfold VLe at hx
  rcases hx with rfl | ⟨l', rfl, hl⟩
  ·unfold RV; trivial
  ·unfold RV at hv ⊢
   obtain ⟨cs, h1, h2⟩ := hv
   exact ⟨cs, h1, VLes.rvs h hr hl h2⟩
 | .und, y, v, hx, hv => by
  unfold VLe at hx
  rcases hx with rfl | rfl
  ·unfold RV; trivial
  ·unfold RV at hv ⊢; exact hv
 | .unk, y, v, hx, hv => by unfold VLe at hx; subst hx; unfold RV; trivial
theorem VLes.rvs {ren : List (Nat × Nat)} {nils fr : List Nat} (h : ORel cx κ F w U σ) (hr : RenOK cx ren nils) : ∀ {l l' : List AV} {us : List Value}, VLes cx.L σ ren nils l l' → RVs κ F w l us → RVs (newKap κ σ ren) (Ffrz cx κ F σ ren fr) w l' us
 | [], l', us, hx, hv => by unfold VLes at hx; subst hx; unfold RVs at hv ⊢; exact hv
 | x :: l, l', us, hx, hv => by
  unfold VLes at hx
  obtain ⟨y, r, rfl, h1, h2⟩ := hx
  unfold RVs at hv ⊢
  obtain ⟨u, us', g1, g2, g3⟩ := hv
  exact ⟨u, us', g1, VLe.rv h hr h1 g2, VLes.rvs h hr h2 g3⟩
theorem VLes.rvc {ren : List (Nat × Nat)} {nils fr : List Nat} (h : ORel cx κ F w U σ) (hr : RenOK cx ren nils) : ∀ {l l' : List AV} {us : List Value}, VLes cx.L σ ren nils l l' → RVc κ F w l us → RVc (newKap κ σ ren) (Ffrz cx κ F σ ren fr) w l' us
 | [], l', us, hx, hv => by unfold VLes at hx; subst hx; unfold RVc at hv ⊢; exact hv
 | x :: l, l', us, hx, hv => by
  unfold VLes at hx
  obtain ⟨y, r, rfl, h1, h2⟩ := hx
  unfold RVc at hv ⊢
  obtain ⟨u, us', g1, g1', g2, g3⟩ := hv
  exact ⟨u, us', g1, g1', VLe.rv h hr h1 g2, VLes.rvc h hr h2 g3⟩
theorem VLed.rv {ren : List (Nat × Nat)} {nils fr : List Nat} (h : ORel cx κ F w U σ) (hr : RenOK cx ren nils) : ∀ {l : List AV} {ds : List D} {us : List Value}, VLed cx.L σ ren nils l ds → RVc κ F w l us → RC (Ffrz cx κ F σ ren fr) w ds us
 | [], ds, us, hx, hv => by unfold VLed at hx; subst hx; unfold RVc at hv; unfold RC; exact hv
 | x :: l, ds, us, hx, hv => by
  unfold VLed at hx
  obtain ⟨y, r, rfl, h1, h2⟩ := hx
  unfold RVc at hv
  obtain ⟨u, us', g1, g1', g2, g3⟩ := hv
  have := VLe.rv (fr := fr) h hr h1 g2
  unfold RV at this
  unfold RC
  exact ⟨u, us', g1, g1', this, VLed.rv h hr h2 g3⟩
end

mutual
theorem VLe.nb {L : Nat} {ren : List (Nat × Nat)} {nils : List Nat} {U' : Nat → Prop} (h1 : ∀ p ∈ ren, U' p.1) (h2 : ∀ n ∈ nils, U' n) : ∀ {x y : AV}, VLe L σ ren nils x y → NB U' y
 | .dat d, y, hx => by
  unfold VLe at hx
  rcases hx with rfl | ⟨d', rfl, hd⟩ | ⟨rfl, o, rfl, ho⟩
  ·unfold NB; trivial
  ·unfold NB; trivial
  ·unfold NB; exact h2 o ho
 | .own o, y, hx => by
  unfold VLe at hx
  rcases hx with rfl | ⟨o', rfl, ho⟩ | ⟨es, l, _, _, _, rfl⟩
  ·unfold NB; trivial
  ·unfold NB; exact h1 _ ho
  ·unfold NB; trivial
 | .ref o i, y, hx => by
  unfold VLe at hx
  rcases hx with rfl | ⟨o', rfl, ho⟩
  ·unfold NB; trivial
  ·unfold NB; exact h1 _ ho
 | .eref o es k j, y, hx => by
  unfold VLe at hx
  rcases hx with rfl | ⟨o', rfl, ho⟩
  ·unfold NB; trivial
  ·unfold NB; exact h1 _ ho
 | .row o g k j, y, hx => by
  unfold VLe at hx
  rcases hx with rfl | ⟨o', rfl, ho, _⟩
  ·unfold NB; trivial
  ·unfold NB; exact ⟨h1 _ ho, h1 _ ho⟩
 | .rref o g k j es i c, y, hx => by
  unfold VLe at hx
  rcases hx with rfl | ⟨o', rfl, ho, _⟩
  ·unfold NB; trivial
  ·unfold NB; exact ⟨h1 _ ho, h1 _ ho⟩
 | .vw o g k j es lo n, y, hx => by
  unfold VLe at hx
  rcases hx with rfl | ⟨o', rfl, ho, _⟩
  ·unfold NB; trivial
  ·unfold NB; exact ⟨h1 _ ho, h1 _ ho⟩
 | .fp l, y, hx => by
  unfold VLe at hx
  rcases hx with rfl | rfl <;> (unfold NB; trivial)
 | .aggv l, y, hx => by
  unfold VLe at hx
  rcases hx with rfl | ⟨l', rfl, hl⟩ | ⟨ds, rfl, hl⟩
  ·unfold NB; trivial
  ·unfold NB; exact VLes.nb h1 h2 hl
  ·unfold NB; trivial
 | .tup l, y, hx => by
  unfold VLe at hx
  rcases hx with rfl | ⟨l', rfl, hl⟩
  ·unfold NB; trivial
  ·unfold NB; exact VLes.nb h1 h2 hl
 | .fn f l, y, hx => by
  unfold VLe at hx
  rcases hx with rfl | ⟨l', rfl, hl⟩
  ·unfold NB; trivial
  ·unfold NB; exact VLes.nb h1 h2 hl
 | .und, y, hx => by
  unfold VLe at hx
  rcases hx with rfl | rfl <;> (unfold NB; trivial)
 | .unk, y, hx => by unfold VLe at hx; subst hx; unfold NB; trivial
theorem VLes.nb {L : Nat} {ren : List (Nat × Nat)} {nils : List Nat} {U' : Nat → Prop} (h1 : ∀ p ∈ ren, U' p.1) (h2 : ∀ n ∈ nils, U' n) : ∀ {l l' : List AV}, VLes L σ ren nils l l' → NBs U' l'
 | [], l', hx => by unfold VLes at hx; subst hx; unfold NBs; trivial
 | x :: l, l', hx => by
  unfold VLes at hx
  obtain ⟨y, r, rfl, g1, g2⟩ := hx
  unfold NBs
  exact ⟨VLe.nb h1 h2 g1, VLes.nb h1 h2 g2⟩
end

theorem VLes.getD {L : Nat} {ren : List (Nat × Nat)} {nils : List Nat} : ∀ {l l' : List AV}, VLes L σ ren nils l l' → l'.length = l.length ∧ ∀ t, VLe L σ ren nils (l.getD t .und) (l'.getD t .und)
 | [], l', hx => by unfold VLes at hx; subst hx; exact ⟨rfl, fun t => by simp only [List.getD_nil]; unfold VLe; exact .inr rfl⟩
 | x :: l, l', hx => by
  unfold VLes at hx
  obtain ⟨y, r, rfl, g1, g2⟩ := hx
  obtain ⟨h1, h2⟩ := VLes.getD g2
  refine ⟨by simp [h1], fun t => ?_⟩
  cases t with
  | zero => simpa using g1
  | succ t => simpa using h2 t

theorem TabOK.empty {e : TypeId} {es : Nat} {mask : List (Option TypeId)} {u : Value} {r : Nat → Nat → Value} (hpos : 0 < es) (hml : mask.length ≤ es) (hown : Own w e es u 0 []) : TabOK F w e es mask [] u r none :=
 ⟨hpos, hml, by simp, ⟨[], hown, by simp, by simp⟩, fun k j k' j' h => absurd h.1 (by simp), fun k j h => absurd h.1 (by simp)⟩

theorem Blk.of_new {n o b : Nat} {x y : Obj'} {ren : List (Nat × Nat)} {nils fr : List Nat} {L : Nat} (hx : σ o = some x) (hle : OLe L σ ren nils fr n o x y) (hk : newKap κ σ ren n = tk κ σ o) (h : Blk (newKap κ σ ren) n y b) : Blk κ o x b ∧ (o ∈ fr → blk (κ o).v = some b) := by
 rcases h with h | h
 ·rw [hk, tk_v] at h
  exact ⟨.inl h, fun _ => h⟩
 ·cases x with
  | box T l =>
   rcases hle with ⟨l', rfl, _⟩ | ⟨_, ⟨E, rfl⟩, _⟩
   ·exact h.elim
   ·have h : blk ((newKap κ σ ren n).r 0 0) = some b := h
    rw [hk] at h
    unfold tk at h
    rw [hx] at h
    simp [blk] at h
  | bld T E l g =>
   obtain ⟨rfl, hf⟩ := hle
   have h : blk ((newKap κ σ ren n).r 0 0) = some b := h
   rw [hk] at h
   unfold tk at h
   rw [hx] at h
   exact ⟨.inr h, fun h2 => absurd h2 hf⟩
  | mp t l =>
   have hle : y = .mp t l := hle
   subst hle; exact h.elim
  | arr e es l =>
   rcases hle with hle | ⟨_, mask, hle, _⟩
   ·subst hle; exact h.elim
   ·subst hle
    obtain ⟨k, j, h1, _⟩ := h
    exact absurd h1.1 (by simp)
  | tab e es mask l g hole =>
   rcases hle with ⟨hle, hfr⟩ | ⟨_, hle, hfr⟩
   ·subst hle
    obtain ⟨k, j, h1, h2⟩ := h
    rw [hk, tk_r (t := ⟨e, es, mask, l, hole⟩) (g := g) (by unfold tabAt; rw [hx]; simp)] at h2
    exact ⟨.inr ⟨k, j, h1, h2⟩, fun hf => absurd hf hfr⟩
   ·subst hle; exact h.elim

theorem Wk_mk {env env' : List AV} {nx nx' : Nat} (ren : List (Nat × Nat)) (nils fr : List Nat) (os : List (Nat × Obj')) (hr : RenOK cx ren nils) (henv : VLes cx.L σ ren nils env env')
  (hos : ∀ p ∈ os, (∃ o x, (p.1, o) ∈ ren ∧ σ o = some x ∧ OLe cx.L σ ren nils fr p.1 o x p.2) ∨ (p.1 ∈ nils ∧ ∃ e es, 0 < es ∧ (p.2 = .arr e es [] ∨ ∃ mask, p.2 = .tab e es mask [] p.1 none ∧ mask.length ≤ es))) (h1 : ∀ p ∈ ren, p.1 < nx') (h2 : ∀ n ∈ nils, n < nx')
  :
  Wk cx ⟨env, σ, nx⟩ ⟨env', obs os, nx'⟩ := by
 intro κ F a w hrel
 obtain ⟨he, ho⟩ := hrel
 obtain ⟨hl, hg⟩ := henv.getD
 have hold_inj : ∀ {n n' o : Nat}, (n, o) ∈ ren → (n', o) ∈ ren → n = n' := by
  intro n n' o hm hm'
  have : ∀ {l : List (Nat × Nat)}, (l.map Prod.snd).Nodup → (n, o) ∈ l → (n', o) ∈ l → n = n' := by
   intro l
   induction l with
   | nil => intro _ h _; cases h
   | cons p l ih =>
    intro hnd h h'
    simp only [List.map_cons, List.nodup_cons] at hnd
    rcases List.mem_cons.1 h with h | h
    ·rcases List.mem_cons.1 h' with h' | h'
     ·rw [← h] at h'; cases h'; rfl
     ·exact absurd (by rw [← h]; exact List.mem_map.2 ⟨(n', o), h', rfl⟩) hnd.1
    ·rcases List.mem_cons.1 h' with h' | h'
     ·exact absurd (by rw [← h']; exact List.mem_map.2 ⟨(n, o), h, rfl⟩) hnd.1
     ·exact ih hnd.2 h h'
  exact this hr.old hm hm'
 -- the blocks of a new object
 have hblk : ∀ n y, obs os n = some y → ∀ b, Blk (newKap κ σ ren) n y b → ∃ o x, (n, o) ∈ ren ∧ σ o = some x ∧ Blk κ o x b ∧ (o ∈ fr → blk (κ o).v = some b) := by
  intro n y hy b hb
  rcases hos _ (obs_some hy) with ⟨o, x, hm, hx, hle⟩ | ⟨hn, e, es, hes, hy'⟩
  ·obtain ⟨g1, g2⟩ := Blk.of_new hx hle (newKap_at hr.new hm) hb
   exact ⟨o, x, hm, hx, g1, g2⟩
  ·exfalso
   rcases hb with hb | hb
   ·rw [newKap_none (hr.nil n hn)] at hb
    simp [nilSl, blk] at hb
   ·rcases hy' with hy' | ⟨mask, hy', _⟩
    ·simp only [] at hy'; subst hy'; exact hb.elim
    ·simp only [] at hy'; subst hy'
     obtain ⟨k, j, h1, _⟩ := hb
     exact absurd h1.1 (by simp)
 refine ⟨newKap κ σ ren, Ffrz cx κ F σ ren fr, fun b hb => .inl hb, ⟨⟨?_, he.dfr, fun t => ?_, fun t => ?_⟩, ⟨fun n y hy => ?_, fun n y hy => ?_, fun n y hy b hb => ?_, fun n y n' y' hy hy' hne b hb hb' => ?_, fun b hb => ?_, ho.kB, ho.gB, ho.bs, ho.inv.mono (fun b hb => .inl hb) (fun _ _ => rfl), fun j hj => ?_⟩⟩⟩
 ·rw [he.size]; exact hl.symm
 ·exact VLe.rv ho hr (hg t) (he.rv t)
 ·exact VLe.nb (U' := (· < nx')) h1 h2 (hg t)
 ·rcases hos _ (obs_some hy) with ⟨o, x, hm, hx, hle⟩ | ⟨hn, e, es, hes, hy'⟩
  ·have hok := ho.ok o x hx
   have hk := newKap_at (κ := κ) (σ := σ) hr.new hm
   cases x with
   | box T l =>
    obtain ⟨b, arr, k1, k2, k3⟩ := hok
    rcases hle with ⟨l', hle, hl'⟩ | ⟨rfl, ⟨E, hle⟩, _⟩
    ·have hle : y = .box T l' := hle
     subst hle
     exact ⟨b, arr, by rw [hk, tk_v]; exact k1, k2, VLes.rvc ho hr hl' k3⟩
    ·have hle : y = .bld T E [] n := hle
     subst hle
     have hk2 : newKap κ σ ren n = ⟨(κ o).v, fun _ _ => .slice none 0 0⟩ := by rw [hk]; unfold tk; rw [hx]
     show BldOK w T E (newKap κ σ ren n).v ((newKap κ σ ren n).r 0 0) []
     rw [hk2]
     unfold RVc at k3
     obtain ⟨u, us, e1, _, e2, k3⟩ := k3
     unfold RVc at k3
     obtain ⟨u2, us2, rfl, _, e3, k3⟩ := k3
     unfold RVc at k3
     subst k3
     unfold RV RD at e2 e3
     have harr : arr = #[.pointer none, .slice none 0 0] := by
      apply Array.ext'
      rw [e1, e2.1, e3.1]; rfl
     subst harr
     exact ⟨b, _, k1, k2, .inl rfl, World.ownsRow_nil w 0 E 1, by simp [blk]⟩
   | bld T E l g =>
    obtain ⟨hle, _⟩ := (show y = .bld T E l n ∧ _ from hle)
    subst hle
    have hk2 : newKap κ σ ren n = ⟨(κ o).v, (κ g).r⟩ := by rw [hk]; unfold tk; rw [hx]
    show BldOK w T E (newKap κ σ ren n).v ((newKap κ σ ren n).r 0 0) l
    rw [hk2]; exact hok
   | mp t l =>
    have hle : y = .mp t l := hle
    subst hle
    show MapOK w (newKap κ σ ren n).v l
    rw [hk, tk_v]; exact hok
   | arr e es l =>
    obtain ⟨us, k1, k2, k3⟩ := hok
    rcases hle with hle | ⟨rfl, mask, hle, hml⟩
    ·simp only [] at hle; subst hle
     exact ⟨us, by rw [hk, tk_v]; exact k1, RE.mono (fun b hb => .inl hb) (fun _ _ => rfl) k2, k3⟩
    ·simp only [] at hle; subst hle
     refine TabOK.empty k3 hml ?_
     rw [hk, tk_v]
     unfold RE at k2
     rw [k2] at k1
     exact k1
   | tab e es mask l g hole =>
    have ht : TabOK F w e es mask l (κ o).v (κ g).r hole := hok
    rcases hle with ⟨hle, hfr⟩ | ⟨rfl, hle, hfr⟩
    ·simp only [] at hle; subst hle
     show TabOK _ w e es mask l (newKap κ σ ren n).v (newKap κ σ ren n).r hole
     rw [hk, tk_v, tk_r (t := ⟨e, es, mask, l, hole⟩) (g := g) (by unfold tabAt; rw [hx]; simp)]
     exact ht.mono (fun b hb => .inl hb) (fun _ _ => rfl) (fun _ _ => rfl) (fun _ _ _ _ _ => rfl)
    ·simp only [] at hle; subst hle
     obtain ⟨us, hown, hre⟩ := ht.re (F' := Ffrz cx κ F σ ren fr) (fun b hb => .inl hb) fun k j hr' b hb => .inr (.inr ⟨o, hfr, e, es, mask, l, g, k, j, hx, hr', hb⟩)
     exact ⟨us, by rw [hk, tk_v]; exact hown, hre, ht.pos⟩
  ·have hnil : (newKap κ σ ren n).v = .slice none 0 0 := by rw [newKap_none (hr.nil n hn)]; rfl
   rcases hy' with hy' | ⟨mask, hy', hml⟩
   ·simp only [] at hy'; subst hy'
    refine ⟨[], ?_, by unfold RE; rfl, hes⟩
    rw [hnil]
    exact Own.nil w e es
   ·simp only [] at hy'; subst hy'
    refine TabOK.empty hes hml ?_
    rw [hnil]
    exact Own.nil w e es
 ·rcases hos _ (obs_some hy) with ⟨o, x, hm, hx, hle⟩ | ⟨hn, e, es, hes, hy'⟩
  ·refine ⟨h1 _ hm, ?_⟩
   cases x with
   | box T l =>
    rcases hle with ⟨l', e', hl'⟩ | ⟨_, ⟨E, e'⟩, _⟩
    ·subst e'
     exact VLes.nb (U' := (· < nx')) h1 h2 hl'
    ·have e' : y = .bld T E [] n := e'
     subst e'; exact h1 _ hm
   | bld T E l g =>
    obtain ⟨e', _⟩ := (show y = .bld T E l n ∧ _ from hle)
    subst e'; exact h1 _ hm
   | mp t l =>
    have e' : y = .mp t l := hle
    subst e'; trivial
   | arr e es l =>
    rcases hle with hle | ⟨_, mask, hle, _⟩
    ·simp only [] at hle; subst hle; trivial
    ·simp only [] at hle; subst hle; exact h1 _ hm
   | tab e es mask l g hole =>
    rcases hle with ⟨hle, _⟩ | ⟨_, hle, _⟩
    ·simp only [] at hle; subst hle; exact h1 _ hm
    ·simp only [] at hle; subst hle; trivial
  ·refine ⟨h2 n hn, ?_⟩
   rcases hy' with hy' | ⟨mask, hy', hml⟩
   ·simp only [] at hy'; subst hy'; trivial
   ·simp only [] at hy'; subst hy'; exact h2 n hn
 ·obtain ⟨o, x, hm, hx, hb', hfr⟩ := hblk n y hy b hb
  obtain ⟨g1, g2, g3⟩ := ho.free o x hx b hb'
  refine ⟨fun hF => ?_, g2, g3⟩
  rcases hF with hF | ⟨o', es, l, x', k1, _, k2, k3, k4⟩ | ⟨o', k0, e, es, mask, l, g, k, j, k1, k2, k3⟩
  ·exact g1 hF
  ·exact ho.apart o x o' x' hx k1 (fun e' => k2 (e' ▸ List.mem_map_of_mem (f := Prod.snd) hm)) b hb' k4
  ·by_cases e' : o = o'
   ·subst e'
    have ht : TabOK F w e es mask l (κ o).v (κ g).r none := ho.ok o _ k1
    exact ht.outer k j k2 b k3 (hfr k0)
   ·exact ho.apart o x o' _ hx k1 e' b hb' (.inr ⟨k, j, k2, k3⟩)
 ·obtain ⟨o, x, hm, hx, hb1, _⟩ := hblk n y hy b hb
  obtain ⟨o', x', hm', hx', hb2, _⟩ := hblk n' y' hy' b hb'
  exact ho.apart o x o' x' hx hx' (fun e' => hne (by subst e'; exact hold_inj hm hm')) b hb1 hb2
 ·rcases hb with hb | ⟨o, es, l, x, k1, _, k2, k3, k4⟩ | ⟨o, k0, e, es, mask, l, g, k, j, k1, k2, k3⟩
  ·exact ho.fG b hb
  ·exact ⟨(ho.free o _ k1 b k4).2.2, blk_lt ho k1 k4⟩
  ·have hB : Blk κ o (.tab e es mask l g none) b := .inr ⟨k, j, k2, k3⟩
   exact ⟨(ho.free o _ k1 b hB).2.2, blk_lt ho k1 hB⟩
 ·refine ⟨h1 _ (hr.lent j hj), ?_⟩
  rw [newKap_at hr.new (hr.lent j hj)]
  rw [tk_v]; exact (ho.lt j hj).2

end
end Go.Ab
