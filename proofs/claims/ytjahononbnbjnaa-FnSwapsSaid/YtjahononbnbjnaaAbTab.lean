/- My own layer: tables: what their operations leave (1). -/
import Derived.Test.YtjahononbnbjnaaAbSound6
namespace Go.Ab
set_option linter.unusedVariables false
set_option linter.unusedSimpArgs false

def rmvs (σ : Objs) : List Nat → Objs
 | [] => σ
 | n :: r => rmvs (upd σ n none) r
theorem app_gone {δ : Delta} : ∀ {ns : List Nat} {σ : Objs}, app (goneD ns ++ δ) σ = app δ (rmvs σ ns)
 | [], σ => rfl
 | n :: r, σ => by
  show app (goneD r ++ δ) (upd σ n none) = _
  rw [app_gone]; rfl
theorem rmvs_some : ∀ {ns : List Nat} {σ : Objs} {o : Nat} {y : Obj'}, rmvs σ ns o = some y → σ o = some y ∧ o ∉ ns
 | [], σ, o, y, h => ⟨h, by simp⟩
 | n :: r, σ, o, y, h => by
  have h' : rmvs (upd σ n none) r o = some y := h
  obtain ⟨h1, h2⟩ := rmvs_some h'
  by_cases hn : o = n
  ·subst hn; rw [upd_same] at h1; cases h1
  ·rw [upd_ne hn] at h1
   exact ⟨h1, by simp [hn, h2]⟩

section
variable {P : Program} {cx : Cx} {κ : Kap} {F : Nat → Prop} {w : World} {U : Nat → Prop} {nm : Nat} {σ : Objs} {ty : TypeId → Option TyE} {Γ : Nat → Option FnSpec}

abbrev kapN (κ : Kap) (nm : Nat) (v : KV) : Kap := fun n => if n = nm then v else κ n

theorem aft_gen (h : ORel cx κ F w U σ) (hf : ¬ U nm) (rm : List Nat) (dst : Nat) (hdst : dst = nm ∨ U dst) {v : KV} {w' : World} (hos : w'.os = w.os) (htape : w'.tape = w.tape) (hout : w'.output = w.output) (hsize : w.heap.size ≤ w'.heap.size)
  (hblock : ∀ b, b < w.heap.size → (∀ o ∈ rm, ∀ x, σ o = some x → ¬ Blk κ o x b) → w'.heap[b]? = w.heap[b]?) {x : Obj'}
  (hsub : ∀ b, Blk (kapN κ nm v) dst x b → (∃ o ∈ rm, ∃ y, σ o = some y ∧ Blk κ o y b) ∨ w.heap.size ≤ b)
  (hok : ObjOK (kapN κ nm v) F w' dst x) (hn : NBo (Un U nm) x) {σ' : Objs} (hσ' : ∀ o y, σ' o = some y → (o = dst ∧ y = x) ∨ (o ≠ dst ∧ o ∉ rm ∧ σ o = some y)) :
  Aft cx κ F w U (kapN κ nm v) F w' (Un U nm) σ' := by
 have hk : ∀ o, U o → kapN κ nm v o = κ o := kap_new (κ := κ) hf v
 have hnot : ∀ b, ¬ (∀ o ∈ rm, ∀ x, σ o = some x → ¬ Blk κ o x b) → ∃ o ∈ rm, ∃ y, σ o = some y ∧ Blk κ o y b := fun b hb => by
  apply Classical.byContradiction
  intro hc
  exact hb fun o ho x hx hbx => hc ⟨o, ho, x, hx, hbx⟩
 have hrmF : ∀ b, (∃ o ∈ rm, ∃ y, σ o = some y ∧ Blk κ o y b) → ¬ F b ∧ ¬ cx.K b ∧ cx.G b := fun b ⟨o, _, y, hy, hb⟩ => h.free o y hy b hb
 have hFw : ∀ b, F b → w'.heap[b]? = w.heap[b]? := fun b hb => hblock b (h.fG b hb).2 fun o ho x hx hbx => (h.free o x hx b hbx).1 hb
 have hother : ∀ o y, o ∉ rm → σ o = some y → ∀ b, Blk κ o y b → w'.heap[b]? = w.heap[b]? := fun o y ho hy b hb => hblock b (blk_lt h hy hb) fun o' ho' x hx hbx => h.apart o y o' x hy hx (fun e => ho (e ▸ ho')) b hb hbx
 have hblk : ∀ o y, σ' o = some y → ∀ b, Blk (kapN κ nm v) o y b →
   (o = dst ∧ y = x ∧ ((∃ o ∈ rm, ∃ y, σ o = some y ∧ Blk κ o y b) ∨ w.heap.size ≤ b)) ∨ (o ≠ dst ∧ o ∉ rm ∧ σ o = some y ∧ Blk κ o y b ∧ b < w.heap.size) := fun o y hy b hb => by
  rcases hσ' o y hy with ⟨rfl, rfl⟩ | ⟨h1, h2, h3⟩
  ·exact .inl ⟨rfl, rfl, hsub b hb⟩
  ·have hu := h.nb o y h3
   have hb' := hb.kap hk hu.1 hu.2
   exact .inr ⟨h1, h2, h3, hb', blk_lt h h3 hb'⟩
 refine ⟨hk, fun _ hb => hb, ⟨hos, htape, hout, hsize, fun b hb => ?_⟩, fun _ ho => un_sub ho, ?_, ?_, ?_, ?_, fun b hb => ⟨(h.fG b hb).1, Nat.lt_of_lt_of_le (h.fG b hb).2 hsize⟩, h.kB, h.gB, Nat.le_trans h.bs hsize, h.inv.mono (fun _ hb => hb) hFw, fun j hj => ⟨un_sub (h.lt j hj).1, (congrArg KV.v (hk j (h.lt j hj).1)).trans (h.lt j hj).2⟩⟩
 ·rcases hb with hb | hb
  ·exact hFw b hb
  ·exact hblock b (Nat.lt_of_lt_of_le (h.kB b hb) h.bs) fun o ho x hx hbx => (h.free o x hx b hbx).2.1 hb
 ·intro o y hy
  rcases hσ' o y hy with ⟨rfl, rfl⟩ | ⟨h1, h2, h3⟩
  ·exact hok
  ·have hu := h.nb o y h3
   exact ObjOK.mono hk (fun _ hb => hb) hFw hu.1 hu.2 (hother o y h2 h3) (h.ok o y h3)
 ·intro o y hy
  rcases hσ' o y hy with ⟨rfl, rfl⟩ | ⟨h1, h2, h3⟩
  ·refine ⟨?_, hn⟩
   rcases hdst with rfl | hd
   ·exact .inr ⟨Nat.le_refl _, by omega⟩
   ·exact un_sub hd
  ·have hu := h.nb o y h3
   exact ⟨un_sub hu.1, NBo.mono (fun _ ho => un_sub ho) hu.2⟩
 ·intro o y hy b hb
  rcases hblk o y hy b hb with ⟨_, _, hb' | hb'⟩ | ⟨_, _, hy', hb', _⟩
  ·exact hrmF b hb'
  ·exact ⟨fun hF => by have := (h.fG _ hF).2; omega, fun hK => by have := h.kB _ hK; have := h.bs; omega, h.gB _ (Nat.le_trans h.bs hb')⟩
  ·exact h.free o y hy' b hb'
 ·intro o y o' y' hy hy' hne b hb hb'
  rcases hblk o y hy b hb with ⟨h1, _, h2⟩ | ⟨h1, h2, h3, h4, h5⟩
  ·rcases hblk o' y' hy' b hb' with ⟨g1, _, _⟩ | ⟨g1, g2, g3, g4, g5⟩
   ·exact hne (h1.trans g1.symm)
   ·rcases h2 with ⟨o2, k1, y2, k2, k3⟩ | h2
    ·exact h.apart o2 y2 o' y' k2 g3 (fun e => g2 (e ▸ k1)) b k3 g4
    ·omega
  ·rcases hblk o' y' hy' b hb' with ⟨g1, _, g2'⟩ | ⟨g1, g2, g3, g4, g5⟩
   ·rcases g2' with ⟨o2, k1, y2, k2, k3⟩ | g2'
    ·exact h.apart o2 y2 o y k2 h3 (fun e => h2 (e ▸ k1)) b k3 h4
    ·omega
   ·exact h.apart o y o' y' h3 g3 hne b h4 g4

inductive Sc where
 | row (o k j : Nat)
 | obj (n : Nat)
def ScBlk (κ : Kap) (σ : Objs) : Sc → Nat → Prop
 | .row o k j, b => ∃ e es mask l g hole, σ o = some (.tab e es mask l g hole) ∧ isRow mask l.length hole k j ∧ blk ((κ g).r k j) = some b
 | .obj n, b => ∃ x, σ n = some x ∧ blk (κ n).v = some b
def Sc.o : Sc → Nat
 | .row o _ _ => o
 | .obj n => n

theorem ScBlk.blk {s : Sc} {b : Nat} (h : ScBlk κ σ s b) : ∃ x, σ s.o = some x ∧ Blk κ s.o x b := by
 cases s with
 | row o k j =>
  obtain ⟨e, es, mask, l, g, hole, h1, h2, h3⟩ := h
  exact ⟨_, h1, .inr ⟨k, j, h2, h3⟩⟩
 | obj n =>
  obtain ⟨x, h1, h2⟩ := h
  exact ⟨x, h1, .inl h2⟩

theorem sc_apart (h : ORel cx κ F w U σ) {s s' : Sc} {b : Nat} (hs : ScBlk κ σ s b) (hs' : ScBlk κ σ s' b) : s = s' := by
 obtain ⟨x, hx, hb⟩ := hs.blk
 obtain ⟨x', hx', hb'⟩ := hs'.blk
 have ho : s.o = s'.o := Classical.byContradiction fun hne => h.apart _ x _ x' hx hx' hne b hb hb'
 cases s with
 | row o k j =>
  obtain ⟨e, es, mask, l, g, hole, h1, h2, h3⟩ := hs
  have ht : TabOK F w e es mask l (κ o).v (κ g).r hole := h.ok o _ h1
  cases s' with
  | row o' k' j' =>
   have ho' : o = o' := ho
   subst ho'
   obtain ⟨e', es', mask', l', g', hole', h1', h2', h3'⟩ := hs'
   rw [h1] at h1'
   cases h1'
   by_cases hkj : (k, j) = (k', j')
   ·simp only [Prod.mk.injEq] at hkj
    rw [hkj.1, hkj.2]
   ·exact absurd h3' (ht.apart k j k' j' h2 h2' hkj b h3)
  | obj n =>
   have ho' : o = n := ho
   subst ho'
   obtain ⟨_, _, h3'⟩ := hs'
   exact absurd h3' (ht.outer k j h2 b h3)
 | obj n =>
  cases s' with
  | row o' k' j' =>
   have ho' : n = o' := ho
   subst ho'
   obtain ⟨e', es', mask', l', g', hole', h1', h2', h3'⟩ := hs'
   have ht : TabOK F w e' es' mask' l' (κ n).v (κ g').r hole' := h.ok n _ h1'
   obtain ⟨_, _, h3⟩ := hs
   exact absurd h3 (ht.outer k' j' h2' b h3')
  | obj n' =>
   have ho' : n = n' := ho
   rw [ho']

theorem sc_lt (h : ORel cx κ F w U σ) {s : Sc} {b : Nat} (hs : ScBlk κ σ s b) : b < w.heap.size := by
 obtain ⟨x, hx, hb⟩ := hs.blk
 exact blk_lt h hx hb

theorem TabOK.fresh (h : ORel cx κ F w U σ) {w' : World} {e : TypeId} {es : Nat} {mask : List (Option TypeId)} {l : List D} {u : Value} {hole : Option (Nat × Nat)} {us : List Value} (hpos : 0 < es) (hml : mask.length ≤ es)
  (hc : ∀ (k : Nat) (d : D), l[k]? = some d → d.cells.length = es) (hown : Own w' e es u l.length us)
  (cell : ∀ (k : Nat) (d : D) (j : Nat) (c : D), l[k]? = some d → d.cells[j]? = some c → ∃ x, us[k * es + j]? = some x ∧ one x = true ∧ match maskAt mask j with
   | none => RD F w' c x
   | some e' => hole = some (k, j) ∨ ∃ es' rows, c = .sl es' rows ∧ ArrOK F w' e' es' x rows)
  (src : Nat → Nat → Option Sc) (hsrc : ∀ k j, isRow mask l.length hole k j → ∀ b, blk (us.getD (k * es + j) undef) = some b → ∃ s, src k j = some s ∧ ScBlk κ σ s b)
  (inj : ∀ k j k' j' s, isRow mask l.length hole k j → isRow mask l.length hole k' j' → src k j = some s → src k' j' = some s → (k, j) = (k', j'))
  (hout : ∀ b, blk u = some b → w.heap.size ≤ b ∨ ∃ o, ScBlk κ σ (.obj o) b ∧ ∀ k j, isRow mask l.length hole k j → src k j ≠ some (.obj o)) :
  TabOK F w' e es mask l u (fun k j => us.getD (k * es + j) undef) hole := by
 refine ⟨hpos, hml, hc, ⟨us, hown, hown.1, fun k d j c hk hd => ?_⟩, fun k j k' j' hr hr' hne b hb hb' => ?_, fun k j hr b hb hu => ?_⟩
 ·obtain ⟨x, h1, h2, h3⟩ := cell k d j c hk hd
  refine ⟨x, h1, h2, ?_⟩
  cases hm : maskAt mask j with
  | none => rw [hm] at h3; exact h3
  | some e' =>
   rw [hm] at h3
   simp only [] at h3 ⊢
   exact ⟨by rw [List.getD_eq_getElem?_getD, h1]; rfl, h3⟩
 ·obtain ⟨s, h1, h2⟩ := hsrc k j hr b hb
  obtain ⟨s', h1', h2'⟩ := hsrc k' j' hr' b hb'
  have := sc_apart h h2 h2'
  subst this
  exact hne (inj k j k' j' s hr hr' h1 h1')
 ·obtain ⟨s, h1, h2⟩ := hsrc k j hr b hb
  rcases hout b hu with hlt | ⟨o, h3, h4⟩
  ·have := sc_lt h h2; omega
  ·have := sc_apart h h2 h3
   subst this
   exact h4 k j hr h1

theorem RC_of_cells : ∀ {cs : List D} {us : List Value}, us.length = cs.length → (∀ (j : Nat) (c : D), cs[j]? = some c → ∃ x, us[j]? = some x ∧ one x = true ∧ RD F w c x) → RC F w cs us
 | [], us, hl, _ => by unfold RC; exact List.eq_nil_of_length_eq_zero (by simpa using hl)
 | c :: cs, [], hl, _ => by simp at hl
 | c :: cs, u :: us, hl, h => by
  obtain ⟨x, h1, h2, h3⟩ := h 0 c (by simp)
  simp at h1; subst h1
  unfold RC
  exact ⟨u, us, rfl, h2, h3, RC_of_cells (by simpa using hl) fun j c hj => by simpa using h (j + 1) c (by simpa using hj)⟩
theorem RE_of_cells {es : Nat} : ∀ {l : List D} {us : List Value}, us.length = l.length * es → (∀ (k : Nat) (d : D), l[k]? = some d → d.cells.length = es) →
  (∀ (k : Nat) (d : D) (j : Nat) (c : D), l[k]? = some d → d.cells[j]? = some c → ∃ x, us[k * es + j]? = some x ∧ one x = true ∧ RD F w c x) → RE F w es l us
 | [], us, hl, _, _ => by unfold RE; exact List.eq_nil_of_length_eq_zero (by simpa using hl)
 | d :: l, us, hl, hc, h => by
  simp only [List.length_cons, Nat.add_mul, Nat.one_mul] at hl
  have hd := hc 0 d (by simp)
  have e : us = us.take es ++ us.drop es := (List.take_append_drop es us).symm
  rw [e]
  refine RE.mk (by rw [List.length_take]; omega) (RC_of_cells (by rw [List.length_take]; omega) fun j c hj => ?_) (RE_of_cells (by rw [List.length_drop]; omega) (fun k d hk => hc (k + 1) d (by simpa using hk)) fun k d j c hk hj => ?_)
  ·obtain ⟨x, h1, h2⟩ := h 0 d j c (by simp) hj
   rw [Nat.zero_mul, Nat.zero_add] at h1
   have hjl : j < es := by rw [← hd]; exact (List.getElem?_eq_some_iff.1 hj).1
   exact ⟨x, by rw [List.getElem?_take_of_lt hjl]; exact h1, h2⟩
  ·obtain ⟨x, h1, h2⟩ := h (k + 1) d j c (by simpa using hk) hj
   refine ⟨x, ?_, h2⟩
   rw [List.getElem?_drop, ← h1]
   congr 1
   rw [Nat.add_mul, Nat.one_mul]; omega

theorem RD_of_own {e : TypeId} {es : Nat} {u : Value} {l : List D} {us : List Value} {F' : Nat → Prop} (hb : ∀ b, blk u = some b → F' b) (hown : Own w e es u l.length us) (hre : RE F' w es l us) : RD F' w (.sl es l) u := by
 unfold RD
 rcases hown.2 with ⟨g1, g2⟩ | ⟨g, f, cap, cur, g1, g3, g4, g5, g6, g7⟩
 ·exact ⟨none, 0, by rw [g1, g2], by omega, by unfold maxLen; omega, fun _ => rfl, .inl (List.eq_nil_of_length_eq_zero g2)⟩
 ·refine ⟨some ⟨g, f, none⟩, cap, g1, g4, g5, by simp, .inr ⟨g, f, us, rfl, hb g (by rw [g1]; rfl), hown.1, fun j v hj => ?_, hre⟩⟩
  exact hown.cells g1 j v hj

theorem TabOK.re {e : TypeId} {es : Nat} {mask : List (Option TypeId)} {l : List D} {u : Value} {r : Nat → Nat → Value} {F' : Nat → Prop} (h : TabOK F w e es mask l u r none) (hF : ∀ b, F b → F' b)
  (hr : ∀ k j, isRow mask l.length none k j → ∀ b, blk (r k j) = some b → F' b) : ∃ us, Own w e es u l.length us ∧ RE F' w es l us := by
 obtain ⟨us, hown, hl, hc⟩ := h.mem
 refine ⟨us, hown, RE_of_cells hl h.cells fun k d j c hk hd => ?_⟩
 obtain ⟨x, h1, h2, h3⟩ := hc k d j c hk hd
 refine ⟨x, h1, h2, ?_⟩
 cases hm : maskAt mask j with
 | none => rw [hm] at h3; exact RD.mono hF (fun _ _ => rfl) h3
 | some e' =>
  rw [hm] at h3
  simp only [] at h3
  rcases h3 with ⟨hx, h3 | ⟨es', rows, hc', us', hown', hre', _⟩⟩
  ·cases h3
  ·subst hc'
   subst hx
   exact RD_of_own (hr k j ⟨(List.getElem?_eq_some_iff.1 hk).1, by rw [hm]; rfl, by simp⟩) hown' (RE.mono hF (fun _ _ => rfl) hre')

theorem sl_rd (h : ORel cx κ F w U σ) {F' : Nat → Prop} (hF : ∀ b, F b → F' b) {o es : Nat} {x : Obj'} {l : List D} (hx : σ o = some x) (hs : x.sl = some (es, l)) (hb : ∀ b, Blk κ o x b → F' b) : RD F' w (.sl es l) (κ o).v := by
 have hok := h.ok o x hx
 cases x with
 | box T l => cases hs
 | bld T E l g => cases hs
 | mp t l => cases hs
 | arr e es' l' =>
  simp only [Obj'.sl, Option.some.injEq, Prod.mk.injEq] at hs
  obtain ⟨rfl, rfl⟩ := hs
  obtain ⟨us, hown, hre, _⟩ := hok
  exact RD_of_own (fun b hb' => hb b (.inl hb')) hown (RE.mono hF (fun _ _ => rfl) hre)
 | tab e es' mask l' g hole =>
  cases hole with
  | some p => cases hs
  | none =>
   simp only [Obj'.sl, Option.some.injEq, Prod.mk.injEq] at hs
   obtain ⟨rfl, rfl⟩ := hs
   have ht : TabOK F w e es' mask l' (κ o).v (κ g).r none := hok
   obtain ⟨us, hown, hre⟩ := ht.re hF fun k j hr b hb' => hb b (.inr ⟨k, j, hr, hb'⟩)
   exact RD_of_own (fun b hb' => hb b (.inl hb')) hown hre
theorem slO_some {o es : Nat} {l : List D} (h : slO σ o = some (es, l)) : ∃ x, σ o = some x ∧ x.sl = some (es, l) := by
 unfold slO at h
 split at h
 ·rename_i x hx; exact ⟨x, hx, h⟩
 ·cases h

end
end Go.Ab
