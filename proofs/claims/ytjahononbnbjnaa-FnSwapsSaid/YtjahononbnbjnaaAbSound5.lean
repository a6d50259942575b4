/- My own layer, eighth part: appends, literals, cuts. -/
import Derived.Test.YtjahononbnbjnaaAbSound4
namespace Go.Ab
set_option linter.unusedVariables false
set_option linter.unusedSimpArgs false
section
variable {P : Program} {cx : Cx} {κ : Kap} {F : Nat → Prop} {w : World} {U : Nat → Prop} {nm : Nat} {σ : Objs} {ty : TypeId → Option TyE} {Γ : Nat → Option FnSpec}

theorem RE.drop {es : Nat} : ∀ (n : Nat) {l : List D} {us : List Value}, RE F w es l us → RE F w es (l.drop n) (us.drop (n * es))
 | 0, l, us, h => by simpa using h
 | n + 1, [], us, h => by unfold RE at h; subst h; simp only [List.drop_nil]; unfold RE; rfl
 | n + 1, d :: ds, us, h => by
  obtain ⟨u, us2, rfl, h2, h3, h4⟩ := h.cons
  have e : (n + 1) * es = u.length + n * es := by rw [Nat.add_mul, h2]; omega
  rw [List.drop_succ_cons, e, List.drop_length_add_append]
  exact RE.drop n h4
theorem RE.take {es : Nat} : ∀ (n : Nat) {l : List D} {us : List Value}, RE F w es l us → RE F w es (l.take n) (us.take (n * es))
 | 0, l, us, h => by simp only [List.take_zero, Nat.zero_mul]; unfold RE; rfl
 | n + 1, [], us, h => by unfold RE at h; subst h; simp only [List.take_nil]; unfold RE; rfl
 | n + 1, d :: ds, us, h => by
  obtain ⟨u, us2, rfl, h2, h3, h4⟩ := h.cons
  have e : (n + 1) * es = u.length + n * es := by rw [Nat.add_mul, h2]; omega
  rw [List.take_succ_cons, e, List.take_length_add_append]
  exact RE.mk h2 h3 (RE.take n h4)

theorem ownBlock_blk (v : Value) : (∃ a n c, v = .slice a n c) → v.ownBlock = blk v := by
 rintro ⟨a, n, c, rfl⟩
 cases a <;> rfl

theorem run_append_at (t ty' e : TypeId) (i : TypeInfo) (z : Value) (ht : P.underlying t = some (.slice e)) (hi : P.info? e = some i) (hz : i.zero = some z)
  (hzs : z.cells.size = i.size) (hsz : 0 < i.size)
  (v : Value) (n : Nat) (xs : List Value) (hown : Own w e i.size v n xs)
  (a : Option Addr) (m c : Nat) (hac : a = none → m = 0 ∧ c = 0) (news : List Value) (hl : news.length = m * i.size) (hnews : ∀ ad, a = some ad → ∀ j u, news[j]? = some u → w.cell? (ad.add j) = some u) (h1 : ∀ u ∈ news, u.oneCell' = true)
  (h63 : n + m ≤ maxLen) (hbytes : (n + m) * i.bytes ≤ 140737488355328) :
  ∃ v' w', (Builtin.append_ #[t, t] ty' #[v, .slice a m c]).run P w = .ok v' w' ∧ Own w' e i.size v' (n + m) (xs ++ news) ∧ w.grownBy w' v.ownBlock ∧
   (blk v' = blk v ∨ blk v' = some w.heap.size) := by
 obtain ⟨v', w', g1, g2, g3, g4⟩ := run_append_Own (P := P) (w := w) t ty' e i z ht hi hz hzs hsz v n xs hown a m c hac news hl hnews h1 h63 hbytes
 obtain ⟨a1, c1, e1⟩ := g2.slice
 obtain ⟨a2, c2, e2⟩ := hown.slice
 rw [ownBlock_blk v' ⟨_, _, _, e1⟩, ownBlock_blk v ⟨_, _, _, e2⟩] at g4
 exact ⟨v', w', g1, g2, g3, g4⟩

def rmv (σ : Objs) : Option Nat → Objs
 | some o => upd σ o none
 | none => σ

theorem aft_append (h : ORel cx κ F w U σ) (hf : ¬ U nm) {v v' : Value} {w' : World} {oo : Option Nat} (hoo : ∀ o, oo = some o → (∃ x, σ o = some x) ∧ (κ o).v = v) (hov : oo = none → blk v = none)
  (hg : w.grownBy w' v.ownBlock) (hvs : ∃ a n c, v = .slice a n c) (hblk : blk v' = blk v ∨ blk v' = some w.heap.size) {e : TypeId} {es : Nat} {l : List D} {us : List Value}
  (hown : Own w' e es v' l.length us) (hre : RE F w es l us) (hes : 0 < es) :
  Aft cx κ F w U (fun n => if n = nm then kv v' else κ n) F w' (Un U nm) (upd (rmv σ oo) nm (some (.arr e es l))) := by
 have hk := kap_new (κ := κ) hf (kv v')
 have hvb := ownBlock_blk v hvs
 rw [hvb] at hg
 -- the block that may be written is no frozen one, no kept one
 have hvfree : ∀ b, blk v = some b → ¬ F b ∧ ¬ cx.K b ∧ cx.G b := by
  intro b hb
  cases oo with
  | none => rw [hov rfl] at hb; cases hb
  | some o =>
   obtain ⟨⟨x, hx⟩, hko⟩ := hoo o rfl
   exact h.free o x hx b (.inl (by rw [hko]; exact hb))
 have hbl : ∀ b, b < w.heap.size → blk v ≠ some b → w'.heap[b]? = w.heap[b]? := fun b hb hne => hg.block b hb fun e => hne e.symm
 have hFw : ∀ b, F b → w'.heap[b]? = w.heap[b]? := fun b hb => hbl b (h.fG b hb).2 fun e => (hvfree b e).1 hb
 have hold : ∀ o y, upd (rmv σ oo) nm (some (.arr e es l)) o = some y → o ≠ nm → σ o = some y ∧ oo ≠ some o := by
  intro o y hy hne
  rw [upd_ne hne] at hy
  cases oo with
  | none => exact ⟨hy, by simp⟩
  | some o' =>
   simp only [rmv] at hy
   by_cases he : o = o'
   ·subst he; rw [upd_same] at hy; cases hy
   ·rw [upd_ne he] at hy; exact ⟨hy, by simp; exact fun e => he e.symm⟩
 have hnv : ∀ o y, σ o = some y → oo ≠ some o → ∀ b, Blk κ o y b → blk v ≠ some b := by
  intro o y hy hno b hb hvb
  cases oo with
  | none => rw [hov rfl] at hvb; cases hvb
  | some o' =>
   obtain ⟨⟨x, hx⟩, hko⟩ := hoo o' rfl
   exact h.apart o y o' x hy hx (fun e => hno (by rw [e])) b hb (.inl (by rw [hko]; exact hvb))
 have hblk2 : ∀ o y, upd (rmv σ oo) nm (some (.arr e es l)) o = some y → ∀ b, Blk (fun n => if n = nm then kv v' else κ n) o y b →
   (o = nm ∧ (blk v = some b ∨ b = w.heap.size)) ∨ (o ≠ nm ∧ σ o = some y ∧ Blk κ o y b ∧ b < w.heap.size ∧ blk v ≠ some b) := fun o y hy b hb => by
  by_cases hne : o = nm
  ·subst hne
   rw [upd_same] at hy; cases hy
   have hb : blk v' = some b := by
    rcases hb with hb | hb
    ·simpa using hb
    ·exact hb.elim
   refine .inl ⟨rfl, ?_⟩
   rcases hblk with hb' | hb'
   ·exact .inl (by rw [← hb']; exact hb)
   ·rw [hb'] at hb; simp at hb; exact .inr hb.symm
  ·obtain ⟨h1, h2⟩ := hold o y hy hne
   have hu := h.nb o y h1
   have hb := hb.kap hk hu.1 hu.2
   exact .inr ⟨hne, h1, hb, blk_lt h h1 hb, hnv o y h1 h2 b hb⟩
 refine ⟨hk, fun _ hb => hb, ⟨hg.os, hg.tape, hg.output, hg.size, fun b hb => ?_⟩, fun _ ho => un_sub ho, ?_, ?_, ?_, ?_, fun b hb => ⟨(h.fG b hb).1, Nat.lt_of_lt_of_le (h.fG b hb).2 hg.size⟩, h.kB, h.gB, Nat.le_trans h.bs hg.size, h.inv.mono (fun _ hb => hb) hFw, fun j hj => ⟨un_sub (h.lt j hj).1, (congrArg KV.v (hk j (h.lt j hj).1)).trans (h.lt j hj).2⟩⟩
 ·rcases hb with hb | hb
  ·exact hFw b hb
  ·exact hbl b (Nat.lt_of_lt_of_le (h.kB b hb) h.bs) fun e => (hvfree b e).2.1 hb
 ·intro o y hy
  by_cases hne : o = nm
  ·subst hne; rw [upd_same] at hy; cases hy
   exact ⟨us, by simpa using hown, RE.mono (fun _ hb => hb) hFw hre, hes⟩
  ·obtain ⟨h1, h2⟩ := hold o y hy hne
   have hu := h.nb o y h1
   exact ObjOK.mono hk (fun _ hb => hb) hFw hu.1 hu.2 (fun b hb => hbl b (blk_lt h h1 hb) (hnv o y h1 h2 b hb)) (h.ok o y h1)
 ·intro o y hy
  by_cases hne : o = nm
  ·subst hne; rw [upd_same] at hy; cases hy
   exact ⟨.inr ⟨Nat.le_refl _, by omega⟩, trivial⟩
  ·have hu := h.nb o y (hold o y hy hne).1
   exact ⟨un_sub hu.1, NBo.mono (fun _ ho => un_sub ho) hu.2⟩
 ·intro o y hy b hb
  rcases hblk2 o y hy b hb with ⟨_, hb' | rfl⟩ | ⟨_, hy', hb', _⟩
  ·exact hvfree b hb'
  ·exact ⟨fun hF => by have := (h.fG _ hF).2; omega, fun hK => by have := h.kB _ hK; have := h.bs; omega, h.gB _ h.bs⟩
  ·exact h.free o y hy' b hb'
 ·intro o y o' y' hy hy' hne b hb hb'
  rcases hblk2 o y hy b hb with ⟨h1, h2⟩ | ⟨h1, g1, g2, g3, g4⟩
  ·rcases hblk2 o' y' hy' b hb' with ⟨h3, h4⟩ | ⟨h3, k1, k2, k3, k4⟩
   ·exact hne (h1.trans h3.symm)
   ·rcases h2 with h2 | h2
    ·exact k4 h2
    ·omega
  ·rcases hblk2 o' y' hy' b hb' with ⟨h3, h4⟩ | ⟨h3, k1, k2, k3, k4⟩
   ·rcases h4 with h4 | h4
    ·exact g4 h4
    ·omega
   ·exact h.apart o y o' y' g1 k1 hne b g2 k2

theorem slOf_some (h : ORel cx κ F w U σ) {es : Nat} {x : AV} {l : List D} {rd : List Nat} (hx : slOf σ es x = some (l, rd)) {v : Value} (hv : RV κ F w x v) :
  ∃ a c us, v = .slice a l.length c ∧ (a = none → l.length = 0 ∧ c = 0) ∧ us.length = l.length * es ∧ RE F w es l us ∧ ∀ ad, a = some ad → ∀ j u, us[j]? = some u → w.cell? (ad.add j) = some u := by
 unfold slOf at hx
 split at hx
 ·rename_i es' l'
  split at hx
  ·rename_i hes
   simp only [Option.some.injEq, Prod.mk.injEq] at hx
   obtain ⟨rfl, rfl⟩ := hx
   subst hes
   unfold RV RD at hv
   obtain ⟨a, cap, h1, h2, h3, h3', h4⟩ := hv
   rcases h4 with rfl | ⟨b, off, us, rfl, hF, hlen, hcells, hre⟩
   ·refine ⟨a, cap, [], h1, fun ha => ⟨rfl, h3' ha⟩, by simp, by unfold RE; rfl, by simp⟩
   ·exact ⟨_, cap, us, h1, by simp, hlen, hre, fun ad had j u hj => by simp at had; subst had; rw [Addr.add_lit]; exact hcells j u hj⟩
  ·cases hx
 ·simp only [Option.some.injEq, Prod.mk.injEq] at hx
  obtain ⟨rfl, rfl⟩ := hx
  unfold RV RD at hv
  exact ⟨none, 0, [], hv.1, fun _ => ⟨rfl, rfl⟩, by simp, by unfold RE; rfl, by simp⟩
 ·rename_i o
  split at hx
  ·rename_i e es' l' hob
   split at hx
   ·rename_i hes
    simp only [Option.some.injEq, Prod.mk.injEq] at hx
    obtain ⟨rfl, rfl⟩ := hx
    subst hes
    obtain ⟨us, hown, hre, _⟩ := h.ok o _ hob
    unfold RV at hv
    rcases hown.2 with ⟨g1, g2⟩ | ⟨g, f, cap, cur, g1, _⟩
    ·refine ⟨none, 0, us, by rw [hv.1, g1, g2], fun _ => ⟨g2, rfl⟩, hown.1, hre, by simp⟩
    ·exact ⟨_, cap, us, by rw [hv.1, g1], by simp, hown.1, hre, fun ad had j u hj => by
      simp at had; subst had
      rw [Addr.add_lit]; exact hown.cells g1 j u hj⟩
   ·cases hx
  ·cases hx
 ·cases hx

theorem sound_append (hty : ∀ t x, ty t = some x → TyOK P t x) (h : ORel cx κ F w U σ) (hf : ¬ U nm) {o : Oper} {ρ : Operand → Value} {e : Operand → AV} (he : ∀ x, RV κ F w (e x) (ρ x)) {x y : Operand} {t t' : TypeId}
  (ho : o.op = .call { callee := .builtin .append, args := #[x, y], argTypes := #[t, t'] })
  (htab : ∀ el E o2, elemOf ty t = some (el, E) → t = t' → 0 < E.size → E.zero.cells.size = E.size → e y = .own o2 → Sound P cx κ F w U nm σ o ρ (tabAppend σ nm el E (e x) o2))
  (hrow : ∀ el E ob g k j l2 rd, elemOf ty t = some (el, E) → t = t' → 0 < E.size → E.zero.cells.size = E.size → e x = .row ob g k j → slOf σ E.size (e y) = some (l2, rd) → Sound P cx κ F w U nm σ o ρ (rowAppend σ nm el E ob g k j l2 rd)) :
  Sound P cx κ F w U nm σ o ρ (appendSpec ty σ nm t t' (e x) (e y)) := by
 have run : ∀ v w', (Builtin.append_ #[t, t'] o.type #[ρ x, ρ y]).run P w = .ok v w' → (execOp ρ o).run P w = .ok (.value v) w' := by
  intro v w' hv
  unfold execOp
  simp only [ho, resolve, invoke, builtin, Sem.run_bind, Sem.run_pure, Result.andThen_ok, List.map_toArray, List.map_cons, List.map_nil, hv]
 unfold appendSpec
 split
 ·rename_i el E hel
  obtain ⟨hu, tok⟩ := elemOf_some hty hel
  obtain ⟨_, i, i1, i2, i3, i4, _⟩ := tok
  split
  ·rename_i hc
   obtain ⟨rfl, hpos, hzs⟩ := hc
   split
   ·rename_i l2 rd hsl
    obtain ⟨a2, c2, us2, hy2, hac, hul2, hre2, hcell2⟩ := slOf_some h hsl (he y)
    have ones2 : ∀ u ∈ us2, u.oneCell' = true := fun u hu => by rw [one_eq]; exact hre2.ones u hu
    split
    ·rename_i hex
     have hx := he x
     rw [hex] at hx; unfold RV RD at hx
     intro hp
     obtain ⟨p1, p2⟩ := (show _ ∧ _ from hp)
     obtain ⟨v', w', g1, g2, g3, g4⟩ := run_append_at (P := P) (w := w) t o.type el i E.zero hu i1 i4 (by rw [hzs, i2]) (by rw [i2]; exact hpos) (.slice none 0 0) 0 [] (by rw [i2]; exact Own.nil w el E.size)
      a2 l2.length c2 hac us2 (by rw [i2]; exact hul2) hcell2 ones2 (by unfold maxLen; omega) (by rw [i3, Nat.zero_add]; omega)
     rw [i2] at g2
     simp only [Nat.zero_add, List.nil_append] at g2
     refine out_val (run _ _ (by rw [hx.1, hy2]; exact g1)) ?_
     refine ⟨.own nm, _, (fun n => if n = nm then kv v' else κ n), F, ⟨rfl, rfl⟩, ?_, ?_, own_nb _ nm_un⟩
     ·exact aft_append h hf (v := .slice none 0 0) (oo := none) (by simp) (by simp [blk]) g3 ⟨_, _, _, rfl⟩ g4 g2 hre2 hpos
     ·unfold RV
      obtain ⟨a, c, e'⟩ := Own.slice g2
      exact ⟨by simp, by rw [e']; rfl⟩
    ·rename_i ob hex
     have hx := he x
     rw [hex] at hx; unfold RV at hx
     split
     ·rename_i e' es l hob
      split
      ·rename_i hc2
       obtain ⟨rfl, rfl⟩ := hc2
       obtain ⟨us, hown, hre, _⟩ := h.ok ob _ hob
       intro hp
       obtain ⟨p1, p2⟩ := (show _ ∧ _ from hp)
       obtain ⟨v', w', g1, g2, g3, g4⟩ := run_append_at (P := P) (w := w) t o.type e' i E.zero hu i1 i4 (by rw [hzs, i2]) (by rw [i2]; exact hpos) (κ ob) l.length us (by rw [i2]; exact hown)
        a2 l2.length c2 hac us2 (by rw [i2]; exact hul2) hcell2 ones2 (by unfold maxLen; omega) (by rw [i3]; omega)
       rw [i2] at g2
       have hlen : (l ++ l2).length = l.length + l2.length := List.length_append
       rw [← hlen] at g2
       refine out_val (run _ _ (by rw [hx.1, hy2]; exact g1)) ?_
       refine ⟨.own nm, _, (fun n => if n = nm then kv v' else κ n), F, ⟨rfl, rfl⟩, ?_, ?_, own_nb _ nm_un⟩
       ·obtain ⟨a, c, e'⟩ := Own.slice hown
        exact aft_append h hf (v := κ ob) (oo := some ob) (fun o' ho' => by simp at ho'; subst ho'; exact ⟨⟨_, hob⟩, rfl⟩) (by simp) g3 ⟨_, _, _, e'⟩ g4 g2 (RE.app hre hre2) hpos
       ·unfold RV
        obtain ⟨a, c, e'⟩ := Own.slice g2
        exact ⟨by simp, by rw [e']; rfl⟩
      ·intro hp; exact hp.elim
     ·intro hp; exact hp.elim
    ·rename_i ob g k j hex
     exact hrow el E ob g k j l2 rd hel rfl hpos hzs hex hsl
    ·intro hp; exact hp.elim
   ·split
    ·rename_i o2 hey
     exact htab el E o2 hel rfl hpos hzs hey
    ·intro hp; exact hp.elim
  ·intro hp; exact hp.elim
 ·intro hp; exact hp.elim

theorem foldl_set (cs : List Value) : ∀ (off j : Nat) (c : Array Value), off + j + cs.length ≤ c.size →
  ((cs.zipIdx j).foldl (fun a (x : Value × Nat) => a.setIfInBounds (off + x.2) x.1) c).toList = spl c.toList (off + j) cs := by
 induction cs with
 | nil => intro off j c _; simp [spl]
 | cons v cs ih =>
  intro off j c h
  simp only [List.length_cons] at h
  simp only [List.zipIdx_cons, List.foldl_cons]
  rw [ih off (j + 1) _ (by simp; omega)]
  apply List.ext_getElem?
  intro n
  have hs : (c.setIfInBounds (off + j) v).toList.length = c.size := by simp
  rw [spl_get (by rw [hs]; omega), spl_get (by simp; omega)]
  simp only [Array.toList_setIfInBounds, List.length_cons]
  by_cases h1 : n < off + j
  ·rw [if_pos h1, if_pos (by omega), List.getElem?_set_ne (by omega)]
  ·rw [if_neg h1]
   by_cases h2 : n = off + j
   ·subst h2
    rw [if_pos (by omega), if_pos (by omega), List.getElem?_set_self (by simp; omega)]
    simp
   ·rw [if_neg (by omega)]
    by_cases h3 : n < off + j + (cs.length + 1)
    ·rw [if_pos (by omega), if_pos h3, show n - (off + j) = (n - (off + (j + 1))) + 1 from by omega, List.getElem?_cons_succ]
    ·rw [if_neg (by omega), if_neg h3, List.getElem?_set_ne (by omega)]

theorem foldl_spl (v : Value) (off : Nat) (c : Array Value) (h : off + v.cells.size ≤ c.size) :
  (v.cells.zipIdx.foldl (fun a (x : Value × Nat) => a.setIfInBounds (off + x.2) x.1) c) = (spl c.toList off v.cells.toList).toArray := by
 have := foldl_set v.cells.toList off 0 c (by simpa using h)
 apply Array.ext'
 rw [← Array.foldl_toList, Array.toList_zipIdx]
 simpa using this

theorem sound_fill {place : Nat → Option (Nat × Nat)} {ρ : Operand → Value} {e : Operand → AV} (he : ∀ x, RV κ F w (e x) (ρ x)) (hn : ∀ x, NB U (e x)) :
  ∀ (parts : List (Nat × Operand)) (cells : List AV) (c : Array Value) (out : List AV), RVc κ F w cells c.toList → NBs U cells → fillA place cells (parts.map fun p => (p.1, e p.2)) = some out →
   ∃ c', Instr.fill place c (parts.map fun p => (p.1, ρ p.2)) = some c' ∧ RVc κ F w out c'.toList ∧ NBs U out
 | [], cells, c, out, hc, hnc, h => by
  simp only [List.map_nil, fillA, Option.some.injEq] at h
  subst h
  exact ⟨c, rfl, hc, hnc⟩
 | (i, x) :: rest, cells, c, out, hc, hnc, h => by
  simp only [List.map_cons, fillA] at h
  split at h
  ·rename_i off size cs hp hcs
   split at h
   ·rename_i hfit
    obtain ⟨f1, f2⟩ := hfit
    obtain ⟨h1, h2⟩ := cells_of hcs (he x) (hn x)
    have hsz : (ρ x).cells.size = cs.length := by rw [← Array.length_toList]; exact h1.length
    have hcl : c.size = cells.length := by rw [← Array.length_toList]; exact hc.length
    have ih := sound_fill he hn rest (spl cells off cs) (spl c.toList off (ρ x).cells.toList).toArray out (by simpa using hc.spl h1) (hnc.spl h2) h
    obtain ⟨c', g1, g2⟩ := ih
    refine ⟨c', ?_, g2⟩
    simp only [List.map_cons, Instr.fill, hp]
    rw [if_neg (by simp only [Bool.or_eq_true, decide_eq_true_eq, ne_eq]; omega), foldl_spl _ _ _ (by omega)]
    exact g1
   ·cases h
  ·cases h

theorem sound_build (hty : ∀ t x, ty t = some x → TyOK P t x) (h : ORel cx κ F w U σ) {o : Oper} {ρ : Operand → Value} {e : Operand → AV} (he : ∀ x, RV κ F w (e x) (ρ x)) (hn : ∀ x, NB U (e x)) {t : TypeId} {parts : Array (Nat × Operand)} (ho : o.op = .build t parts) :
  Sound P cx κ F w U nm σ o ρ (spec ty Γ σ e nm o) := by
 have hs : spec ty Γ σ e nm o = buildSpec ty t (parts.toList.map fun p => (p.1, e p.2)) := by unfold spec; simp only [ho]
 rw [hs]
 unfold buildSpec
 split
 ·rename_i fs size bytes z _ hts
  split
  ·rename_i hc
   obtain ⟨hfs, hz1⟩ := hc
   split
   ·rename_i cells hfill
    intro _
    have tok := hty _ _ hts
    have hu := tok.1
    -- the places
    have hpl : ∀ (l : List Field), (∀ f ∈ l, (ty f.type).isSome = true) → (l.mapM fun (f : Field) => (do pure (f.offset, ← sizeOf f.type) : Sem (Nat × Nat))).run P w = .ok (l.map fun f => (f.offset, ((ty f.type).map (·.size)).getD 0)) w := by
     intro l
     induction l with
     | nil => intro _; simp
     | cons f l ih =>
      intro hl
      have hf := hl f (List.mem_cons_self ..)
      obtain ⟨T, hT⟩ := Option.isSome_iff_exists.1 hf
      have ih' := ih (fun g hg => hl g (List.mem_cons_of_mem _ hg))
      simp only [List.mapM_cons, Sem.run_bind, run_sizeOf' (hty _ _ hT), Result.andThen_ok, Sem.run_pure, ih', List.map_cons, hT, Option.map_some, Option.getD_some]
    have hpa : (fs.mapM fun (f : Field) => (do pure (f.offset, ← sizeOf f.type) : Sem (Nat × Nat))).run P w = .ok (fs.map fun f => (f.offset, ((ty f.type).map (·.size)).getD 0)) w := by
     have h1 := hpl fs.toList (fun f hf => Array.all_eq_true_iff_forall_mem.1 hfs f (Array.mem_toList_iff.1 hf))
     rw [Array.mapM_eq_mapM_toList, map_eq_pure_bind]
     simp only [Sem.run_bind, h1, Result.andThen_ok, Sem.run_pure]
     congr 1
     apply Array.ext'
     simp
    have hplace : (fun i => (fs.map fun f => (f.offset, ((ty f.type).map (·.size)).getD 0))[i]?) = placeOf ty fs := by
     funext i
     unfold placeOf
     rw [Array.getElem?_map]
     cases hfi : fs[i]? with
     | none => rfl
     | some f =>
      have hm : f ∈ fs := Array.mem_of_getElem? hfi
      obtain ⟨T, hT⟩ := Option.isSome_iff_exists.1 (Array.all_eq_true_iff_forall_mem.1 hfs f hm)
      simp [hT]
    obtain ⟨c', g1, g2, g3⟩ := sound_fill he hn parts.toList _ z.cells cells (RVc_scs hz1) scs_nb hfill
    have hv : (parts.map fun (i, x) => (i, ρ x)).toList = parts.toList.map fun p => (p.1, ρ p.2) := by simp
    refine out_val (v := .agg c') (w' := w) ?_ (sr_same h (by have := rv_mkAgg g2; simpa using this) (mkAgg_nb g3))
    unfold execOp
    simp only [ho]
    refine exec_v _ ?_
    simp only [Instr.build, Sem.run_bind, run_zero' tok, Result.andThen_ok, run_underlying hu, hpa, hv, hplace, g1, Sem.run_pure]
   ·intro hp; exact hp.elim
  ·intro hp; exact hp.elim
 ·rename_i len el size bytes z _ hts
  split
  ·rename_i E hE
   split
   ·rename_i hz1
    split
    ·rename_i cells hfill
     intro _
     have tok := hty _ _ hts
     have hu := tok.1
     obtain ⟨c', g1, g2, g3⟩ := sound_fill he hn parts.toList _ z.cells cells (RVc_scs hz1) scs_nb hfill
     have hv : (parts.map fun (i, x) => (i, ρ x)).toList = parts.toList.map fun p => (p.1, ρ p.2) := by simp
     refine out_val (v := .agg c') (w' := w) ?_ (sr_same h (by have := rv_mkAgg g2; simpa using this) (mkAgg_nb g3))
     unfold execOp
     simp only [ho]
     refine exec_v _ ?_
     simp only [Instr.build, Sem.run_bind, run_zero' tok, Result.andThen_ok, run_underlying hu, run_sizeOf' (hty _ _ hE), hv, g1, Sem.run_pure]
    ·intro hp; exact hp.elim
   ·intro hp; exact hp.elim
  ·intro hp; exact hp.elim
 ·intro hp; exact hp.elim

end
end Go.Ab
