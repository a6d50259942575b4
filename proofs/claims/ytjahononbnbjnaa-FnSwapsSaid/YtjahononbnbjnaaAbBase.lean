/- My own layer: abstract values (plain data), what a value of the machine stands for, and that it goes on standing. No program in sight. -/
import Derived.WalkKit
import Derived.Orders
namespace Go.Ab
set_option linter.unusedVariables false
set_option linter.unusedSimpArgs false

inductive D where
 | sc (v : Value)
 | sl (es : Nat) (l : List D)
 | agg (l : List D)

def D.cells : D → List D
 | .agg l => l
 | d => [d]

def one : Value → Bool
 | .agg _ | .tuple _ => false
 | _ => true

mutual
def RD (F : Nat → Prop) (w : World) : D → Value → Prop
 | .sc u, v => v = u ∧ one u = true
 | .sl es l, v => ∃ a cap, v = .slice a l.length cap ∧ l.length ≤ cap ∧ cap ≤ maxLen ∧ (a = none → cap = 0) ∧ (l = [] ∨ ∃ b off us, a = some ⟨b, off, none⟩ ∧ F b ∧ us.length = l.length * es ∧
   (∀ j u, us[j]? = some u → w.cell? ⟨b, off + j, none⟩ = some u) ∧ RE F w es l us)
 | .agg l, v => ∃ cs : List Value, v = .agg cs.toArray ∧ RC F w l cs
def RC (F : Nat → Prop) (w : World) : List D → List Value → Prop
 | [], us => us = []
 | d :: ds, us => ∃ u us', us = u :: us' ∧ one u = true ∧ RD F w d u ∧ RC F w ds us'
def RE (F : Nat → Prop) (w : World) (es : Nat) : List D → List Value → Prop
 | [], us => us = []
 | d :: ds, us => ∃ u us', us = u ++ us' ∧ u.length = es ∧ (match d with | .agg c => RC F w c u | d => ∃ x, u = [x] ∧ one x = true ∧ RD F w d x) ∧ RE F w es ds us'
end

structure Wx (K : Nat → Prop) (w w' : World) : Prop where
 os : w'.os = w.os
 tape : w'.tape = w.tape
 output : w'.output = w.output
 size : w.heap.size ≤ w'.heap.size
 block : ∀ k, K k → w'.heap[k]? = w.heap[k]?

theorem Wx.refl (K : Nat → Prop) (w : World) : Wx K w w := ⟨rfl, rfl, rfl, Nat.le_refl _, fun _ _ => rfl⟩
theorem Wx.trans {K K' : Nat → Prop} {a b c : World} (h : Wx K a b) (h' : Wx K' b c) (hk : ∀ b, K b → K' b) : Wx K a c :=
 ⟨h'.os.trans h.os, h'.tape.trans h.tape, h'.output.trans h.output, Nat.le_trans h.size h'.size, fun k hk' => (h'.block k (hk k hk')).trans (h.block k hk')⟩
theorem Wx.mono {K K' : Nat → Prop} {a b : World} (h : Wx K a b) (hk : ∀ b, K' b → K b) : Wx K' a b :=
 ⟨h.os, h.tape, h.output, h.size, fun k hk' => h.block k (hk k hk')⟩

mutual
theorem RD.mono {F F' : Nat → Prop} {w w' : World} (hF : ∀ b, F b → F' b) (hb : ∀ b, F b → w'.heap[b]? = w.heap[b]?) : ∀ {d : D} {v : Value}, RD F w d v → RD F' w' d v
 | .sc _, _, h => by unfold RD at h ⊢; exact h
 | .sl es l, v, h => by
  unfold RD at h ⊢
  obtain ⟨a, cap, h1, h2, h3, h3', h4⟩ := h
  refine ⟨a, cap, h1, h2, h3, h3', ?_⟩
  rcases h4 with h4 | ⟨b, off, us, ha, hf, hl, hc, he⟩
  ·exact .inl h4
  ·exact .inr ⟨b, off, us, ha, hF b hf, hl, fun j u hj => (World.cell?_of_block (hb b hf)).trans (hc j u hj), RE.mono hF hb he⟩
 | .agg l, v, h => by
  unfold RD at h ⊢
  obtain ⟨cs, h1, h2⟩ := h
  exact ⟨cs, h1, RC.mono hF hb h2⟩
theorem RC.mono {F F' : Nat → Prop} {w w' : World} (hF : ∀ b, F b → F' b) (hb : ∀ b, F b → w'.heap[b]? = w.heap[b]?) : ∀ {l : List D} {us : List Value}, RC F w l us → RC F' w' l us
 | [], _, h => by unfold RC at h ⊢; exact h
 | d :: ds, us, h => by
  unfold RC at h ⊢
  obtain ⟨u, us', h1, h2, h3, h4⟩ := h
  exact ⟨u, us', h1, h2, RD.mono hF hb h3, RC.mono hF hb h4⟩
theorem RE.mono {F F' : Nat → Prop} {w w' : World} (hF : ∀ b, F b → F' b) (hb : ∀ b, F b → w'.heap[b]? = w.heap[b]?) {es : Nat} : ∀ {l : List D} {us : List Value}, RE F w es l us → RE F' w' es l us
 | [], _, h => by unfold RE at h ⊢; exact h
 | .agg c :: ds, us, h => by
  unfold RE at h ⊢
  obtain ⟨u, us', h1, h2, h3, h4⟩ := h
  exact ⟨u, us', h1, h2, RC.mono hF hb h3, RE.mono hF hb h4⟩
 | .sc c :: ds, us, h => by
  unfold RE at h ⊢
  obtain ⟨u, us', h1, h2, ⟨x, h3, h4, h5⟩, h6⟩ := h
  exact ⟨u, us', h1, h2, ⟨x, h3, h4, RD.mono hF hb h5⟩, RE.mono hF hb h6⟩
 | .sl es' c :: ds, us, h => by
  unfold RE at h ⊢
  obtain ⟨u, us', h1, h2, ⟨x, h3, h4, h5⟩, h6⟩ := h
  exact ⟨u, us', h1, h2, ⟨x, h3, h4, RD.mono hF hb h5⟩, RE.mono hF hb h6⟩
end

theorem RE.cons {F : Nat → Prop} {w : World} {es : Nat} {d : D} {ds : List D} {us : List Value} (h : RE F w es (d :: ds) us) :
  ∃ u us', us = u ++ us' ∧ u.length = es ∧ RC F w d.cells u ∧ RE F w es ds us' := by
 cases d with
 | agg c =>
  unfold RE at h
  obtain ⟨u, us', h1, h2, h3, h4⟩ := h
  exact ⟨u, us', h1, h2, h3, h4⟩
 | sc c =>
  unfold RE at h
  obtain ⟨u, us', h1, h2, ⟨x, h3, h4, h5⟩, h6⟩ := h
  exact ⟨u, us', h1, h2, by subst h3; unfold D.cells; unfold RC; exact ⟨x, [], rfl, h4, h5, by unfold RC; rfl⟩, h6⟩
 | sl e c =>
  unfold RE at h
  obtain ⟨u, us', h1, h2, ⟨x, h3, h4, h5⟩, h6⟩ := h
  exact ⟨u, us', h1, h2, by subst h3; unfold D.cells; unfold RC; exact ⟨x, [], rfl, h4, h5, by unfold RC; rfl⟩, h6⟩

theorem RE.mk {F : Nat → Prop} {w : World} {es : Nat} {d : D} {ds : List D} {u us : List Value} (hl : u.length = es) (h : RC F w d.cells u) (h' : RE F w es ds us) : RE F w es (d :: ds) (u ++ us) := by
 cases d with
 | agg c => unfold RE; exact ⟨u, us, rfl, hl, h, h'⟩
 | sc c =>
  unfold D.cells at h; unfold RC at h
  obtain ⟨x, us', h1, h2, h3, h4⟩ := h
  unfold RC at h4; subst h4
  unfold RE; exact ⟨u, us, rfl, hl, ⟨x, h1, h2, h3⟩, h'⟩
 | sl e c =>
  unfold D.cells at h; unfold RC at h
  obtain ⟨x, us', h1, h2, h3, h4⟩ := h
  unfold RC at h4; subst h4
  unfold RE; exact ⟨u, us, rfl, hl, ⟨x, h1, h2, h3⟩, h'⟩

theorem RE.length {F : Nat → Prop} {w : World} {es : Nat} : ∀ {l : List D} {us : List Value}, RE F w es l us → us.length = l.length * es
 | [], us, h => by unfold RE at h; subst h; simp
 | d :: ds, us, h => by
  obtain ⟨u, us', h1, h2, _, h4⟩ := h.cons
  have := RE.length h4
  subst h1
  simp only [List.length_append, List.length_cons, Nat.add_mul, h2, this]
  omega

theorem RC.length {F : Nat → Prop} {w : World} : ∀ {l : List D} {us : List Value}, RC F w l us → us.length = l.length
 | [], us, h => by unfold RC at h; subst h; rfl
 | d :: ds, us, h => by
  unfold RC at h
  obtain ⟨u, us', rfl, _, _, h4⟩ := h
  simp [RC.length h4]

theorem RE.app {F : Nat → Prop} {w : World} {es : Nat} : ∀ {l l' : List D} {us us' : List Value}, RE F w es l us → RE F w es l' us' → RE F w es (l ++ l') (us ++ us')
 | [], _, us, _, h, h' => by unfold RE at h; subst h; exact h'
 | d :: ds, l', us, us', h, h' => by
  obtain ⟨u, us2, h1, h2, h3, h4⟩ := h.cons
  subst h1
  rw [List.append_assoc, List.cons_append]
  exact RE.mk h2 h3 (RE.app h4 h')

theorem RE.at {F : Nat → Prop} {w : World} {es : Nat} : ∀ {l : List D} {us : List Value} (k : Nat) (d : D), RE F w es l us → l[k]? = some d →
  RC F w d.cells ((us.drop (k * es)).take es) ∧ ((us.drop (k * es)).take es).length = es
 | [], _, k, d, _, hk => by simp at hk
 | d0 :: ds, us, 0, d, h, hk => by
  obtain ⟨u, us2, h1, h2, h3, h4⟩ := h.cons
  simp at hk; subst hk; subst h1; subst h2
  simp [h3]
 | d0 :: ds, us, k + 1, d, h, hk => by
  obtain ⟨u, us2, h1, h2, h3, h4⟩ := h.cons
  have := RE.at (l := ds) k d h4 (by simpa using hk)
  subst h1
  have e : (k + 1) * es = u.length + k * es := by rw [Nat.add_mul, h2]; omega
  rw [e, ← List.drop_drop, List.drop_left]
  exact this

theorem RE.set {F : Nat → Prop} {w : World} {es : Nat} : ∀ {l : List D} {us : List Value} (k : Nat) (d : D) (u : List Value), RE F w es l us → k < l.length → RC F w d.cells u → u.length = es →
  RE F w es (l.set k d) (us.take (k * es) ++ u ++ us.drop (k * es + es))
 | [], _, k, _, _, _, hk, _, _ => by simp at hk
 | d0 :: ds, us, 0, d, u, h, hk, hc, hl => by
  obtain ⟨u0, us2, h1, h2, h3, h4⟩ := h.cons
  subst h1
  have e : (u0 ++ us2).drop (0 * es + es) = us2 := by rw [Nat.zero_mul, Nat.zero_add, ← h2, List.drop_left]
  rw [e]
  simp only [Nat.zero_mul, List.take_zero, List.nil_append, List.set_cons_zero]
  exact RE.mk hl hc h4
 | d0 :: ds, us, k + 1, d, u, h, hk, hc, hl => by
  obtain ⟨u0, us2, h1, h2, h3, h4⟩ := h.cons
  have ih := RE.set (l := ds) k d u h4 (by simpa using hk) hc hl
  subst h1
  have e : (k + 1) * es = u0.length + k * es := by rw [Nat.add_mul, h2]; omega
  have e2 : (k + 1) * es + es = u0.length + (k * es + es) := by omega
  rw [e2, e, List.take_length_add_append, List.drop_length_add_append, List.append_assoc, List.append_assoc, List.set_cons_succ]
  rw [List.append_assoc] at ih
  exact RE.mk h2 h3 ih

inductive AV where
 | dat (d : D)
 | own (o : Nat)                    -- the slice over the whole of object 'o' (an array of the call's own)
 | ref (o : Nat) (i : Nat)          -- a pointer to cell i of object 'o'
 | eref (o : Nat) (es k j : Nat)    -- a pointer to cell j of element k of the array 'o'
 | row (o g k j : Nat)              -- the slice in cell j of element k of the table 'o', whose rows lie as 'g' says
 | rref (o g k j es i c : Nat)      -- a pointer to cell c of element i of that row
 | vw (o g k j es lo n : Nat)       -- a part of that row: n elements from lo on
 | fp (l : List D)                  -- a pointer into frozen memory: the cells from there on
 | aggv (l : List AV)
 | tup (l : List AV)
 | fn (f : Nat) (l : List AV)
 | und
 | unk

inductive Obj' where
 | box (T : TypeId) (l : List AV)
 | arr (e : TypeId) (es : Nat) (l : List D)
 | bld (T E : TypeId) (l : List UInt8) (g : Nat)
 | mp (t : TypeId) (l : List ((Int × Int) × D))
 | tab (e : TypeId) (es : Nat) (mask : List (Option TypeId)) (l : List D) (g : Nat) (hole : Option (Nat × Nat))

structure KV where
 v : Value
 r : Nat → Nat → Value
instance : Coe KV Value := ⟨KV.v⟩
abbrev Kap := Nat → KV

mutual
def RV (κ : Kap) (F : Nat → Prop) (w : World) : AV → Value → Prop
 | .dat d, v => RD F w d v
 | .own o, v => v = (κ o).v ∧ one v = true
 | .ref o i, v => ∃ b, (κ o).v = .pointer (some ⟨b, 0, none⟩) ∧ v = .pointer (some ⟨b, i, none⟩)
 | .eref o es k j, v => ∃ b f n cap, (κ o).v = .slice (some ⟨b, f, none⟩) n cap ∧ v = .pointer (some ⟨b, f + (k * es + j), none⟩)
 | .row _ g k j, v => v = (κ g).r k j ∧ one v = true
 | .rref _ g k j es i c, v => ∃ b f n cap, (κ g).r k j = .slice (some ⟨b, f, none⟩) n cap ∧ v = .pointer (some ⟨b, f + (i * es + c), none⟩)
 | .vw _ g k j es lo n, v => ∃ a m cap, (κ g).r k j = .slice a m cap ∧ m ≤ cap ∧ lo + n ≤ m ∧ (n = 0 ∨ ∃ b f, a = some ⟨b, f, none⟩) ∧ v = .slice (if cap = lo then a else a.map (·.add (lo * es))) n (cap - lo)
 | .fp ds, v => ∃ b off us, v = .pointer (some ⟨b, off, none⟩) ∧ F b ∧ (∀ j u, us[j]? = some u → w.cell? ⟨b, off + j, none⟩ = some u) ∧ RC F w ds us
 | .aggv l, v => ∃ cs : List Value, v = .agg cs.toArray ∧ RVc κ F w l cs
 | .tup l, v => ∃ cs : List Value, v = .tuple cs.toArray ∧ RVs κ F w l cs
 | .fn f l, v => ∃ cs : List Value, v = .func (.func f) #[] cs.toArray ∧ RVs κ F w l cs
 | .und, v => v = undef
 | .unk, _ => True
def RVs (κ : Kap) (F : Nat → Prop) (w : World) : List AV → List Value → Prop
 | [], us => us = []
 | d :: ds, us => ∃ u us', us = u :: us' ∧ RV κ F w d u ∧ RVs κ F w ds us'
def RVc (κ : Kap) (F : Nat → Prop) (w : World) : List AV → List Value → Prop
 | [], us => us = []
 | d :: ds, us => ∃ u us', us = u :: us' ∧ one u = true ∧ RV κ F w d u ∧ RVc κ F w ds us'
end

mutual
def NB (U : Nat → Prop) : AV → Prop
 | .own o | .ref o _ | .eref o _ _ _ => U o
 | .row o g _ _ | .rref o g _ _ _ _ _ | .vw o g _ _ _ _ _ => U o ∧ U g
 | .aggv l | .tup l | .fn _ l => NBs U l
 | _ => True
def NBs (U : Nat → Prop) : List AV → Prop
 | [] => True
 | x :: l => NB U x ∧ NBs U l
end

mutual
theorem NB.mono {U U' : Nat → Prop} (h : ∀ o, U o → U' o) : ∀ {x : AV}, NB U x → NB U' x
 | .dat _, hx => by unfold NB; trivial
 | .own o, hx => by unfold NB at hx ⊢; exact h o hx
 | .ref o _, hx => by unfold NB at hx ⊢; exact h o hx
 | .eref o _ _ _, hx => by unfold NB at hx ⊢; exact h o hx
 | .row o g _ _, hx => by unfold NB at hx ⊢; exact ⟨h o hx.1, h g hx.2⟩
 | .rref o g _ _ _ _ _, hx => by unfold NB at hx ⊢; exact ⟨h o hx.1, h g hx.2⟩
 | .vw o g _ _ _ _ _, hx => by unfold NB at hx ⊢; exact ⟨h o hx.1, h g hx.2⟩
 | .fp _, hx => by unfold NB; trivial
 | .aggv l, hx => by unfold NB at hx ⊢; exact NBs.mono h hx
 | .tup l, hx => by unfold NB at hx ⊢; exact NBs.mono h hx
 | .fn _ l, hx => by unfold NB at hx ⊢; exact NBs.mono h hx
 | .und, hx => by unfold NB; trivial
 | .unk, hx => by unfold NB; trivial
theorem NBs.mono {U U' : Nat → Prop} (h : ∀ o, U o → U' o) : ∀ {l : List AV}, NBs U l → NBs U' l
 | [], _ => by unfold NBs; trivial
 | x :: l, hx => by unfold NBs at hx ⊢; exact ⟨NB.mono h hx.1, NBs.mono h hx.2⟩
end

mutual
theorem RV.mono {κ κ' : Kap} {F F' : Nat → Prop} {w w' : World} {U : Nat → Prop} (hκ : ∀ o, U o → κ' o = κ o) (hF : ∀ b, F b → F' b) (hb : ∀ b, F b → w'.heap[b]? = w.heap[b]?) :
  ∀ {x : AV} {v : Value}, NB U x → RV κ F w x v → RV κ' F' w' x v
 | .dat d, v, _, h => by unfold RV at h ⊢; exact RD.mono hF hb h
 | .own o, v, hn, h => by unfold NB at hn; unfold RV at h ⊢; rw [hκ o hn]; exact h
 | .ref o i, v, hn, h => by unfold NB at hn; unfold RV at h ⊢; rw [hκ o hn]; exact h
 | .eref o es k j, v, hn, h => by unfold NB at hn; unfold RV at h ⊢; rw [hκ o hn]; exact h
 | .row o g k j, v, hn, h => by unfold NB at hn; unfold RV at h ⊢; rw [hκ g hn.2]; exact h
 | .rref o g k j es i c, v, hn, h => by unfold NB at hn; unfold RV at h ⊢; rw [hκ g hn.2]; exact h
 | .vw o g k j es lo n, v, hn, h => by unfold NB at hn; unfold RV at h ⊢; rw [hκ g hn.2]; exact h
 | .fp ds, v, _, h => by
  unfold RV at h ⊢
  obtain ⟨b, off, us, h1, h2, h3, h4⟩ := h
  exact ⟨b, off, us, h1, hF b h2, fun j u hj => (World.cell?_of_block (hb b h2)).trans (h3 j u hj), RC.mono hF hb h4⟩
 | .aggv l, v, hn, h => by
  unfold NB at hn; unfold RV at h ⊢
  obtain ⟨cs, h1, h2⟩ := h
  exact ⟨cs, h1, RVc.mono hκ hF hb hn h2⟩
 | .tup l, v, hn, h => by
  unfold NB at hn; unfold RV at h ⊢
  obtain ⟨cs, h1, h2⟩ := h
  exact ⟨cs, h1, RVs.mono hκ hF hb hn h2⟩
 | .fn f l, v, hn, h => by
  unfold NB at hn; unfold RV at h ⊢
  obtain ⟨cs, h1, h2⟩ := h
  exact ⟨cs, h1, RVs.mono hκ hF hb hn h2⟩
 | .und, v, _, h => by unfold RV at h ⊢; exact h
 | .unk, v, _, h => by unfold RV; trivial
theorem RVs.mono {κ κ' : Kap} {F F' : Nat → Prop} {w w' : World} {U : Nat → Prop} (hκ : ∀ o, U o → κ' o = κ o) (hF : ∀ b, F b → F' b) (hb : ∀ b, F b → w'.heap[b]? = w.heap[b]?) :
  ∀ {l : List AV} {us : List Value}, NBs U l → RVs κ F w l us → RVs κ' F' w' l us
 | [], _, _, h => by unfold RVs at h ⊢; exact h
 | d :: ds, us, hn, h => by
  unfold NBs at hn; unfold RVs at h ⊢
  obtain ⟨u, us', h1, h3, h4⟩ := h
  exact ⟨u, us', h1, RV.mono hκ hF hb hn.1 h3, RVs.mono hκ hF hb hn.2 h4⟩
theorem RVc.mono {κ κ' : Kap} {F F' : Nat → Prop} {w w' : World} {U : Nat → Prop} (hκ : ∀ o, U o → κ' o = κ o) (hF : ∀ b, F b → F' b) (hb : ∀ b, F b → w'.heap[b]? = w.heap[b]?) :
  ∀ {l : List AV} {us : List Value}, NBs U l → RVc κ F w l us → RVc κ' F' w' l us
 | [], _, _, h => by unfold RVc at h ⊢; exact h
 | d :: ds, us, hn, h => by
  unfold NBs at hn; unfold RVc at h ⊢
  obtain ⟨u, us', h1, h2, h3, h4⟩ := h
  exact ⟨u, us', h1, h2, RV.mono hκ hF hb hn.1 h3, RVc.mono hκ hF hb hn.2 h4⟩
end

end Go.Ab
