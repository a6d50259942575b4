/- My own layer: sorting, second part: regions, swaps, insertion sort. -/
import Derived.Test.YtaegkodcjpgndaaGreatAbPdq
namespace Go.Ab.Pdq
set_option linter.unusedVariables false
set_option linter.unusedSimpArgs false
set_option linter.unusedVariables false
variable {α β : Type}
def At (l : List α) (i : Int) (x : α) : Prop := 0 ≤ i ∧ l[i.toNat]? = some x
theorem At.lt {l : List α} {i : Int} {x : α} (h : At l i x) : i < l.length := by
 have := get_lt h.2; have := h.1; omega
theorem At.uniq {l : List α} {i : Int} {x y : α} (h : At l i x) (h' : At l i y) : x = y := by
 have := h.2.symm.trans h'.2; cases this; rfl
theorem At.ex {l : List α} {i : Int} (h0 : 0 ≤ i) (h : i < l.length) : ∃ x, At l i x := by
 obtain ⟨x, hx⟩ := get_ex (l := l) (i := i.toNat) (by omega); exact ⟨x, h0, hx⟩
theorem At.mem {l : List α} {i : Int} {x : α} (h : At l i x) : x ∈ l := List.mem_of_getElem? h.2
def swp (l : List α) (i j : Int) (x y : α) : List α := (l.set i.toNat y).set j.toNat x
theorem At.swp {l : List α} {i j : Int} {x y : α} (hi : At l i x) (hj : At l j y) {k : Int} {z : α} (h : At (swp l i j x y) k z) :
  (k = j ∧ z = x) ∨ (k ≠ j ∧ k = i ∧ z = y) ∨ (k ≠ i ∧ k ≠ j ∧ At l k z) := by
 obtain ⟨h0, h⟩ := h
 have li := hi.lt; have lj := hj.lt; have i0 := hi.1; have j0 := hj.1
 unfold Pdq.swp at h
 by_cases e1 : k = j
 ·subst e1
  rw [List.getElem?_set_self (by simp; omega)] at h
  cases h; exact .inl ⟨rfl, rfl⟩
 ·rw [List.getElem?_set_ne (by omega)] at h
  by_cases e2 : k = i
  ·subst e2
   rw [List.getElem?_set_self (by omega)] at h
   cases h; exact .inr (.inl ⟨e1, rfl, rfl⟩)
  ·rw [List.getElem?_set_ne (by omega)] at h
   exact .inr (.inr ⟨e2, e1, h0, h⟩)
theorem swp_out {l : List α} {i j : Int} {x y : α} (hi : 0 ≤ i) (hj : 0 ≤ j) {k : Int} {z : α} (h1 : k ≠ i) (h2 : k ≠ j) : At (swp l i j x y) k z ↔ At l k z := by
 unfold At swp
 constructor
 ·rintro ⟨a, b⟩
  rw [List.getElem?_set_ne (by omega), List.getElem?_set_ne (by omega)] at b
  exact ⟨a, b⟩
 ·rintro ⟨a, b⟩
  refine ⟨a, ?_⟩
  rw [List.getElem?_set_ne (by omega), List.getElem?_set_ne (by omega)]; exact b
theorem At.swp1 {l : List α} {i j : Int} {x y : α} (hi : At l i x) (hj : At l j y) : At (Pdq.swp l i j x y) i y := by
 refine ⟨hi.1, ?_⟩
 unfold Pdq.swp
 have li := hi.lt; have i0 := hi.1; have j0 := hj.1
 by_cases e : i = j
 ·subst e
  rw [List.getElem?_set_self (by simp; omega)]; rw [hi.uniq hj]
 ·rw [List.getElem?_set_ne (by omega), List.getElem?_set_self (by omega)]
structure R (a b : Int) (l l' : List α) : Prop where
 perm : l'.Perm l
 out : ∀ i x, i < a ∨ b ≤ i → (At l' i x ↔ At l i x)
 inn : ∀ i x, a ≤ i → i < b → At l' i x → ∃ j, a ≤ j ∧ j < b ∧ At l j x
theorem R.len {a b : Int} {l l' : List α} (h : R a b l l') : l'.length = l.length := h.perm.length_eq
theorem R.refl {a b : Int} {l : List α} : R a b l l := ⟨.refl _, fun _ _ _ => .rfl, fun i x h1 h2 h => ⟨i, h1, h2, h⟩⟩
theorem R.trans {a b : Int} {l l' l'' : List α} (h : R a b l l') (h' : R a b l' l'') : R a b l l'' := by
 refine ⟨h'.perm.trans h.perm, fun i x hi => (h'.out i x hi).trans (h.out i x hi), fun i x h1 h2 hx => ?_⟩
 obtain ⟨j, g1, g2, g3⟩ := h'.inn i x h1 h2 hx
 exact h.inn j x g1 g2 g3
theorem R.wide {a b a' b' : Int} {l l' : List α} (h : R a b l l') (ha : a' ≤ a) (hb : b ≤ b') : R a' b' l l' := by
 refine ⟨h.perm, fun i x hi => h.out i x (by omega), fun i x h1 h2 hx => ?_⟩
 by_cases hc : i < a ∨ b ≤ i
 ·exact ⟨i, h1, h2, (h.out i x hc).1 hx⟩
 ·obtain ⟨j, g1, g2, g3⟩ := h.inn i x (by omega) (by omega) hx
  exact ⟨j, by omega, by omega, g3⟩
theorem R.swp {a b i j : Int} {l : List α} {x y : α} (hi : At l i x) (hj : At l j y) (h1 : a ≤ i) (h2 : i < b) (h3 : a ≤ j) (h4 : j < b) : R a b l (Pdq.swp l i j x y) := by
 have li := hi.lt; have lj := hj.lt; have i0 := hi.1; have j0 := hj.1
 refine ⟨?_, fun k z hk => swp_out i0 j0 (by omega) (by omega), fun k z g1 g2 hz => ?_⟩
 ·have e1 := hi.2; have e2 := hj.2
  obtain ⟨b1, e1⟩ := List.getElem?_eq_some_iff.1 e1
  obtain ⟨b2, e2⟩ := List.getElem?_eq_some_iff.1 e2
  have := List.set_set_perm (as := l) b1 b2
  rw [e1, e2] at this
  exact this
 ·rcases hi.swp hj hz with ⟨rfl, rfl⟩ | ⟨_, rfl, rfl⟩ | ⟨_, _, h⟩
  ·exact ⟨i, h1, h2, hi⟩
  ·exact ⟨j, h3, h4, hj⟩
  ·exact ⟨k, g1, g2, h⟩
structure Lt (cmp : α → α → Option Int) (le : α → α → Prop) : Prop where
 tot : ∀ x y, le x y ∨ le y x
 trans : ∀ {x y z}, le x y → le y z → le x z
 hc : ∀ x y, ∃ c, cmp x y = some c ∧ (c < 0 ↔ ¬ le y x)
def Srt (le : α → α → Prop) (l : List α) (a b : Int) : Prop := ∀ i j x y, a ≤ i → i < j → j < b → At l i x → At l j y → le x y
section
variable {cmp : α → α → Option Int} {le : α → α → Prop} (h : Lt cmp le)
theorem Tot.idxA {l : List α} {i : Int} {k : α → Option β} {Q : β → Prop} (h0 : 0 ≤ i) (h : i < l.length) (hk : ∀ x, At l i x → Tot (k x) Q) : Tot ((Ab.idx l i).bind k) Q := .idx h0 h fun x hx => hk x ⟨h0, hx⟩
include h
theorem Lt.refl (x : α) : le x x := by rcases h.tot x x with h | h <;> exact h
theorem Lt.not {x y : α} (hn : ¬ le y x) : le x y := by
 rcases h.tot x y with h1 | h1
 ·exact h1
 ·exact absurd h1 hn
theorem Tot.cm {x y : α} {k : Int → Option β} {Q : β → Prop} (hk : ∀ c, (c < 0 ↔ ¬ le y x) → Tot (k c) Q) : Tot ((cmp x y).bind k) Q := by
 obtain ⟨c, h1, h2⟩ := h.hc x y
 exact .eq h1 (hk c h2)
theorem condLt {c : Prop} [Decidable c] {l : List α} {i j : Int} (hi : c → 0 ≤ i ∧ i < l.length) (hj : c → 0 ≤ j ∧ j < l.length) :
  Tot (if decide c = true then (idx l i).bind fun e2 => (idx l j).bind fun e3 => (cmp e2 e3).bind fun r1 => some (decide (r1 < 0)) else some false)
   fun b => (b = true → c ∧ ∃ x y, At l i x ∧ At l j y ∧ ¬ le y x) ∧ (b = false → c → ∃ x y, At l i x ∧ At l j y ∧ le y x) := by
 refine .iteP (fun hc => ?_) (fun hc => .ok ⟨fun e => (by cases e), fun _ h => absurd h hc⟩)
 refine Tot.idxA (hi hc).1 (hi hc).2 fun x hx => Tot.idxA (hj hc).1 (hj hc).2 fun y hy => Tot.cm h fun r hr => .ok ⟨fun e => ⟨hc, x, y, hx, hy, hr.1 (of_decide_eq_true e)⟩, fun e _ => ⟨x, y, hx, hy, ?_⟩⟩
 have := of_decide_eq_false e
 rw [hr] at this
 exact Classical.not_not.1 this
theorem condGe {c : Prop} [Decidable c] {l : List α} {i j : Int} (hi : c → 0 ≤ i ∧ i < l.length) (hj : c → 0 ≤ j ∧ j < l.length) :
  Tot (if decide c = true then (idx l i).bind fun e2 => (idx l j).bind fun e3 => (cmp e2 e3).bind fun r1 => some (!(decide (r1 < 0))) else some false)
   fun b => (b = true → c ∧ ∃ x y, At l i x ∧ At l j y ∧ le y x) ∧ (b = false → c → ∃ x y, At l i x ∧ At l j y ∧ ¬ le y x) := by
 refine .iteP (fun hc => ?_) (fun hc => .ok ⟨fun e => (by cases e), fun _ h => absurd h hc⟩)
 refine Tot.idxA (hi hc).1 (hi hc).2 fun x hx => Tot.idxA (hj hc).1 (hj hc).2 fun y hy => Tot.cm h fun r hr => .ok ⟨fun e => ⟨hc, x, y, hx, hy, ?_⟩, fun e _ => ⟨x, y, hx, hy, ?_⟩⟩
 ·have := of_decide_eq_false ((Bool.not_eq_true' _).mp e)
  rw [hr] at this
  exact Classical.not_not.1 this
 ·exact hr.1 (of_decide_eq_true (by simpa using e))
omit h in
theorem Tot.swap {l : List α} {i j : Int} {k : α → α → Option β} {Q : β → Prop} (hi : 0 ≤ i ∧ i < l.length) (hj : 0 ≤ j ∧ j < l.length) (hk : ∀ x y, At l i x → At l j y → Tot (k y x) Q) :
  Tot ((idx l j).bind fun e4 => (idx l i).bind fun e5 => (idx l i).bind fun _ => (idx (l.set i.toNat e4) j).bind fun _ => k e4 e5) Q :=
 Tot.idxA hj.1 hj.2 fun y hy => Tot.idxA hi.1 hi.2 fun x hx => Tot.idxA hi.1 hi.2 fun _ _ => Tot.idxA hj.1 (by simp; omega) fun _ _ => hk x y hx hy

theorem ins1 {a v : Int} {l0 : List α} (ha : 0 ≤ a) (hv : a ≤ v) (hl : v < l0.length) (hlen : l0.length ≤ 4294967296) (hs : Srt le l0 a v) :
  Tot (iter (insertionSort_L1 a cmp) (v, l0)) fun l => R a (v + 1) l0 l ∧ Srt le l a (v + 1) := by
 refine Tot.iter (fun m s => s.1 = a + m ∧ s.1 ≤ v ∧ R a (v + 1) l0 s.2 ∧ ∀ i j x y, a ≤ i → i < j → j ≤ v → j ≠ s.1 → At s.2 i x → At s.2 j y → le x y) (n := (v - a).toNat) ⟨by dsimp only; omega, by dsimp only; omega, R.refl, fun i j x y h1 h2 h3 h4 hx hy => hs i j x y h1 h2 (by dsimp only at h4; omega) hx hy⟩ ?_
 rintro m ⟨v1, l⟩ ⟨h1, h2, h3, h4⟩
 dsimp only at h1 h2 h3 h4
 have hll := h3.len
 unfold insertionSort_L1
 dsimp only
 simp (disch := omega) only [w64_id]
 refine Tot.call (condLt h (fun _ => by omega) (fun _ => by omega)) fun b hb => .ite (fun e => ?_) (fun e => .dn ⟨h3, ?_⟩)
 ·obtain ⟨hc, p, q, hp, hq, hlt⟩ := hb.1 e
  refine Tot.swap (by omega) (by omega) fun x y hx hy => .nx ?_
  cases hx.uniq hp; cases hy.uniq hq
  refine ⟨m - 1, by omega, by dsimp only; omega, by dsimp only; omega, h3.trans (.swp hx hy (by omega) (by omega) (by omega) (by omega)), ?_⟩
  have hle := h.not hlt
  intro i j u z g1 g2 g3 g4 hu hz
  dsimp only at g4 hu hz
  rcases hx.swp hy hu with ⟨rfl, rfl⟩ | ⟨_, rfl, rfl⟩ | ⟨i1, i2, hu'⟩ <;> rcases hx.swp hy hz with ⟨rfl, rfl⟩ | ⟨_, rfl, rfl⟩ | ⟨j1, j2, hz'⟩
  all_goals first | (exfalso; omega) | exact hle | exact h4 _ _ _ _ (by omega) (by omega) (by omega) (by omega) hu' hz' | exact h4 _ _ _ _ (by omega) (by omega) (by omega) (by omega) hx hz' | exact h4 _ _ _ _ (by omega) (by omega) (by omega) (by omega) hy hz' | exact h4 _ _ _ _ (by omega) (by omega) (by omega) (by omega) hu' hy | exact h4 _ _ _ _ (by omega) (by omega) (by omega) (by omega) hu' hx
 ·intro i j u z g1 g2 g3 hu hz
  by_cases hj : j = v1
  ·subst hj
   obtain ⟨x, y, hx, hy, hle⟩ := hb.2 e (by omega)
   cases hz.uniq hx
   by_cases hi : i = j - 1
   ·subst hi; cases hu.uniq hy; exact hle
   ·exact h.trans (h4 i (j - 1) _ _ g1 (by omega) (by omega) (by omega) hu hy) hle
  ·exact h4 i j _ _ g1 g2 (by omega) hj hu hz
theorem insertion {a b : Int} {l0 : List α} (ha : 0 ≤ a) (hab : a ≤ b) (hl : b ≤ l0.length) (hlen : l0.length ≤ 4294967296) :
  Tot (insertionSort l0 a b cmp) fun l => R a b l0 l ∧ Srt le l a b := by
 unfold insertionSort
 simp (disch := omega) only [w64_id]
 refine Tot.iter (fun m s => s.1 + m = max b (a + 1) ∧ a + 1 ≤ s.1 ∧ R a b l0 s.2 ∧ Srt le s.2 a s.1) (n := (b - (a + 1)).toNat) ⟨by dsimp only; omega, by dsimp only; omega, R.refl, fun i j x y g1 g2 g3 _ _ => by dsimp only at g3; omega⟩ ?_
 rintro m ⟨v, l⟩ ⟨h1, h2, h3, h4⟩
 dsimp only at h1 h2 h3 h4
 have hll := h3.len
 unfold insertionSort_L2
 dsimp only
 refine .iteP (fun hc => ?_) (fun hc => .dn ⟨h3, fun i j x y g1 g2 g3 => h4 i j x y g1 g2 (by omega)⟩)
 refine Tot.call (ins1 h ha (by omega) (by omega) (by omega) h4) fun l' hl' => ?_
 simp (disch := omega) only [w64_id]
 exact .nx ⟨m - 1, by omega, by dsimp only; omega, by dsimp only; omega, h3.trans (hl'.1.wide (by omega) (by omega)), hl'.2⟩
end
end Go.Ab.Pdq
