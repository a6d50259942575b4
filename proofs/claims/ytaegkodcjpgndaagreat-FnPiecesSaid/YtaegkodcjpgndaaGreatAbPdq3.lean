/- My own layer: sorting, third part: heap sort. -/
import Derived.Test.YtaegkodcjpgndaaGreatAbPdq2
namespace Go.Ab.Pdq
set_option linter.unusedVariables false
set_option linter.unusedSimpArgs false
set_option linter.unusedVariables false
variable {α β : Type}
def Hp (le : α → α → Prop) (l : List α) (f lo hi r : Int) : Prop := ∀ i c x y, lo ≤ i → i ≠ r → (c = 2 * i + 1 ∨ c = 2 * i + 2) → c < hi → At l (f + i) x → At l (f + c) y → le y x
def Gp (le : α → α → Prop) (l : List α) (f lo hi r : Int) : Prop := ∀ p c x y, lo ≤ p → (r = 2 * p + 1 ∨ r = 2 * p + 2) → (c = 2 * r + 1 ∨ c = 2 * r + 2) → c < hi → At l (f + p) x → At l (f + c) y → le y x
section
variable {cmp : α → α → Option Int} {le : α → α → Prop} (h : Lt cmp le)
include h
theorem sift {f lo hi r : Int} {l0 : List α} (hf : 0 ≤ f) (hlo : 0 ≤ lo) (hr : lo ≤ r) (hr2 : r ≤ 4294967296) (hl : f + hi ≤ l0.length) (hhi : 0 ≤ hi) (hlen : l0.length ≤ 4294967296) (h1 : Hp le l0 f lo hi r) (h2 : Gp le l0 f lo hi r) :
  Tot (siftDown l0 r hi f cmp) fun l => R f (f + hi) l0 l ∧ Hp le l f lo hi (-1) := by
 unfold siftDown
 refine Tot.iter (fun m s => m = (hi - s.1).toNat ∧ lo ≤ s.1 ∧ s.1 ≤ 4294967296 ∧ R f (f + hi) l0 s.2 ∧ Hp le s.2 f lo hi s.1 ∧ Gp le s.2 f lo hi s.1) (n := (hi - r).toNat) ⟨rfl, hr, hr2, R.refl, h1, h2⟩ ?_
 rintro m ⟨v, l⟩ ⟨g1, g2, g2', g3, g4, g5⟩
 dsimp only at g1 g2 g2' g3 g4 g5
 have hll := g3.len
 unfold siftDown_L1
 dsimp only
 simp (disch := omega) only [w64_id]
 refine .iteP (fun hc => .dn ⟨g3, fun i c x y k1 k2 k3 k4 hx hy => ?_⟩) (fun hc => ?_)
 ·refine g4 i c x y k1 (fun e => ?_) k3 k4 hx hy
  omega
 refine Tot.call (P := fun (c : Int) => (c = 2 * v + 1 ∨ c = 2 * v + 2) ∧ c < hi ∧ ∀ c' x y, (c' = 2 * v + 1 ∨ c' = 2 * v + 2) → c' < hi → At l (f + c') x → At l (f + c) y → le x y) ?_ fun c hcc => ?_
 ·refine Tot.call (condLt h (fun _ => by omega) (fun _ => by omega)) fun b hb => .ite (fun e => ?_) (fun e => ?_)
  ·obtain ⟨hc2, p, q, hp, hq, hlt⟩ := hb.1 e
   refine .ok ⟨.inr (by omega), by omega, fun c' x y e1 e2 hx hy => ?_⟩
   rw [show f + (2 * v + 1) + 1 = f + (2 * v + 1 + 1) by omega] at hq
   cases hy.uniq hq
   rcases e1 with rfl | rfl
   ·cases hx.uniq hp; exact h.not hlt
   ·rw [show f + (2 * v + 2) = f + (2 * v + 1 + 1) by omega] at hx
    cases hx.uniq hq; exact h.refl _
  ·refine .ok ⟨.inl rfl, by omega, fun c' x y e1 e2 hx hy => ?_⟩
   rcases e1 with rfl | rfl
   ·cases hx.uniq hy; exact h.refl _
   ·obtain ⟨p, q, hp, hq, hle⟩ := hb.2 e (by omega)
    rw [show f + (2 * v + 1) + 1 = f + (2 * v + 2) by omega] at hq
    cases hx.uniq hq; cases hy.uniq hp; exact hle
 ·obtain ⟨c1, c2, c3⟩ := hcc
  simp (disch := omega) only [w64_id]
  refine Tot.idxA (by omega) (by omega) fun x hx => Tot.idxA (by omega) (by omega) fun y hy => Tot.cm h fun r4 hr4 => .iteN (fun hn => .dn ⟨g3, fun i c' u z k1 k2 k3 k4 hu hz => ?_⟩) (fun hn => ?_)
  ·rw [hr4] at hn
   have hle := Classical.not_not.1 hn
   by_cases hi : i = v
   ·subst hi
    cases hu.uniq hx
    exact h.trans (c3 c' _ _ k3 k4 hz hy) hle
   ·exact g4 i c' u z k1 hi k3 k4 hu hz
  ·have hlt := h.not (hr4.1 hn)
   refine Tot.swap (by omega) (by omega) fun x' y' hx' hy' => .nx ?_
   cases hx.uniq hx'; cases hy.uniq hy'
   refine ⟨(hi - c).toNat, by omega, rfl, by dsimp only; omega, by dsimp only; omega, g3.trans (.swp hx hy (by omega) (by omega) (by omega) (by omega)), ?_, ?_⟩
   ·intro i c' u z k1 k2 k3 k4 hu hz
    dsimp only at k2 hu hz
    by_cases e0 : i = v
    ·subst e0
     cases hu.uniq (hx.swp1 hy)
     rcases hx.swp hy hz with ⟨e1, rfl⟩ | ⟨_, e1, rfl⟩ | ⟨_, _, hz'⟩
     ·exact hlt
     ·omega
     ·exact c3 c' _ _ k3 k4 hz' hy
    ·rcases hx.swp hy hu with ⟨e1, rfl⟩ | ⟨_, e1, rfl⟩ | ⟨_, _, hu'⟩
     ·omega
     ·omega
     ·rcases hx.swp hy hz with ⟨e1, rfl⟩ | ⟨_, e1, rfl⟩ | ⟨_, _, hz'⟩
      ·omega
      ·exact g5 i c u _ k1 (by omega) c1 c2 hu' hy
      ·exact g4 i c' u z k1 e0 k3 k4 hu' hz'
   ·intro p c' u z k1 k2 k3 k4 hu hz
    dsimp only at k2 k3 hu hz
    have e0 : p = v := by omega
    subst e0
    cases hu.uniq (hx.swp1 hy)
    rcases hx.swp hy hz with ⟨e1, rfl⟩ | ⟨_, e1, rfl⟩ | ⟨_, _, hz'⟩
    ·omega
    ·omega
    ·exact g4 c c' _ _ (by omega) (by omega) k3 k4 hy hz'
theorem heap_root {f hi : Int} {l : List α} (hf : 0 ≤ f) (hh : Hp le l f 0 hi (-1)) (hl : f + hi ≤ l.length) : ∀ (n : Nat) (j : Int) (x y : α), j = n → j < hi → At l f x → At l (f + j) y → le y x := by
 intro n
 induction n using Nat.strongRecOn with
 | _ n ih =>
  intro j x y e1 e2 hx hy
  by_cases h0 : j = 0
  ·subst h0
   rw [Int.add_zero] at hy
   cases hx.uniq hy; exact h.refl _
  ·obtain ⟨z, hz⟩ := At.ex (l := l) (i := f + (j - 1) / 2) (by omega) (by omega)
   exact h.trans (hh ((j - 1) / 2) j z y (by omega) (by omega) (by omega) e2 hz hy) (ih ((j - 1) / 2).toNat (by omega) ((j - 1) / 2) x z (by omega) (by omega) hx hz)
theorem heap {a b : Int} {l0 : List α} (ha : 0 ≤ a) (hab : a < b) (hl : b ≤ l0.length) (hlen : l0.length ≤ 4294967296) :
  Tot (heapSort l0 a b cmp) fun l => R a b l0 l ∧ Srt le l a b := by
 unfold heapSort
 refine Tot.chk (by decide) ?_
 simp (disch := omega) only [w64_id]
 have htd : (b - a - 1).tdiv 2 = (b - a - 1) / 2 := Int.tdiv_eq_ediv_of_nonneg (by omega)
 rw [htd]
 simp (disch := omega) only [w64_id]
 refine Tot.call (P := fun l => R a b l0 l ∧ Hp le l a 0 (b - a) (-1)) ?_ fun l1 hl1 => ?_
 ·refine Tot.iter (fun m s => s.1 + 1 = (m : Int) ∧ s.1 ≤ 4294967295 ∧ R a b l0 s.2 ∧ Hp le s.2 a (s.1 + 1) (b - a) (-1)) (n := ((b - a - 1) / 2 + 1).toNat) ⟨by dsimp only; omega, by dsimp only; omega, R.refl, fun i c x y k1 k2 k3 k4 _ _ => by dsimp only at k1; omega⟩ ?_
  rintro m ⟨v, l⟩ ⟨g1, g2, g3, g4⟩
  dsimp only at g1 g2 g3 g4
  have hll := g3.len
  unfold heapSort_L1
  dsimp only
  simp (disch := omega) only [w64_id]
  refine .iteP (fun hc => ?_) (fun hc => .dn ⟨g3, ?_⟩)
  ·refine Tot.call (sift h ha hc (Int.le_refl v) (by omega) (by omega) (by omega) (by omega) (fun i c x y k1 k2 k3 k4 hx hy => g4 i c x y (by omega) (by omega) k3 k4 hx hy) (fun p c x y k1 k2 => by omega)) fun l' hl' => ?_
   refine .nx ⟨m - 1, by omega, by dsimp only; omega, by dsimp only; omega, g3.trans (hl'.1.wide (by omega) (by omega)), ?_⟩
   dsimp only
   rw [show v - 1 + 1 = v by omega]
   exact hl'.2
  ·rw [show v + 1 = 0 by omega] at g4
   exact g4
 ·refine Tot.iter (fun m s => s.1 + 1 = (m : Int) ∧ s.1 < b - a ∧ R a b l0 s.2 ∧ Hp le s.2 a 0 (s.1 + 1) (-1) ∧ ∀ i j x y, a ≤ i → i < j → a + s.1 < j → j < b → At s.2 i x → At s.2 j y → le x y) (n := (b - a).toNat) ⟨by dsimp only; omega, by dsimp only; omega, hl1.1, ?_, fun i j x y k1 k2 k3 k4 _ _ => by dsimp only at k3; omega⟩ ?_
  ·dsimp only
   rw [show b - a - 1 + 1 = b - a by omega]
   exact hl1.2
  rintro m ⟨v, l⟩ ⟨g1, g2, g3, g4, g5⟩
  dsimp only at g1 g2 g3 g4 g5
  have hll := g3.len
  unfold heapSort_L2
  dsimp only
  simp (disch := omega) only [w64_id]
  refine .iteP (fun hc => ?_) (fun hc => .dn ⟨g3, fun i j x y k1 k2 k3 hx hy => g5 i j x y k1 k2 (by omega) k3 hx hy⟩)
  refine Tot.swap (by omega) (by omega) fun x y hx hy => ?_
  have hw := R.swp hx hy (a := a) (b := b) (by omega) (by omega) (by omega) (by omega)
  have hwl := hw.len
  have root : ∀ j z, a ≤ j → j ≤ a + v → At l j z → le z x := fun j z k1 k2 hz => heap_root h ha g4 (by omega) (j - a).toNat (j - a) x z (by omega) (by omega) hx (by rw [show a + (j - a) = j by omega]; exact hz)
  have D : ∀ i j u z, a ≤ i → i < j → a + v ≤ j → j < b → At (swp l a (a + v) x y) i u → At (swp l a (a + v) x y) j z → le u z := by
   intro i j u z k1 k2 k3 k4 hu hz
   rcases hx.swp hy hz with ⟨e1, rfl⟩ | ⟨_, e1, rfl⟩ | ⟨_, _, hz'⟩
   ·rcases hx.swp hy hu with ⟨e2, rfl⟩ | ⟨_, e2, rfl⟩ | ⟨_, _, hu'⟩
    ·omega
    ·exact root _ _ (by omega) (by omega) hy
    ·exact root _ _ (by omega) (by omega) hu'
   ·omega
   ·rcases hx.swp hy hu with ⟨e2, rfl⟩ | ⟨_, e2, rfl⟩ | ⟨_, _, hu'⟩
    ·exact g5 a j _ _ (by omega) (by omega) (by omega) k4 hx hz'
    ·exact g5 (a + v) j _ _ (by omega) (by omega) (by omega) k4 hy hz'
    ·exact g5 i j _ _ k1 k2 (by omega) k4 hu' hz'
  refine Tot.call (sift h (f := a) (lo := 0) (hi := v) (r := 0) (l0 := swp l a (a + v) x y) ha (by omega) (by omega) (by omega) (by omega) (by omega) (by omega) ?_ ?_) fun l' hl' => ?_
  ·intro i c u z k1 k2 k3 k4 hu hz
   rw [swp_out (by omega) (by omega) (by omega) (by omega)] at hu hz
   exact g4 i c u z k1 (by omega) k3 (by omega) hu hz
  ·intro p c u z k1 k2; omega
  ·refine .nx ⟨m - 1, by omega, by dsimp only; omega, by dsimp only; omega, (g3.trans hw).trans (hl'.1.wide (by omega) (by omega)), ?_, ?_⟩
   ·dsimp only
    rw [show v - 1 + 1 = v by omega]
    exact hl'.2
   ·intro i j u z k1 k2 k3 k4 hu hz
    dsimp only at k3 hu hz
    rw [hl'.1.out j z (by omega)] at hz
    by_cases hi : i < a + v
    ·obtain ⟨i', e1, e2, hu'⟩ := hl'.1.inn i u k1 hi hu
     exact D i' j u z e1 (by omega) (by omega) k4 hu' hz
    ·rw [hl'.1.out i u (by omega)] at hu
     exact D i j u z k1 k2 (by omega) k4 hu hz
end
end Go.Ab.Pdq
