/- My own layer: sorting, fifth part: a bounded insertion sort and partitions. -/
import Derived.Test.YtaegkodcjpgndaaGreatAbPdq4
namespace Go.Ab.Pdq
set_option linter.unusedVariables false
set_option linter.unusedSimpArgs false
set_option linter.unusedVariables false
variable {α β : Type}
def Low (le : α → α → Prop) (l : List α) (a b : Int) : Prop := 0 < a → ∀ y k x, At l (a - 1) y → a ≤ k → k < b → At l k x → le y x
theorem Low.R {le : α → α → Prop} {l l' : List α} {a b : Int} (h : Low le l a b) (hr : R a b l l') : Low le l' a b := by
 intro h0 y k x hy h1 h2 hx
 obtain ⟨j, g1, g2, g3⟩ := hr.inn k x h1 h2 hx
 exact h h0 y j x ((hr.out _ _ (by omega)).1 hy) g1 g2 g3
theorem Srt.R {le : α → α → Prop} {l l' : List α} {a b c d : Int} (h : Srt le l a b) (hr : R c d l l') (hc : b ≤ c) : Srt le l' a b :=
 fun i j x y h1 h2 h3 hx hy => h i j x y h1 h2 h3 ((hr.out _ _ (by omega)).1 hx) ((hr.out _ _ (by omega)).1 hy)
theorem dn_ok {A B : Type} {b : B} {P : A → Prop} {Q : B → Prop} (h : Q b) : (∀ a', (Lp.dn b : Lp A B) = .nx a' → P a') ∧ ∀ b', (Lp.dn b : Lp A B) = .dn b' → Q b' := ⟨fun _ e => (by cases e), fun _ e => (by cases e; exact h)⟩
section
variable {cmp : α → α → Option Int} {le : α → α → Prop} (h : Lt cmp le)
include h
theorem Srt.ext {l : List α} {a v : Int} (hs : Srt le l a v) {x y : α} (hy : At l (v - 1) y) (hx : At l v x) (hle : le y x) : Srt le l a (v + 1) := by
 intro i j u z h1 h2 h3 hu hz
 by_cases hj : j = v
 ·subst hj
  cases hz.uniq hx
  by_cases hi : i = j - 1
  ·subst hi; cases hu.uniq hy; exact hle
  ·exact h.trans (hs i (j - 1) _ _ h1 (by omega) (by omega) hu hy) hle
 ·exact hs i j _ _ h1 h2 (by omega) hu hz
theorem pis1 {l : List α} {a b v : Int} (ha : 0 ≤ a) (h1 : a + 1 ≤ v) (h2 : v ≤ b) (hl : b ≤ l.length) (hlen : l.length ≤ 4294967296) (hs : Srt le l a v) :
  Tot (iter (partialInsertionSort_L1 b cmp l) v) fun v5 => v ≤ v5 ∧ v5 ≤ b ∧ Srt le l a v5 ∧ (v5 < b → ∃ x y, At l v5 x ∧ At l (v5 - 1) y ∧ ¬ le y x) := by
 refine Tot.iter (fun m s => m = (b - s).toNat ∧ v ≤ s ∧ s ≤ b ∧ Srt le l a s) (n := (b - v).toNat) ⟨rfl, by omega, h2, hs⟩ ?_
 rintro m s ⟨g1, g2, g3, g4⟩
 unfold partialInsertionSort_L1
 simp (disch := omega) only [w64_id]
 refine Tot.call (condGe h (fun _ => by omega) (fun _ => by omega)) fun c hc => .ite (fun e => ?_) (fun e => .dn ⟨g2, g3, g4, fun hb => hc.2 e hb⟩)
 obtain ⟨hb, x, y, hx, hy, hle⟩ := hc.1 e
 exact .nx ⟨(b - (s + 1)).toNat, by omega, rfl, by omega, by omega, Srt.ext h g4 hy hx hle⟩
theorem pis2 {l0 : List α} {a v : Int} (ha : 0 ≤ a) (h1 : a < v) (hl : v ≤ l0.length) (hlen : l0.length ≤ 4294967296) (hlow : Low le l0 a v) (hs : ∀ i j x y, a ≤ i → i < j → j < v → j ≠ v - 1 → At l0 i x → At l0 j y → le x y) :
  Tot (iter (partialInsertionSort_L2 cmp) (v - 1, l0)) fun l => R a v l0 l ∧ Srt le l a v := by
 refine Tot.iter (fun m s => s.1 = a + m ∧ s.1 < v ∧ R a v l0 s.2 ∧ ∀ i j x y, a ≤ i → i < j → j < v → j ≠ s.1 → At s.2 i x → At s.2 j y → le x y) (n := (v - 1 - a).toNat) ⟨by dsimp only; omega, by dsimp only; omega, R.refl, hs⟩ ?_
 rintro m ⟨v1, l⟩ ⟨h1, h2, h3, h4⟩
 dsimp only at h1 h2 h3 h4
 have hll := h3.len
 have hlw := hlow.R h3
 unfold partialInsertionSort_L2
 dsimp only
 refine .iteP (fun hc => ?_) (fun hc => .dn ⟨h3, fun i j x y k1 k2 k3 hx hy => h4 i j x y k1 k2 k3 (by omega) hx hy⟩)
 simp (disch := omega) only [w64_id]
 refine Tot.idxA (by omega) (by omega) fun p hp => Tot.idxA (by omega) (by omega) fun q hq => Tot.cm h fun r hr => .iteN (fun hn => .dn ⟨h3, fun i j u z g1 g2 g3 hu hz => ?_⟩) (fun hn => ?_)
 ·rw [hr] at hn
  have hle := Classical.not_not.1 hn
  by_cases hj : j = v1
  ·subst hj
   cases hz.uniq hp
   by_cases hi : i = j - 1
   ·subst hi; cases hu.uniq hq; exact hle
   ·exact h.trans (h4 i (j - 1) _ _ g1 (by omega) (by omega) (by omega) hu hq) hle
  ·exact h4 i j _ _ g1 g2 (by omega) hj hu hz
 ·have hlt := hr.1 hn
  by_cases ha1 : v1 = a
  ·subst ha1
   exact absurd (hlw (by omega) _ v1 _ hq (by omega) (by omega) hp) hlt
  have hle := h.not hlt
  refine Tot.swap (by omega) (by omega) fun x y hx hy => .nx ?_
  cases hx.uniq hp; cases hy.uniq hq
  refine ⟨m - 1, by omega, by dsimp only; omega, by dsimp only; omega, h3.trans (.swp hx hy (by omega) (by omega) (by omega) (by omega)), ?_⟩
  intro i j u z g1 g2 g3 g4 hu hz
  dsimp only at g4 hu hz
  rcases hx.swp hy hu with ⟨rfl, rfl⟩ | ⟨_, rfl, rfl⟩ | ⟨i1, i2, hu'⟩ <;> rcases hx.swp hy hz with ⟨rfl, rfl⟩ | ⟨_, rfl, rfl⟩ | ⟨j1, j2, hz'⟩
  all_goals first | (exfalso; omega) | exact hle | exact h4 _ _ _ _ (by omega) (by omega) (by omega) (by omega) hu' hz' | exact h4 _ _ _ _ (by omega) (by omega) (by omega) (by omega) hx hz' | exact h4 _ _ _ _ (by omega) (by omega) (by omega) (by omega) hy hz' | exact h4 _ _ _ _ (by omega) (by omega) (by omega) (by omega) hu' hy | exact h4 _ _ _ _ (by omega) (by omega) (by omega) (by omega) hu' hx
theorem pis3 {l0 : List α} {v b : Int} (ha : 0 ≤ v) (h1 : v < b) (hl : b ≤ l0.length) (hlen : l0.length ≤ 4294967296) :
  Tot (iter (partialInsertionSort_L3 b cmp) (v + 1, l0)) fun l => R v b l0 l := by
 refine Tot.iter (fun m s => m = (b - s.1).toNat ∧ v < s.1 ∧ s.1 ≤ b ∧ R v b l0 s.2) (n := (b - (v + 1)).toNat) ⟨rfl, by dsimp only; omega, by dsimp only; omega, R.refl⟩ ?_
 rintro m ⟨v1, l⟩ ⟨h1, h2, h2', h3⟩
 dsimp only at h1 h2 h2' h3
 have hll := h3.len
 unfold partialInsertionSort_L3
 dsimp only
 refine .iteP (fun hc => ?_) (fun hc => .dn h3)
 simp (disch := omega) only [w64_id]
 refine Tot.idxA (by omega) (by omega) fun p hp => Tot.idxA (by omega) (by omega) fun q hq => Tot.cm h fun r hr => .iteN (fun hn => .dn h3) (fun hn => ?_)
 exact Tot.swap (by omega) (by omega) fun x y hx hy => .nx ⟨(b - (v1 + 1)).toNat, by omega, rfl, by dsimp only; omega, by dsimp only; omega, h3.trans (.swp hx hy (by omega) (by omega) (by omega) (by omega))⟩
theorem partial_ok {l0 : List α} {a b : Int} (ha : 0 ≤ a) (hab : a + 1 ≤ b) (hl : b ≤ l0.length) (hlen : l0.length ≤ 4294967296) (hlow : Low le l0 a b) :
  Tot (partialInsertionSort l0 a b cmp) fun r => R a b l0 r.2 ∧ (r.1 = true → Srt le r.2 a b) := by
 unfold partialInsertionSort
 refine Tot.flb ?_
 simp (disch := omega) only [w64_id]
 refine (Tot.iter (fun m s => m = (5 - s.2.1).toNat ∧ a + 1 ≤ s.1 ∧ s.1 ≤ b ∧ 0 ≤ s.2.1 ∧ R a b l0 s.2.2 ∧ Srt le s.2.2 a s.1) (Q := fun v => (∀ r : Bool × List α, v = .ret r → R a b l0 r.2 ∧ (r.1 = true → Srt le r.2 a b)) ∧ ∀ u, v = .go u → R a b l0 u) (n := 5) ⟨rfl, Int.le_refl _, hab, Int.le_refl _, R.refl, fun i j x y g1 g2 g3 _ _ => by dsimp only at g3; omega⟩ ?_).mono fun v hv => ⟨hv.1, fun u e => .ok ⟨hv.2 u e, fun e => by cases e⟩⟩
 rintro m ⟨v, v1, l⟩ ⟨g1, g2, g3, g4, g5, g6⟩
 dsimp only at g1 g2 g3 g4 g5 g6
 have hll := g5.len
 unfold partialInsertionSort_L4
 dsimp only
 refine .iteP (fun hc => ?_) (fun hc => .dn ⟨fun r e => (by cases e), fun u e => (by cases e; exact g5)⟩)
 refine Tot.flb (Tot.call (pis1 h ha g2 g3 (by omega) (by omega) g6) fun v5 ⟨k1, k2, k3, k4⟩ => .ite (fun e => .ret (dn_ok ⟨fun r e' => ?_, fun u e' => (by cases e')⟩)) (fun e => ?_))
 ·cases e'
  have : v5 = b := by simpa using e
  subst this
  exact ⟨g5, fun _ => k3⟩
 have hne : v5 < b := by
  have : v5 ≠ b := by simpa using e
  omega
 obtain ⟨x, y, hx, hy, hlt⟩ := k4 hne
 refine .iteP (fun _ => .ret (dn_ok ⟨fun r e' => ?_, fun u e' => (by cases e')⟩)) (fun _ => ?_)
 ·cases e'
  exact ⟨g5, fun e => by cases e⟩
 simp (disch := omega) only [w64_id]
 refine Tot.swap (by omega) (by omega) fun x' y' hx' hy' => ?_
 cases hx.uniq hx'; cases hy.uniq hy'
 have hw : R a b l (swp l v5 (v5 - 1) x y) := .swp hx hy (by omega) (by omega) (by omega) (by omega)
 have hwl := hw.len
 have hlow' := (hlow.R g5).R hw
 refine Tot.call (P := fun l3 => R a b l0 l3 ∧ Srt le l3 a v5) (.iteP (fun hc2 => ?_) (fun hc2 => .ok ⟨g5.trans hw, fun i j x y g1 g2 g3 _ _ => by omega⟩)) fun l3 hl3 => ?_
 ·refine Tot.call (pis2 h (l0 := swp l v5 (v5 - 1) x y) ha (by omega) (by omega) (by omega) (fun h0 z k u hz e1 e2 hu => hlow' h0 z k u hz e1 (by omega) hu) fun i j u z e1 e2 e3 e4 hu hz => ?_) fun l' hl' => .ok ⟨(g5.trans hw).trans (hl'.1.wide (by omega) (by omega)), hl'.2⟩
  rw [swp_out hx.1 hy.1 (by omega) (by omega)] at hu hz
  exact k3 i j u z e1 e2 e3 hu hz
 ·have h3l := hl3.1.len
  refine .iteP (fun hc2 => ?_) (fun hc2 => .go ?_)
  ·refine Tot.call (pis3 h (by omega) hne (by omega) (by omega)) fun l' hl' => .go ?_
   simp (disch := omega) only [w64_id]
   exact .nx ⟨(5 - (v1 + 1)).toNat, by omega, rfl, by dsimp only; omega, by dsimp only; omega, by dsimp only; omega, hl3.1.trans (hl'.wide (by omega) (by omega)), hl3.2.R hl' (by omega)⟩
  ·simp (disch := omega) only [w64_id]
   exact .nx ⟨(5 - (v1 + 1)).toNat, by omega, rfl, by dsimp only; omega, by dsimp only; omega, by dsimp only; omega, hl3.1, hl3.2⟩
theorem parteq_ok {l0 : List α} {a b pv : Int} (ha : 0 ≤ a) (h1 : a ≤ pv) (h2 : pv < b) (hl : b ≤ l0.length) (hlen : l0.length ≤ 4294967296) (hmin : ∀ p k x, At l0 pv p → a ≤ k → k < b → At l0 k x → le p x) :
  Tot (partitionEqual l0 a b pv cmp) fun r => a < r.1 ∧ r.1 ≤ b ∧ R a b l0 r.2 ∧ ∀ i j x y, a ≤ i → i < r.1 → a ≤ j → j < b → At r.2 i x → At r.2 j y → le x y := by
 unfold partitionEqual
 refine Tot.swap (i := a) (j := pv) (by omega) (by omega) fun x p hx hp => ?_
 have hw : R a b l0 (swp l0 a pv x p) := .swp hx hp (by omega) (by omega) (by omega) (by omega)
 have hap := hx.swp1 hp
 have hwl := hw.len
 simp (disch := omega) only [w64_id]
 refine Tot.call (P := fun (r : Int × List α) => a < r.1 ∧ r.1 ≤ b ∧ R a b l0 r.2 ∧ ∀ i x, a ≤ i → i < r.1 → At r.2 i x → le x p) ?_ fun ⟨mid, l⟩ hr => .ok ⟨hr.1, hr.2.1, hr.2.2.1, fun i j u z e1 e2 e3 e4 hu hz => h.trans (hr.2.2.2 i u e1 e2 hu) ?_⟩
 ·refine Tot.iter (fun m s => m = (s.2.1 + 1 - s.1).toNat ∧ a < s.1 ∧ s.1 ≤ s.2.1 + 1 ∧ s.2.1 < b ∧ R a b l0 s.2.2 ∧ At s.2.2 a p ∧ ∀ i x, a ≤ i → i < s.1 → At s.2.2 i x → le x p) (n := (b - 1 + 1 - (a + 1)).toNat) ⟨rfl, by dsimp only; omega, by dsimp only; omega, by dsimp only; omega, hw, hap, fun i u e1 e2 hu => ?_⟩ ?_
  ·dsimp only at e2 hu
   have : i = a := by omega
   subst this
   cases hu.uniq hap; exact h.refl _
  rintro m ⟨i, j, l⟩ ⟨g1, g2, g3, g4, g5, g6, g7⟩
  dsimp only at g1 g2 g3 g4 g5 g6 g7
  have hll := g5.len
  unfold partitionEqual_L3
  dsimp only
  refine Tot.call (P := fun (v4 : Int) => i ≤ v4 ∧ v4 ≤ j + 1 ∧ (∀ k x, a ≤ k → k < v4 → At l k x → le x p) ∧ (v4 ≤ j → ∀ x, At l v4 x → ¬ le x p)) ?_ fun v4 ⟨u1, u2, u3, u4⟩ => ?_
  ·refine Tot.iter (fun m s => m = (j + 1 - s).toNat ∧ i ≤ s ∧ s ≤ j + 1 ∧ ∀ k x, a ≤ k → k < s → At l k x → le x p) (n := (j + 1 - i).toNat) ⟨rfl, Int.le_refl _, g3, g7⟩ ?_
   rintro m s ⟨q1, q2, q3, q4⟩
   unfold partitionEqual_L1
   refine Tot.call (condGe h (fun _ => by omega) (fun _ => by omega)) fun c hc => .ite (fun e => ?_) (fun e => .dn ⟨q2, q3, q4, fun hj u hu => ?_⟩)
   ·obtain ⟨hj, u, z, hu, hz, hle⟩ := hc.1 e
    cases hu.uniq g6
    simp (disch := omega) only [w64_id]
    refine .nx ⟨(j + 1 - (s + 1)).toNat, by omega, rfl, by omega, by omega, fun k t e1 e2 ht => ?_⟩
    by_cases hk : k = s
    ·subst hk; cases ht.uniq hz; exact hle
    ·exact q4 k t e1 (by omega) ht
   ·obtain ⟨u', z, hu', hz, hle⟩ := hc.2 e hj
    cases hu'.uniq g6; cases hz.uniq hu; exact hle
  refine Tot.call (P := fun (v7 : Int) => v4 - 1 ≤ v7 ∧ v7 ≤ j ∧ (v4 ≤ v7 → ∀ x, At l v7 x → le x p)) ?_ fun v7 ⟨d1, d2, d3⟩ => ?_
  ·refine Tot.iter (fun m s => m = (s + 1 - v4).toNat ∧ v4 - 1 ≤ s ∧ s ≤ j) (n := (j + 1 - v4).toNat) ⟨rfl, by omega, Int.le_refl _⟩ ?_
   rintro m s ⟨q1, q2, q3⟩
   unfold partitionEqual_L2
   refine Tot.call (condLt h (fun _ => by omega) (fun _ => by omega)) fun c hc => .ite (fun e => ?_) (fun e => .dn ⟨q2, q3, fun hj u hu => ?_⟩)
   ·obtain ⟨hj, _⟩ := hc.1 e
    simp (disch := omega) only [w64_id]
    exact .nx ⟨(s - 1 + 1 - v4).toNat, by omega, rfl, by omega, by omega⟩
   ·obtain ⟨u', z, hu', hz, hle⟩ := hc.2 e hj
    cases hu'.uniq g6; cases hz.uniq hu; exact hle
  refine .iteP (fun hc => .dn ⟨by dsimp only; omega, by dsimp only; omega, g5, u3⟩) (fun hc => ?_)
  refine Tot.swap (i := v4) (j := v7) (by omega) (by omega) fun u z hu hz => ?_
  have hlt : v4 < v7 := by
   rcases Int.lt_or_le v4 v7 with h' | h'
   ·exact h'
   ·have : v4 = v7 := by omega
    subst this
    exact absurd (d3 (by omega) u hu) (u4 (by omega) u hu)
  simp (disch := omega) only [w64_id]
  refine .nx ⟨(v7 - 1 + 1 - (v4 + 1)).toNat, by omega, rfl, by dsimp only; omega, by dsimp only; omega, by dsimp only; omega, g5.trans (.swp hu hz (by omega) (by omega) (by omega) (by omega)), (swp_out hu.1 hz.1 (by omega) (by omega)).2 g6, fun k t e1 e2 ht => ?_⟩
  dsimp only at e2 ht
  rcases hu.swp hz ht with ⟨e, _⟩ | ⟨_, _, rfl⟩ | ⟨_, _, ht'⟩
  ·omega
  ·exact d3 (by omega) _ hz
  ·exact u3 k t e1 (by omega) ht'
 ·obtain ⟨k, q1, q2, hk⟩ := hr.2.2.1.inn j z e3 e4 hz
  exact hmin p k z hp q1 q2 hk
theorem part3 {l : List α} {a i j : Int} {p : α} (ha : 0 ≤ a) (hai : a < i) (hij : i ≤ j + 1) (hl : j < l.length) (hlen : l.length ≤ 4294967296) (hp : At l a p) (h0 : ∀ k x, a < k → k < i → At l k x → le x p) :
  Tot (iter (partition_L3 a cmp j l) i) fun v => i ≤ v ∧ v ≤ j + 1 ∧ (∀ k x, a < k → k < v → At l k x → le x p) ∧ (v ≤ j → ∀ x, At l v x → le p x) := by
 refine Tot.iter (fun m s => m = (j + 1 - s).toNat ∧ i ≤ s ∧ s ≤ j + 1 ∧ ∀ k x, a < k → k < s → At l k x → le x p) (n := (j + 1 - i).toNat) ⟨rfl, Int.le_refl _, hij, h0⟩ ?_
 rintro m s ⟨q1, q2, q3, q4⟩
 unfold partition_L3
 refine Tot.call (condLt h (fun _ => by omega) (fun _ => by have := hp.lt; omega)) fun c hc => .ite (fun e => ?_) (fun e => .dn ⟨q2, q3, q4, fun hj u hu => ?_⟩)
 ·obtain ⟨hj, u, z, hu, hz, hlt⟩ := hc.1 e
  cases hz.uniq hp
  simp (disch := omega) only [w64_id]
  refine .nx ⟨(j + 1 - (s + 1)).toNat, by omega, rfl, by omega, by omega, fun k t e1 e2 ht => ?_⟩
  by_cases hk : k = s
  ·subst hk; cases ht.uniq hu; exact h.not hlt
  ·exact q4 k t e1 (by omega) ht
 ·obtain ⟨u', z, hu', hz, hle⟩ := hc.2 e hj
  cases hu'.uniq hu; cases hz.uniq hp; exact hle
theorem part4 {l : List α} {a b i j : Int} {p : α} (ha : 0 ≤ a) (hai : a < i) (hij : i ≤ j + 1) (hl : j < l.length) (hlen : l.length ≤ 4294967296) (hp : At l a p) (h0 : ∀ k x, j < k → k < b → At l k x → le p x) :
  Tot (iter (partition_L4 a cmp l i) j) fun v => i - 1 ≤ v ∧ v ≤ j ∧ (∀ k x, v < k → k < b → At l k x → le p x) ∧ (i ≤ v → ∀ x, At l v x → ¬ le p x) := by
 refine Tot.iter (fun m s => m = (s + 1 - i).toNat ∧ i - 1 ≤ s ∧ s ≤ j ∧ ∀ k x, s < k → k < b → At l k x → le p x) (n := (j + 1 - i).toNat) ⟨rfl, by omega, Int.le_refl _, h0⟩ ?_
 rintro m s ⟨q1, q2, q3, q4⟩
 unfold partition_L4
 refine Tot.call (condGe h (fun _ => by omega) (fun _ => by have := hp.lt; omega)) fun c hc => .ite (fun e => ?_) (fun e => .dn ⟨q2, q3, q4, fun hj u hu => ?_⟩)
 ·obtain ⟨hj, u, z, hu, hz, hle⟩ := hc.1 e
  cases hz.uniq hp
  simp (disch := omega) only [w64_id]
  refine .nx ⟨(s - 1 + 1 - i).toNat, by omega, rfl, by omega, by omega, fun k t e1 e2 ht => ?_⟩
  by_cases hk : k = s
  ·subst hk; cases ht.uniq hu; exact hle
  ·exact q4 k t (by omega) e2 ht
 ·obtain ⟨u', z, hu', hz, hle⟩ := hc.2 e hj
  cases hu'.uniq hu; cases hz.uniq hp; exact hle
theorem part_ok {l0 : List α} {a b pv : Int} (ha : 0 ≤ a) (h1 : a ≤ pv) (h2 : pv < b) (hl : b ≤ l0.length) (hlen : l0.length ≤ 4294967296) :
  Tot (partition l0 a b pv cmp) fun r => a ≤ r.1 ∧ r.1 < b ∧ R a b l0 r.2.2 ∧ ∃ p, At r.2.2 r.1 p ∧ (∀ k x, a ≤ k → k < r.1 → At r.2.2 k x → le x p) ∧ ∀ k x, r.1 < k → k < b → At r.2.2 k x → le p x := by
 have fin : ∀ {l : List α} {v : Int} {x p : α}, R a b l0 l → a ≤ v → v < b → At l v x → At l a p → (∀ k x, a < k → k ≤ v → At l k x → le x p) → (∀ k x, v < k → k < b → At l k x → le p x) → R a b l0 (swp l v a x p) ∧ ∃ p', At (swp l v a x p) v p' ∧ (∀ k u, a ≤ k → k < v → At (swp l v a x p) k u → le u p') ∧ ∀ k u, v < k → k < b → At (swp l v a x p) k u → le p' u := by
  intro l v x p hr e1 e2 hx hp f1 f2
  refine ⟨hr.trans (.swp hx hp (by omega) (by omega) (by omega) (by omega)), p, hx.swp1 hp, fun k u k1 k2 hu => ?_, fun k u k1 k2 hu => ?_⟩
  ·rcases hx.swp hp hu with ⟨_, rfl⟩ | ⟨_, e, _⟩ | ⟨_, _, hu'⟩
   ·exact f1 v u (by omega) (Int.le_refl _) hx
   ·omega
   ·exact f1 k u (by omega) (by omega) hu'
  ·rcases hx.swp hp hu with ⟨_, rfl⟩ | ⟨_, e, _⟩ | ⟨_, _, hu'⟩
   ·omega
   ·omega
   ·exact f2 k u k1 k2 hu'
 unfold partition
 refine Tot.swap (i := a) (j := pv) (by omega) (by omega) fun x p hx hp => ?_
 have hw : R a b l0 (swp l0 a pv x p) := .swp hx hp (by omega) (by omega) (by omega) (by omega)
 have hap := hx.swp1 hp
 have hwl := hw.len
 have e1 : partition_L1 l0 a b pv cmp p x = partition_L3 a cmp (w64 (b - 1)) (swp l0 a pv x p) := rfl
 have e2 : ∀ v2, partition_L2 l0 a pv cmp p x v2 = partition_L4 a cmp (swp l0 a pv x p) v2 := fun _ => rfl
 have e3 : (l0.set a.toNat p).set pv.toNat x = swp l0 a pv x p := rfl
 simp only [e1, e2, e3]
 revert hw hap hwl
 generalize swp l0 a pv x p = D
 intro hw hap hwl
 simp (disch := omega) only [w64_id]
 refine Tot.call (part3 h ha (by omega) (by omega) (by omega) (by omega) hap fun k x k1 k2 _ => by omega) fun v2 ⟨u1, u2, u3, u4⟩ => ?_
 refine Tot.call (part4 h (b := b) ha (by omega) (by omega) (by omega) (by omega) hap fun k x k1 k2 _ => by omega) fun v5 ⟨d1, d2, d3, d4⟩ => ?_
 refine .iteP (fun hc => ?_) (fun hc => ?_)
 ·refine Tot.swap (i := v5) (j := a) (by omega) (by omega) fun u z hu hz => .ok ?_
  cases hz.uniq hap
  exact ⟨by dsimp only; omega, by dsimp only; omega, fin hw (by omega) (by omega) hu hap (fun k x k1 k2 => u3 k x k1 (by omega)) d3⟩
 ·refine Tot.swap (i := v2) (j := v5) (by omega) (by omega) fun u z hu hz => ?_
  have hlt : v2 < v5 := by
   rcases Int.lt_or_le v2 v5 with h' | h'
   ·exact h'
   ·have : v2 = v5 := by omega
    subst this
    exact absurd (u4 (by omega) u hu) (d4 (by omega) u hu)
  have step : ∀ {l : List α} {i j : Int} {u z : α}, a < i → i < j → j < b → At l i u → At l j z → (∀ k x, a < k → k < i → At l k x → le x p) → (∀ k x, j < k → k < b → At l k x → le p x) → le p u → le z p → (∀ k x, a < k → k < i + 1 → At (swp l i j u z) k x → le x p) ∧ ∀ k x, j - 1 < k → k < b → At (swp l i j u z) k x → le p x := by
   intro l i j u z k1 k2 k3 hu hz f1 f2 c1 c2
   refine ⟨fun k t e1 e2 ht => ?_, fun k t e1 e2 ht => ?_⟩
   ·rcases hu.swp hz ht with ⟨e, _⟩ | ⟨_, _, rfl⟩ | ⟨_, _, ht'⟩
    ·omega
    ·exact c2
    ·exact f1 k t e1 (by omega) ht'
   ·rcases hu.swp hz ht with ⟨_, rfl⟩ | ⟨_, e, _⟩ | ⟨_, _, ht'⟩
    ·exact c1
    ·omega
    ·exact f2 k t (by omega) e2 ht'
  have hs := step (by omega) hlt (by omega) hu hz u3 d3 (u4 (by omega) u hu) (h.not (d4 (by omega) z hz))
  refine Tot.call (P := fun (r : Int × List α) => a ≤ r.1 ∧ r.1 < b ∧ R a b l0 r.2 ∧ At r.2 a p ∧ (∀ k x, a < k → k ≤ r.1 → At r.2 k x → le x p) ∧ ∀ k x, r.1 < k → k < b → At r.2 k x → le p x) ?_ fun ⟨v14, l⟩ ⟨q1, q2, q3, q4, q5, q6⟩ => ?_
  ·simp (disch := omega) only [w64_id]
   refine Tot.iter (fun m s => m = (s.2.1 + 1 - s.1).toNat ∧ a < s.1 ∧ s.1 ≤ s.2.1 + 1 ∧ s.2.1 < b ∧ R a b l0 s.2.2 ∧ At s.2.2 a p ∧ (∀ k x, a < k → k < s.1 → At s.2.2 k x → le x p) ∧ ∀ k x, s.2.1 < k → k < b → At s.2.2 k x → le p x) (n := (v5 - 1 + 1 - (v2 + 1)).toNat) ⟨rfl, by dsimp only; omega, by dsimp only; omega, by dsimp only; omega, hw.trans (.swp hu hz (by omega) (by omega) (by omega) (by omega)), (swp_out hu.1 hz.1 (by omega) (by omega)).2 hap, hs.1, hs.2⟩ ?_
   rintro m ⟨i, j, l⟩ ⟨g1, g2, g3, g4, g5, g6, g7, g8⟩
   dsimp only at g1 g2 g3 g4 g5 g6 g7 g8
   have hll := g5.len
   unfold partition_L5
   dsimp only
   refine Tot.call (part3 h ha g2 g3 (by omega) (by omega) g6 g7) fun v10 ⟨u1, u2, u3, u4⟩ => ?_
   refine Tot.call (part4 h (b := b) ha (by omega) (by omega) (by omega) (by omega) g6 g8) fun v13 ⟨d1, d2, d3, d4⟩ => ?_
   refine .iteP (fun hc => .dn ⟨by dsimp only; omega, by dsimp only; omega, g5, g6, fun k x k1 k2 => u3 k x k1 (by dsimp only at k2; omega), d3⟩) (fun hc => ?_)
   refine Tot.swap (i := v10) (j := v13) (by omega) (by omega) fun u z hu hz => ?_
   have hlt : v10 < v13 := by
    rcases Int.lt_or_le v10 v13 with h' | h'
    ·exact h'
    ·have : v10 = v13 := by omega
     subst this
     exact absurd (u4 (by omega) u hu) (d4 (by omega) u hu)
   have hs := step (by omega) hlt (by omega) hu hz u3 d3 (u4 (by omega) u hu) (h.not (d4 (by omega) z hz))
   simp (disch := omega) only [w64_id]
   exact .nx ⟨(v13 - 1 + 1 - (v10 + 1)).toNat, by omega, rfl, by dsimp only; omega, by dsimp only; omega, by dsimp only; omega, g5.trans (.swp hu hz (by omega) (by omega) (by omega) (by omega)), (swp_out hu.1 hz.1 (by omega) (by omega)).2 g6, hs.1, hs.2⟩
  ·dsimp only at q1 q2 q3 q4 q5 q6
   have hll := q3.len
   dsimp only at hll ⊢
   refine Tot.swap (i := v14) (j := a) (by omega) (by omega) fun u' z' hu' hz' => .ok ?_
   cases hz'.uniq q4
   exact ⟨q1, q2, fin q3 q1 q2 hu' q4 q5 q6⟩
end
end Go.Ab.Pdq
