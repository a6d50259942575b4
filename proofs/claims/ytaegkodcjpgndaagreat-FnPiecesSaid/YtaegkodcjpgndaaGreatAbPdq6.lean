/- My own layer: sorting, sixth part: the whole of it. -/
import Derived.Test.YtaegkodcjpgndaaGreatAbPdq5
namespace Go.Ab.Pdq
set_option linter.unusedVariables false
set_option linter.unusedSimpArgs false
set_option linter.unusedVariables false
variable {α β : Type}
def Dn (le : α → α → Prop) (l : List α) (a b a1 b1 : Int) : Prop := ∀ i j x y, a ≤ i → i < j → j < b → (i < a1 ∨ b1 ≤ j) → At l i x → At l j y → le x y
theorem Dn.R {le : α → α → Prop} {l l' : List α} {a b a1 b1 : Int} (hd : Dn le l a b a1 b1) (h1 : a ≤ a1) (h2 : b1 ≤ b) (hr : R a1 b1 l l') : Dn le l' a b a1 b1 := by
 intro i j x y k1 k2 k3 k4 hx hy
 by_cases hi : i < a1 ∨ b1 ≤ i
 ·rw [hr.out i x hi] at hx
  by_cases hj : j < a1 ∨ b1 ≤ j
  ·rw [hr.out j y hj] at hy
   exact hd i j x y k1 k2 k3 k4 hx hy
  ·obtain ⟨j', e1, e2, hy'⟩ := hr.inn j y (by omega) (by omega) hy
   exact hd i j' x y k1 (by omega) (by omega) (by omega) hx hy'
 ·rw [hr.out j y (by omega)] at hy
  obtain ⟨i', e1, e2, hx'⟩ := hr.inn i x (by omega) (by omega) hx
  exact hd i' j x y (by omega) (by omega) k3 (by omega) hx' hy
theorem Dn.fin {le : α → α → Prop} {l l' : List α} {a b a1 b1 : Int} (hd : Dn le l a b a1 b1) (h1 : a ≤ a1) (h2 : b1 ≤ b) (hr : Pdq.R a1 b1 l l') (hs : Srt le l' a1 b1) : Srt le l' a b := by
 intro i j x y k1 k2 k3 hx hy
 by_cases hc : i < a1 ∨ b1 ≤ j
 ·exact hd.R h1 h2 hr i j x y k1 k2 k3 hc hx hy
 ·exact hs i j x y (by omega) k2 (by omega) hx hy
theorem Dn.low {le : α → α → Prop} {l0 l : List α} {a b a1 b1 : Int} (hd : Dn le l a b a1 b1) (h1 : a ≤ a1) (h2 : b1 ≤ b) (hr : Pdq.R a b l0 l) (hl : Low le l0 a b) : Low le l a1 b1 := by
 intro h0 y k x hy k1 k2 hx
 by_cases e : a1 = a
 ·subst e
  exact (hl.R hr) h0 y k x hy k1 (by omega) hx
 ·exact hd (a1 - 1) k y x (by omega) (by omega) (by omega) (by omega) hy hx
section
variable {cmp : α → α → Option Int} {le : α → α → Prop} (h : Lt cmp le)
include h
theorem pdqk_ok {npo : Int → Option (IK .u64)} {nxt : IK .u64 → Option (IK .u64 × IK .u64)} (hp : Hlp npo nxt) : ∀ (n : Nat) (l0 : List α) (a b limit : Int), 0 ≤ a → a ≤ b → b ≤ l0.length → l0.length ≤ 4294967296 → b - a < n → Low le l0 a b →
  Tot (pdq_k npo nxt cmp n l0 a b limit) fun l => R a b l0 l ∧ Srt le l a b := by
 intro n
 induction n with
 | zero => intro l0 a b limit h1 h2 h3 h4 h5; omega
 | succ n ih =>
  intro l0 a b limit ha hab hl hlen hn hlow
  unfold pdq_k pdq_F
  refine Tot.iter (fun m s => m = (s.2.1 - s.1).toNat ∧ a ≤ s.1 ∧ s.1 ≤ s.2.1 ∧ s.2.1 ≤ b ∧ R a b l0 s.2.2.2.2.2 ∧ Dn le s.2.2.2.2.2 a b s.1 s.2.1) (n := (b - a).toNat) ⟨rfl, Int.le_refl _, hab, Int.le_refl _, R.refl, fun i j x y k1 k2 k3 k4 _ _ => by dsimp only at k4; omega⟩ ?_
  rintro m ⟨a1, b1, lim, mid, mid1, l⟩ ⟨g1, g2, g3, g4, g5, g6⟩
  dsimp only at g1 g2 g3 g4 g5 g6
  have hll := g5.len
  have hlw := g6.low g2 g4 g5 hlow
  unfold pdq_L1
  dsimp only
  simp (disch := omega) only [w64_id]
  refine .iteP (fun hc => ?_) (fun hc => ?_)
  ·exact Tot.call (insertion h (by omega) g3 (by omega) (by omega)) fun l' hl' => .dn ⟨g5.trans (hl'.1.wide g2 g4), g6.fin g2 g4 hl'.1 hl'.2⟩
  refine .ite (fun _ => ?_) (fun _ => ?_)
  ·exact Tot.call (heap h (by omega) (by omega) (by omega) (by omega)) fun l' hl' => .dn ⟨g5.trans (hl'.1.wide g2 g4), g6.fin g2 g4 hl'.1 hl'.2⟩
  refine Tot.call (P := fun (r : Int × List α) => R a1 b1 l r.2) (.ite (fun _ => Tot.call (break_ok hp (by omega) g3 (by omega) (by omega)) fun r hr => .ok hr) (fun _ => .ok R.refl)) fun ⟨limit2, l2⟩ r2 => ?_
  dsimp only at r2
  have hl2 : l2.length = l.length := r2.len
  refine Tot.call (choose_ok h (l := l2) (by omega) (by omega) (by omega) (by omega)) fun ⟨pv, hint⟩ hpv => ?_
  dsimp only at hpv ⊢
  refine Tot.call (P := fun (r : Int × Int × List α) => a1 ≤ r.1 ∧ r.1 < b1 ∧ R a1 b1 l r.2.2) (.ite (fun _ => Tot.call (rev_ok (by omega) g3 (by omega) (by omega)) fun r hr => ?_) (fun _ => .ok ⟨hpv.1, hpv.2, r2⟩)) fun ⟨pv', hint', l3⟩ ⟨p1, p2, r3⟩ => ?_
  ·simp (disch := omega) only [w64_id]
   exact .ok ⟨by dsimp only; omega, by dsimp only; omega, r2.trans hr⟩
  dsimp only at p1 p2 r3 ⊢
  have hl3 : l3.length = l.length := r3.len
  refine Tot.flb (Tot.call (P := fun _ => True) (.ite (fun _ => .ite (fun _ => .ok trivial) (fun _ => .ok trivial)) (fun _ => .ok trivial)) fun v _ => ?_)
  have rest : ∀ l4, R a1 b1 l l4 → Tot ((if (decide (0 < a1)) = true then (idx l4 (w64 (a1 - 1))).bind fun e6 => (idx l4 pv').bind fun e7 => (cmp e6 e7).bind fun r11 => some (!(decide (r11 < 0))) else some false).bind fun (v1 : Bool) =>
    if v1 = true then
     (partitionEqual l4 a1 b1 pv' cmp).bind fun r12 =>
     some (Lp.nx (r12.1, b1, limit2, mid, mid1, r12.2))
    else
     (partition l4 a1 b1 pv' cmp).bind fun r13 =>
     (chk ((8 : Int) ≠ 0)).bind fun u =>
     if (decide ((w64 (r13.1 - a1)) < (w64 (b1 - r13.1)))) = true then
      (pdq_k npo nxt cmp n r13.2.2 a1 r13.1 limit2).bind fun r14 =>
      some (.nx ((w64 (r13.1 + 1)), b1, limit2, (decide ((w64 ((b1 - a1).tdiv 8)) ≤ (w64 (r13.1 - a1)))), r13.2.1, r14))
     else
      (pdq_k npo nxt cmp n r13.2.2 (w64 (r13.1 + 1)) b1 limit2).bind fun r15 =>
      some (.nx (a1, r13.1, limit2, (decide ((w64 ((b1 - a1).tdiv 8)) ≤ (w64 (b1 - r13.1)))), r13.2.1, r15))) fun r => (∀ a', r = Lp.nx a' → ∃ k', k' < m ∧ (k' = (a'.2.1 - a'.1).toNat ∧ a ≤ a'.1 ∧ a'.1 ≤ a'.2.1 ∧ a'.2.1 ≤ b ∧ R a b l0 a'.2.2.2.2.2 ∧ Dn le a'.2.2.2.2.2 a b a'.1 a'.2.1)) ∧ ∀ b', r = Lp.dn b' → R a b l0 b' ∧ Srt le b' a b := by
   intro l4 r4
   have hl4 := r4.len
   have d4 := g6.R g2 g4 r4
   have lw4 := hlw.R r4
   have R4 := g5.trans (r4.wide g2 g4)
   simp (disch := omega) only [w64_id]
   refine Tot.call (condGe h (fun _ => by omega) (fun _ => by omega)) fun c hc2 => .ite (fun e => ?_) (fun e => ?_)
   ·obtain ⟨h0, u, z, hu, hz, hle⟩ := hc2.1 e
    refine Tot.call (parteq_ok h (by omega) p1 p2 (by omega) (by omega) fun p k x hp' k1 k2 hx => ?_) fun ⟨md, l5⟩ ⟨q1, q2, q3, q4⟩ => .nx ?_
    ·cases hp'.uniq hz
     exact h.trans hle (lw4 h0 u k x hu k1 k2 hx)
    ·dsimp only at q1 q2 q3 q4 ⊢
     have d5 := d4.R g2 g4 q3
     refine ⟨(b1 - md).toNat, by omega, rfl, by omega, by omega, g4, R4.trans (q3.wide g2 g4), fun i j x y k1 k2 k3 k4 hx hy => ?_⟩
     by_cases hi : i < a1 ∨ b1 ≤ j
     ·exact d5 i j x y k1 k2 k3 hi hx hy
     ·exact q4 i j x y (by omega) (by omega) (by omega) (by omega) hx hy
   ·refine Tot.call (part_ok h (by omega) p1 p2 (by omega) (by omega)) fun ⟨md, al, l5⟩ ⟨q1, q2, q3, p, hpm, q4, q5⟩ => Tot.chk (by decide) ?_
    dsimp only at q1 q2 q3 hpm q4 q5 ⊢
    have hl5 := q3.len
    have d5 := d4.R g2 g4 q3
    have lw5 := lw4.R q3
    have R5 := R4.trans (q3.wide g2 g4)
    simp (disch := omega) only [w64_id]
    refine .iteP (fun _ => ?_) (fun _ => ?_)
    ·refine Tot.call (ih l5 a1 md limit2 (by omega) q1 (by omega) (by omega) (by omega) fun h0 y k x hy k1 k2 hx => lw5 h0 y k x hy k1 (by omega) hx) fun l6 ⟨r6, s6⟩ => .nx ?_
     dsimp only
     have d6 := d5.R g2 g4 (r6.wide (Int.le_refl _) (by omega))
     have hpm6 := (r6.out md p (by omega)).2 hpm
     refine ⟨(b1 - (md + 1)).toNat, by omega, rfl, by omega, by omega, g4, R5.trans (r6.wide g2 (by omega)), fun i j x y k1 k2 k3 k4 hx hy => ?_⟩
     by_cases hi : i < a1 ∨ b1 ≤ j
     ·exact d6 i j x y k1 k2 k3 hi hx hy
     have up : ∀ i x, a1 ≤ i → i < md → At l6 i x → le x p := fun i x e1 e2 hx => by
      obtain ⟨i', f1, f2, hx'⟩ := r6.inn i x e1 e2 hx
      exact q4 i' x f1 f2 hx'
     by_cases hj : j < md
     ·exact s6 i j x y (by omega) k2 hj hx hy
     by_cases hj2 : j = md
     ·subst hj2
      cases hy.uniq hpm6
      exact up i x (by omega) (by omega) hx
     ·have hy' := (r6.out j y (by omega)).1 hy
      have e1 := q5 j y (by omega) (by omega) hy'
      by_cases hi2 : i = md
      ·subst hi2; cases hx.uniq hpm6; exact e1
      ·exact h.trans (up i x (by omega) (by omega) hx) e1
    ·refine Tot.call (ih l5 (md + 1) b1 limit2 (by omega) (by omega) (by omega) (by omega) (by omega) fun h0 y k x hy k1 k2 hx => ?_) fun l6 ⟨r6, s6⟩ => .nx ?_
     ·rw [show md + 1 - 1 = md by omega] at hy
      cases hy.uniq hpm
      exact q5 k x (by omega) k2 hx
     dsimp only
     have d6 := d5.R g2 g4 (r6.wide (by omega) (Int.le_refl _))
     have hpm6 := (r6.out md p (by omega)).2 hpm
     refine ⟨(md - a1).toNat, by omega, rfl, g2, q1, by omega, R5.trans (r6.wide (by omega) g4), fun i j x y k1 k2 k3 k4 hx hy => ?_⟩
     by_cases hi : i < a1 ∨ b1 ≤ j
     ·exact d6 i j x y k1 k2 k3 hi hx hy
     have up : ∀ i x, md < i → i < b1 → At l6 i x → le p x := fun i x e1 e2 hx => by
      obtain ⟨i', f1, f2, hx'⟩ := r6.inn i x (by omega) e2 hx
      exact q5 i' x (by omega) f2 hx'
     by_cases hi2 : md < i
     ·exact s6 i j x y (by omega) k2 (by omega) hx hy
     by_cases hi3 : i = md
     ·subst hi3
      cases hx.uniq hpm6
      exact up j y (by omega) (by omega) hy
     ·have hx' := (r6.out i x (by omega)).1 hx
      have e1 := q4 i x (by omega) (by omega) hx'
      by_cases hj2 : j = md
      ·subst hj2; cases hy.uniq hpm6; exact e1
      ·exact h.trans e1 (up j y (by omega) (by omega) hy)
  refine .ite (fun _ => ?_) (fun _ => .go ?_)
  ·refine Tot.call (partial_ok h (by omega) (by omega) (by omega) (by omega) (hlw.R r3)) fun r7 ⟨r4, s4⟩ => .ite (fun e => .ret (dn_ok ⟨g5.trans ((r3.trans r4).wide g2 g4), g6.fin g2 g4 (r3.trans r4) (s4 e)⟩)) (fun e => .go ?_)
   have := rest r7.2 (r3.trans r4)
   revert this
   simp (disch := omega) only [w64_id]
   exact id
  ·have := rest l3 r3
   revert this
   simp (disch := omega) only [w64_id]
   exact id
omit h in
theorem Srt.pair {l : List α} (hs : Srt le l 0 l.length) : l.Pairwise le := by
 rw [List.pairwise_iff_getElem]
 intro i j hi hj hij
 exact hs i j _ _ (by omega) (by omega) (by omega) ⟨by omega, by simp [List.getElem?_eq_getElem hi]⟩ ⟨by omega, by simp [List.getElem?_eq_getElem hj]⟩
theorem pdq_ok {npo : Int → Option (IK .u64)} {nxt : IK .u64 → Option (IK .u64 × IK .u64)} (hp : Hlp npo nxt) {l : List α} {limit : Int} (hlen : l.length < 4294967296) : Tot (pdq npo nxt cmp l 0 l.length limit) fun l' => l'.Perm l ∧ l'.Pairwise le := by
 unfold pdq
 refine (pdqk_ok h hp 4294967296 l 0 l.length limit (by omega) (by omega) (by omega) (by omega) (by omega) fun h0 => by omega).mono fun l' hl' => ⟨hl'.1.perm, ?_⟩
 have := hl'.2
 rw [← hl'.1.len] at this
 exact Srt.pair this
end
end Go.Ab.Pdq
