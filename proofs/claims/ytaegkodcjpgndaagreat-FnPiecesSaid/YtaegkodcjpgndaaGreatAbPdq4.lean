/- My own layer: sorting, fourth part: pivots, patterns. -/
import Derived.Test.YtaegkodcjpgndaaGreatAbPdq3
namespace Go.Ab.Pdq
set_option linter.unusedVariables false
set_option linter.unusedSimpArgs false
set_option linter.unusedVariables false
variable {α β : Type}
section
variable {cmp : α → α → Option Int} {le : α → α → Prop} (h : Lt cmp le)
include h
theorem order2_ok {l : List α} {a b s : Int} (ha : 0 ≤ a ∧ a < l.length) (hb : 0 ≤ b ∧ b < l.length) : Tot (order2 l a b s cmp) fun r => (r.1 = a ∧ r.2.1 = b) ∨ (r.1 = b ∧ r.2.1 = a) := by
 unfold order2
 exact Tot.idxA hb.1 hb.2 fun x _ => Tot.idxA ha.1 ha.2 fun y _ => Tot.cm h fun c _ => .iteP (fun _ => .ok (.inr ⟨rfl, rfl⟩)) (fun _ => .ok (.inl ⟨rfl, rfl⟩))
theorem median_ok {l : List α} {lo hi a b c s : Int} (h0 : 0 ≤ lo) (hl : hi ≤ l.length) (ha : lo ≤ a ∧ a < hi) (hb : lo ≤ b ∧ b < hi) (hc : lo ≤ c ∧ c < hi) : Tot (median l a b c s cmp) fun r => lo ≤ r.1 ∧ r.1 < hi := by
 unfold median
 refine Tot.call (order2_ok h (by omega) (by omega)) fun r hr => ?_
 refine Tot.call (order2_ok h (by omega) (by omega)) fun r1 hr1 => ?_
 refine Tot.call (order2_ok h (by omega) (by omega)) fun r2 hr2 => ?_
 exact .ok (by dsimp only; omega)
theorem madj_ok {l : List α} {lo hi a s : Int} (h0 : 0 ≤ lo) (hl : hi ≤ l.length) (hlen : l.length ≤ 4294967296) (ha : lo < a ∧ a + 1 < hi) : Tot (medianAdjacent l a s cmp) fun r => lo ≤ r.1 ∧ r.1 < hi := by
 unfold medianAdjacent
 simp (disch := omega) only [w64_id]
 exact Tot.call (median_ok h h0 hl (by omega) (by omega) (by omega)) fun r hr => .ok hr
theorem choose_ok {l : List α} {a b : Int} (h0 : 0 ≤ a) (hab : 8 ≤ b - a) (hl : b ≤ l.length) (hlen : l.length ≤ 4294967296) : Tot (choosePivot l a b cmp) fun r => a ≤ r.1 ∧ r.1 < b := by
 unfold choosePivot
 refine Tot.chk (by decide) (Tot.chk (by decide) (Tot.chk (by decide) ?_))
 have e : w64 (b - a) = b - a := w64_id (by omega)
 have e2 : (b - a).tdiv 4 = (b - a) / 4 := Int.tdiv_eq_ediv_of_nonneg (by omega)
 rw [e, e2]
 simp (disch := omega) only [w64_id]
 refine Tot.call (P := fun (r : Int × Int) => a ≤ r.1 ∧ r.1 < b) (.iteP (fun _ => ?_) (fun hn => absurd hab hn)) fun r hr => ?_
 ·refine Tot.call (P := fun (r : Int × Int × Int × Int) => (a ≤ r.1 ∧ r.1 < b) ∧ (a ≤ r.2.1 ∧ r.2.1 < b) ∧ (a ≤ r.2.2.1 ∧ r.2.2.1 < b)) (.iteP (fun _ => ?_) (fun hn => .ok (by dsimp only; omega))) fun ⟨v2, v3, v4, v5⟩ hv => ?_
  ·refine Tot.call (madj_ok h h0 hl hlen (by omega)) fun r hr => Tot.call (madj_ok h h0 hl hlen (by omega)) fun r1 hr1 => Tot.call (madj_ok h h0 hl hlen (by omega)) fun r2 hr2 => .ok ⟨hr, hr1, hr2⟩
  ·exact Tot.call (median_ok h h0 hl hv.1 hv.2.1 hv.2.2) fun r hr => .ok hr
 ·obtain ⟨v, v1⟩ := r
  exact .ite (fun _ => .ok hr) (fun _ => .ite (fun _ => .ok hr) (fun _ => .ok hr))
omit h in
theorem rev_ok {l0 : List α} {a b : Int} (h0 : 0 ≤ a) (hab : a ≤ b) (hl : b ≤ l0.length) (hlen : l0.length ≤ 4294967296) : Tot (reverseRange l0 a b cmp) fun l => R a b l0 l := by
 unfold reverseRange
 simp (disch := omega) only [w64_id]
 refine Tot.iter (fun m s => m = (s.2.1 + 1 - s.1).toNat ∧ a ≤ s.1 ∧ s.1 ≤ s.2.1 + 2 ∧ s.2.1 < b ∧ R a b l0 s.2.2) (n := (b - 1 + 1 - a).toNat) ⟨rfl, by dsimp only; omega, by dsimp only; omega, by dsimp only; omega, R.refl⟩ ?_
 rintro m ⟨i, j, l⟩ ⟨g1, g2, g2', g3, g4⟩
 dsimp only at g1 g2 g2' g3 g4
 have hll := g4.len
 unfold reverseRange_L1
 dsimp only
 refine .iteP (fun hc => ?_) (fun hc => .dn g4)
 simp (disch := omega) only [w64_id]
 exact Tot.swap (by omega) (by omega) fun x y hx hy => .nx ⟨(j - 1 + 1 - (i + 1)).toNat, by omega, rfl, by dsimp only; omega, by dsimp only; omega, by dsimp only; omega, g4.trans (.swp hx hy (by omega) (by omega) (by omega) (by omega))⟩
omit h in
theorem mask_lt {x m : Int} (h1 : 1 ≤ m) (h2 : m ≤ 8589934592) : 0 ≤ w64 (IntKind.u64.wrap ((BitVec.ofInt (IntKind.u64).bits x &&& BitVec.ofInt (IntKind.u64).bits (IntKind.u64.wrap (m - 1))).toNat : Int)) ∧
  w64 (IntKind.u64.wrap ((BitVec.ofInt (IntKind.u64).bits x &&& BitVec.ofInt (IntKind.u64).bits (IntKind.u64.wrap (m - 1))).toNat : Int)) < m := by
 have hw : ∀ z : Int, 0 ≤ z → z < 18446744073709551616 → IntKind.u64.wrap z = z := fun z a b => by
  show z % 18446744073709551616 = z
  exact Int.emod_eq_of_lt a b
 rw [hw (m - 1) (by omega) (by omega)]
 have hb : (BitVec.ofInt (IntKind.u64).bits (m - 1)).toNat = (m - 1).toNat := by
  show (BitVec.ofInt 64 (m - 1)).toNat = _
  rw [BitVec.toNat_ofInt]
  have : (m - 1) % ((2 ^ 64 : Nat) : Int) = m - 1 := Int.emod_eq_of_lt (by omega) (by omega)
  rw [this]
 have hand : (BitVec.ofInt (IntKind.u64).bits x &&& BitVec.ofInt (IntKind.u64).bits (m - 1)).toNat ≤ (m - 1).toNat := by
  rw [BitVec.toNat_and, hb]; exact Nat.and_le_right
 rw [hw _ (by omega) (by omega), w64_id (by omega)]
 omega
structure Hlp (npo : Int → Option (IK .u64)) (nxt : IK .u64 → Option (IK .u64 × IK .u64)) : Prop where
 npo : ∀ n, 8 ≤ n → n ≤ 4294967296 → Tot (npo n) fun m => 1 ≤ m.v ∧ m.v ≤ 2 * n
 nxt : ∀ x, Tot (nxt x) fun _ => True
omit h in
theorem break_ok {npo : Int → Option (IK .u64)} {nxt : IK .u64 → Option (IK .u64 × IK .u64)} (hp : Hlp npo nxt) {l0 : List α} {a b : Int} (h0 : 0 ≤ a) (hab : a ≤ b) (hl : b ≤ l0.length) (hlen : l0.length ≤ 4294967296) :
  Tot (breakPatterns npo nxt l0 a b cmp) fun l => R a b l0 l := by
 unfold breakPatterns
 have e : w64 (b - a) = b - a := w64_id (by omega)
 have e2 : (b - a).tdiv 4 = (b - a) / 4 := Int.tdiv_eq_ediv_of_nonneg (by omega)
 rw [e, e2]
 refine .iteP (fun hc => ?_) (fun _ => .ok R.refl)
 refine Tot.call (hp.npo _ hc (by omega)) fun r hr => Tot.chk (by decide) ?_
 simp (disch := omega) only [w64_id]
 refine Tot.iter (fun m s => m = (a + (b - a) / 4 * 2 + 2 - s.1).toNat ∧ a ≤ s.1 ∧ s.1 ≤ b ∧ R a b l0 s.2.1) (n := (a + (b - a) / 4 * 2 + 2 - (a + (b - a) / 4 * 2 - 1)).toNat) ⟨rfl, by dsimp only; omega, by dsimp only; omega, R.refl⟩ ?_
 rintro m ⟨v, l, v1⟩ ⟨g1, g2, g2', g3⟩
 dsimp only at g1 g2 g2' g3
 have hll := g3.len
 unfold breakPatterns_L1
 dsimp only
 rw [e, e2]
 refine Tot.chk (by decide) ?_
 simp (disch := omega) only [w64_id]
 refine .iteP (fun hc2 => ?_) (fun _ => .dn g3)
 refine Tot.call (hp.nxt _) fun r1 _ => ?_
 have hm := mask_lt (x := r1.1.v) (m := r.v) hr.1 (by omega)
 revert hm
 generalize w64 (IntKind.u64.wrap ((BitVec.ofInt (IntKind.u64).bits r1.1.v &&& BitVec.ofInt (IntKind.u64).bits (IntKind.u64.wrap (r.v - 1))).toNat : Int)) = o
 intro hm
 refine Tot.call (P := fun (o' : Int) => 0 ≤ o' ∧ o' < b - a) (.iteP (fun _ => ?_) (fun _ => .ok (by omega))) fun o' ho => ?_
 ·simp (disch := omega) only [w64_id]
  exact .ok (by omega)
 ·simp (disch := omega) only [w64_id]
  exact Tot.swap (by omega) (by omega) fun x y hx hy => .nx ⟨(a + (b - a) / 4 * 2 + 2 - (v + 1)).toNat, by omega, rfl, by dsimp only; omega, by dsimp only; omega, g3.trans (.swp hx hy (by omega) (by omega) (by omega) (by omega))⟩
end
end Go.Ab.Pdq
