/- The plain law: what the models compute, no program in sight. -/
import Derived.Test.YtmmffjenpfeapaaChM
import Derived.Test.YtmmffjenpfeapaaAbSym
namespace Go.Proofs.Ytmmffjenpfeapaa
open Go Go.Ab
set_option maxHeartbeats 4000000
set_option linter.unusedVariables false
set_option linter.unusedSimpArgs false
def Cur (k : Nat) (c : l1Cur) : Prop := 0 ≤ c.at_ ∧ c.at_ ≤ k
theorem Cur.mono {k k' : Nat} {c : l1Cur} (h : Cur k c) (hk : k ≤ k') : Cur k' c := ⟨h.1, by have := h.2; omega⟩
theorem next_ok {k : Nat} {c : l1Cur} (h : Cur k c) (hk : k ≤ 4000000000) : ∃ r, zq22 c = some r ∧ Cur (k + 1) r.2 ∧ 0 ≤ r.1 ∧ r.1 ≤ 255 := by
 obtain ⟨h0, h1⟩ := h
 have hw : w64 (c.at_ + 1) = c.at_ + 1 := w64_id (by omega)
 have hcur : ∀ s, Cur (k + 1) ⟨c.code_, w64 (c.at_ + 1), s⟩ := fun s => by rw [hw]; exact ⟨by show 0 ≤ c.at_ + 1; omega, by show c.at_ + 1 ≤ _; omega⟩
 unfold zq22
 have hv : ∃ v, (if (decide (c.at_ < (c.code_.length : Int))) = true then (idx c.code_ c.at_).bind fun e1 => some (w64 ((e1.toNat : Int))) else some 0) = some v ∧ 0 ≤ v ∧ v ≤ 255 := by
  by_cases hlt : c.at_ < c.code_.length
  ·obtain ⟨x, hx, _, _⟩ := idx_lt h0 hlt
   have := x.toNat_lt
   refine ⟨(x.toNat : Int), ?_, by omega, by omega⟩
   simp only [hlt, decide_true, if_true, hx, Option.bind_some]
   rw [w64_id (by omega)]
  ·exact ⟨0, by simp [hlt], by omega, by omega⟩
 obtain ⟨v, hv, hv0, hv1⟩ := hv
 rw [hv]
 simp only [Option.bind_some]
 split
 ·exact ⟨_, rfl, hcur _, hv0, hv1⟩
 ·rw [chk_of (by omega)]
  exact ⟨_, rfl, hcur _, and255 _⟩
theorem pick_ok {k : Nat} {c : l1Cur} (n : Int) (h : Cur k c) (hk : k ≤ 3000000000) : ∃ r, zq23 c n = some r ∧ Cur (k + 2) r.2 ∧ 0 ≤ r.1 ∧ (r.1 < n ∨ r.1 = 0) := by
 unfold zq23
 by_cases hn : n ≤ 1
 ·exact ⟨(0, c), by simp [hn], h.mono (by omega), by simp, .inr rfl⟩
 ·obtain ⟨r, hr, hc, h0, h1⟩ := next_ok h (by omega)
  have hn' : decide (n ≤ 1) = false := by simpa using hn
  simp only [hn', Bool.false_eq_true, if_false, hr, Option.bind_some]
  have hne : chk (n ≠ 0) = some () := chk_of (by omega)
  by_cases h2 : 200 < n
  ·obtain ⟨r', hr', hc', h0', h1'⟩ := next_ok hc (by omega)
   have e1 : w64 (r.1 * 256) = r.1 * 256 := w64_id (by omega)
   have e2 : w64 (r.1 * 256 + r'.1) = r.1 * 256 + r'.1 := w64_id (by omega)
   have h3 := tmod_rng (a := r.1 * 256 + r'.1) (b := n) (by omega) (by omega)
   simp only [h2, decide_true, if_true, hr', Option.bind_some, hne, e1, e2]
   exact ⟨_, rfl, hc'.mono (by omega), h3.1, .inl h3.2⟩
  ·have h2' : decide (200 < n) = false := by simpa using h2
   have h3 := tmod_rng (a := r.1) (b := n) (by omega) (by omega)
   simp only [h2', Bool.false_eq_true, if_false, Option.bind_some, hne]
   exact ⟨_, rfl, hc.mono (by omega), h3.1, .inl h3.2⟩
theorem cur0 (code : List UInt8) : Cur 0 ⟨code, 0, ⟨0⟩⟩ := ⟨by show (0 : Int) ≤ 0; omega, by show (0 : Int) ≤ _; omega⟩
theorem fdivp {x : Int} (h : 0 ≤ x) (k : Nat) : x.fdiv (2 ^ k) = x / (2 ^ k : Nat) := by
 rw [Int.fdiv_eq_ediv_of_nonneg _ (by exact_mod_cast Nat.zero_le (2 ^ k))]
 simp
theorem pow_step {x y : Int} {v k : Nat} (h : y * (2 ^ v : Nat) ≤ x) (hy : 0 ≤ y) : y / (2 ^ k : Nat) * (2 ^ (v + k) : Nat) ≤ x := by
 have h1 : y / (2 ^ k : Nat) * (2 ^ k : Nat) ≤ y := Int.ediv_mul_le _ (by have := Nat.two_pow_pos k; omega)
 have h2 : y / (2 ^ k : Nat) * (2 ^ k : Nat) * (2 ^ v : Nat) ≤ y * (2 ^ v : Nat) := Int.mul_le_mul_of_nonneg_right h1 (Int.natCast_nonneg _)
 rw [Nat.add_comm, Nat.pow_add, Int.natCast_mul, ← Int.mul_assoc]
 omega
theorem len64_ok (x : IK .u64) (h0 : 0 ≤ x.v) (h1 : x.v < 8589934592) : Tot (zq14 x) fun r => 0 ≤ r ∧ r ≤ 64 ∧ (1 ≤ x.v → ((2 ^ r.toNat : Nat) : Int) ≤ 2 * x.v) := by
 unfold zq14
 refine Tot.call (P := fun (r : Int × Int) => 0 ≤ r.1 ∧ r.1 < 4294967296 ∧ (1 ≤ x.v → 1 ≤ r.1) ∧ 0 ≤ r.2 ∧ r.2 ≤ 32 ∧ r.1 * (2 ^ r.2.toNat : Nat) ≤ x.v) (.iteP (fun hc => Tot.chk (by decide) (.ok ?_)) (fun hc => .ok ⟨h0, by dsimp only; omega, fun h => h, Int.le_refl _, by dsimp only; omega, by simp⟩)) fun ⟨x1, v⟩ ⟨p1, p2, p3, p4, p5, p6⟩ => ?_
 ·have e : ((2 ^ 32 : Nat) : Int) = 4294967296 := by decide
  have e2 : x.v.fdiv (2 ^ (min (32 : Int).toNat (IntKind.u64).bits)) = x.v / (2 ^ 32 : Nat) := fdivp h0 32
  simp only [e2]
  exact ⟨by omega, by omega, fun _ => by omega, by omega, by omega, Int.ediv_mul_le _ (by decide)⟩
 dsimp only at p1 p2 p3 p4 p5 p6 ⊢
 refine Tot.call (P := fun (r : Int × Int) => 0 ≤ r.1 ∧ r.1 < 65536 ∧ (1 ≤ x.v → 1 ≤ r.1) ∧ 0 ≤ r.2 ∧ r.2 ≤ 48 ∧ r.1 * (2 ^ r.2.toNat : Nat) ≤ x.v) (.iteP (fun hc => Tot.chk (by decide) (.ok ?_)) (fun hc => .ok ⟨p1, by dsimp only; omega, p3, p4, by dsimp only; omega, p6⟩)) fun ⟨x2, v1⟩ ⟨q1, q2, q3, q4, q5, q6⟩ => ?_
 ·have e : ((2 ^ 16 : Nat) : Int) = 65536 := by decide
  have e2 : x1.fdiv (2 ^ (min (16 : Int).toNat (IntKind.u64).bits)) = x1 / (2 ^ 16 : Nat) := fdivp p1 16
  have e3 : w64 (v + 16) = v + 16 := w64_id (by omega)
  have e4 : (v + 16).toNat = v.toNat + 16 := by omega
  simp only [e2, e3, e4]
  exact ⟨by omega, by omega, fun _ => by omega, by omega, by omega, pow_step p6 p1⟩
 dsimp only at q1 q2 q3 q4 q5 q6 ⊢
 refine Tot.call (P := fun (r : Int × Int) => 0 ≤ r.1 ∧ r.1 < 256 ∧ (1 ≤ x.v → 1 ≤ r.1) ∧ 0 ≤ r.2 ∧ r.2 ≤ 56 ∧ r.1 * (2 ^ r.2.toNat : Nat) ≤ x.v) (.iteP (fun hc => Tot.chk (by decide) (.ok ?_)) (fun hc => .ok ⟨q1, by dsimp only; omega, q3, q4, by dsimp only; omega, q6⟩)) fun ⟨x3, v2⟩ ⟨r1, r2, r3, r4, r5, r6⟩ => ?_
 ·have e : ((2 ^ 8 : Nat) : Int) = 256 := by decide
  have e2 : x2.fdiv (2 ^ (min (8 : Int).toNat (IntKind.u64).bits)) = x2 / (2 ^ 8 : Nat) := fdivp q1 8
  have e3 : w64 (v1 + 8) = v1 + 8 := w64_id (by omega)
  have e4 : (v1 + 8).toNat = v1.toNat + 8 := by omega
  simp only [e2, e3, e4]
  exact ⟨by omega, by omega, fun _ => by omega, by omega, by omega, pow_step q6 q1⟩
 dsimp only at r1 r2 r3 r4 r5 r6 ⊢
 have e8 : IntKind.u8.wrap x3 = x3 := Int.emod_eq_of_lt r1 r2
 rw [e8]
 generalize hs : str _ = S
 have hS : (Nat.beq S.size 256 && (List.range 256).all fun i => Nat.ble (S.data.toList.getD i 0).toNat 8 && (Nat.beq i 0 || Nat.ble (2 ^ (S.data.toList.getD i 0).toNat) (2 * i))) = true := by
  rw [← hs]; kernel_rfl
 clear hs
 simp only [Bool.and_eq_true, List.all_eq_true, List.mem_range, Bool.or_eq_true] at hS
 obtain ⟨s1, s2⟩ := hS
 have s1 := Nat.eq_of_beq_eq_true s1
 obtain ⟨n, rfl⟩ : ∃ n : Nat, x3 = n := ⟨x3.toNat, by omega⟩
 have s2 := s2 n (by omega)
 have t1 := Nat.le_of_ble_eq_true s2.1
 refine Tot.chk (by omega) (.ok ?_)
 rw [Int.toNat_natCast]
 revert t1 s2
 generalize (S.data.toList.getD n 0).toNat = t
 intro s2 t1
 rw [w64_id (x := (t : Int)) (by omega), w64_id (by omega)]
 refine ⟨by omega, by omega, fun hx => ?_⟩
 have e1 : (v2 + (t : Int)).toNat = v2.toNat + t := by omega
 rw [e1, Nat.pow_add, Int.natCast_mul]
 have hn := r3 hx
 have t2 : 2 ^ t ≤ 2 * n := by
  rcases s2.2 with h | h
  ·have := Nat.eq_of_beq_eq_true h; omega
  ·exact Nat.le_of_ble_eq_true h
 have t3 : ((2 ^ v2.toNat : Nat) : Int) * (2 ^ t : Nat) ≤ (2 ^ v2.toNat : Nat) * (2 * n : Nat) := Int.mul_le_mul_of_nonneg_left (by exact_mod_cast t2) (by exact_mod_cast Nat.zero_le _)
 have t4 : ((2 ^ v2.toNat : Nat) : Int) * ((2 * n : Nat) : Int) = 2 * ((n : Int) * (2 ^ v2.toNat : Nat)) := by
  rw [Int.natCast_mul, Int.mul_comm ((2 ^ v2.toNat : Nat) : Int), Int.mul_assoc]; rfl
 omega
theorem len_ok (x : IK .u64) (h0 : 0 ≤ x.v) (h1 : x.v < 8589934592) : Tot (zq13 x) fun r => 0 ≤ r ∧ r ≤ 64 ∧ (1 ≤ x.v → ((2 ^ r.toNat : Nat) : Int) ≤ 2 * x.v) := by
 unfold zq13
 exact Tot.call (len64_ok x h0 h1) fun r hr => .ok hr
theorem u64_id' {n : Int} (h0 : 0 ≤ n) (h1 : n < 18446744073709551616) : IntKind.u64.wrap n = n := by
 show n % 18446744073709551616 = n
 exact Int.emod_eq_of_lt h0 h1
theorem hlp : Pdq.Hlp zq43 zq61 := by
 refine ⟨fun n h1 h2 => ?_, fun x => ?_⟩
 ·unfold zq43
  rw [u64_id' (by omega) (by omega)]
  refine Tot.call (len_ok ⟨n⟩ (by dsimp only; omega) (by dsimp only; omega)) fun r ⟨r1, r2, r3⟩ => Tot.chk r1 (.ok ?_)
  have r3 := r3 (by dsimp only; omega)
  dsimp only at r3 ⊢
  have e : min r.toNat (IntKind.u64).bits = r.toNat := Nat.min_eq_left (by show r.toNat ≤ 64; omega)
  have e2 : (1 : Int) * 2 ^ r.toNat = ((2 ^ r.toNat : Nat) : Int) := by rw [Int.one_mul]; norm_cast
  rw [e, e2]
  have := Nat.two_pow_pos r.toNat
  rw [u64_id' (by omega) (by omega)]
  omega
 ·unfold zq61
  exact Tot.chk (by decide) (Tot.chk (by decide) (Tot.chk (by decide) (.ok trivial)))
noncomputable def c0_int (x y : Int) : Option Int := some (if x < y then -1 else 0)
theorem less_int (x y : Int) : zq1 x y = some (decide (x < y)) := by
 unfold zq1 zq2
 simp
theorem dlt_int (x y : Int) : decide ((if x < y then (-1 : Int) else 0) < 0) = decide (x < y) := by
 by_cases h : x < y <;> simp [h]
theorem insertionSort_L1_int (a : Int) : zq40_L1 a = Pdq.insertionSort_L1 a c0_int := by
 funext ⟨s0, s1⟩
 simp only [zq40_L1, Pdq.insertionSort_L1, c0_int, less_int, dlt_int, Option.bind_some]
theorem insertionSort_L2_int (a : Int) (b : Int) : zq40_L2 a b = Pdq.insertionSort_L2 a b c0_int := by
 funext ⟨s0, s1⟩
 simp only [zq40_L2, Pdq.insertionSort_L2, insertionSort_L1_int, c0_int, less_int, dlt_int, Option.bind_some]
theorem insertionSort_int (data : List Int) (a : Int) (b : Int) : zq40 data a b = Pdq.insertionSort data a b c0_int := by
 simp only [zq40, Pdq.insertionSort, insertionSort_L1_int, insertionSort_L2_int, c0_int, less_int, dlt_int, Option.bind_some]
theorem siftDown_L1_int (hi : Int) (first : Int) : zq53_L1 hi first = Pdq.siftDown_L1 hi first c0_int := by
 funext ⟨s0, s1⟩
 simp only [zq53_L1, Pdq.siftDown_L1, insertionSort_L1_int, insertionSort_L2_int, insertionSort_int, c0_int, less_int, dlt_int, Option.bind_some]
theorem siftDown_int (data : List Int) (lo : Int) (hi : Int) (first : Int) : zq53 data lo hi first = Pdq.siftDown data lo hi first c0_int := by
 simp only [zq53, Pdq.siftDown, insertionSort_L1_int, insertionSort_L2_int, insertionSort_int, siftDown_L1_int, c0_int, less_int, dlt_int, Option.bind_some]
theorem heapSort_L1_int (a : Int) (b : Int) : zq36_L1 a b = Pdq.heapSort_L1 a b c0_int := by
 funext ⟨s0, s1⟩
 simp only [zq36_L1, Pdq.heapSort_L1, insertionSort_L1_int, insertionSort_L2_int, insertionSort_int, siftDown_L1_int, siftDown_int, c0_int, less_int, dlt_int, Option.bind_some]
theorem heapSort_L2_int (a : Int) : zq36_L2 a = Pdq.heapSort_L2 a c0_int := by
 funext ⟨s0, s1⟩
 simp only [zq36_L2, Pdq.heapSort_L2, insertionSort_L1_int, insertionSort_L2_int, insertionSort_int, siftDown_L1_int, siftDown_int, heapSort_L1_int, c0_int, less_int, dlt_int, Option.bind_some]
theorem heapSort_int (data : List Int) (a : Int) (b : Int) : zq36 data a b = Pdq.heapSort data a b c0_int := by
 simp only [zq36, Pdq.heapSort, insertionSort_L1_int, insertionSort_L2_int, insertionSort_int, siftDown_L1_int, siftDown_int, heapSort_L1_int, heapSort_L2_int, c0_int, less_int, dlt_int, Option.bind_some]
theorem order2_int (data : List Int) (a : Int) (b : Int) (swaps : Int) : zq44 data a b swaps = Pdq.order2 data a b swaps c0_int := by
 simp only [zq44, Pdq.order2, insertionSort_L1_int, insertionSort_L2_int, insertionSort_int, siftDown_L1_int, siftDown_int, heapSort_L1_int, heapSort_L2_int, heapSort_int, c0_int, less_int, dlt_int, Option.bind_some]
theorem median_int (data : List Int) (a : Int) (b : Int) (c : Int) (swaps : Int) : zq42 data a b c swaps = Pdq.median data a b c swaps c0_int := by
 simp only [zq42, Pdq.median, insertionSort_L1_int, insertionSort_L2_int, insertionSort_int, siftDown_L1_int, siftDown_int, heapSort_L1_int, heapSort_L2_int, heapSort_int, order2_int, c0_int, less_int, dlt_int, Option.bind_some]
theorem medianAdjacent_int (data : List Int) (a : Int) (swaps : Int) : zq41 data a swaps = Pdq.medianAdjacent data a swaps c0_int := by
 simp only [zq41, Pdq.medianAdjacent, insertionSort_L1_int, insertionSort_L2_int, insertionSort_int, siftDown_L1_int, siftDown_int, heapSort_L1_int, heapSort_L2_int, heapSort_int, order2_int, median_int, c0_int, less_int, dlt_int, Option.bind_some]
theorem choosePivot_int (data : List Int) (a : Int) (b : Int) : zq35 data a b = Pdq.choosePivot data a b c0_int := by
 simp only [zq35, Pdq.choosePivot, insertionSort_L1_int, insertionSort_L2_int, insertionSort_int, siftDown_L1_int, siftDown_int, heapSort_L1_int, heapSort_L2_int, heapSort_int, order2_int, median_int, medianAdjacent_int, c0_int, less_int, dlt_int, Option.bind_some]
theorem reverseRange_L1_int : zq49_L1 = Pdq.reverseRange_L1 := by
 funext ⟨s0, s1, s2⟩
 simp only [zq49_L1, Pdq.reverseRange_L1, insertionSort_L1_int, insertionSort_L2_int, insertionSort_int, siftDown_L1_int, siftDown_int, heapSort_L1_int, heapSort_L2_int, heapSort_int, order2_int, median_int, medianAdjacent_int, choosePivot_int, c0_int, less_int, dlt_int, Option.bind_some]
theorem reverseRange_int (data : List Int) (a : Int) (b : Int) : zq49 data a b = Pdq.reverseRange data a b c0_int := by
 simp only [zq49, Pdq.reverseRange, insertionSort_L1_int, insertionSort_L2_int, insertionSort_int, siftDown_L1_int, siftDown_int, heapSort_L1_int, heapSort_L2_int, heapSort_int, order2_int, median_int, medianAdjacent_int, choosePivot_int, reverseRange_L1_int, c0_int, less_int, dlt_int, Option.bind_some]
theorem partialInsertionSort_L1_int (b : Int) (data1 : List Int) : zq45_L1 b data1 = Pdq.partialInsertionSort_L1 b c0_int data1 := by
 funext s0
 simp only [zq45_L1, Pdq.partialInsertionSort_L1, insertionSort_L1_int, insertionSort_L2_int, insertionSort_int, siftDown_L1_int, siftDown_int, heapSort_L1_int, heapSort_L2_int, heapSort_int, order2_int, median_int, medianAdjacent_int, choosePivot_int, reverseRange_L1_int, reverseRange_int, c0_int, less_int, dlt_int, Option.bind_some]
theorem partialInsertionSort_L2_int : zq45_L2 = Pdq.partialInsertionSort_L2 c0_int := by
 funext ⟨s0, s1⟩
 simp only [zq45_L2, Pdq.partialInsertionSort_L2, insertionSort_L1_int, insertionSort_L2_int, insertionSort_int, siftDown_L1_int, siftDown_int, heapSort_L1_int, heapSort_L2_int, heapSort_int, order2_int, median_int, medianAdjacent_int, choosePivot_int, reverseRange_L1_int, reverseRange_int, partialInsertionSort_L1_int, c0_int, less_int, dlt_int, Option.bind_some]
theorem partialInsertionSort_L3_int (b : Int) : zq45_L3 b = Pdq.partialInsertionSort_L3 b c0_int := by
 funext ⟨s0, s1⟩
 simp only [zq45_L3, Pdq.partialInsertionSort_L3, insertionSort_L1_int, insertionSort_L2_int, insertionSort_int, siftDown_L1_int, siftDown_int, heapSort_L1_int, heapSort_L2_int, heapSort_int, order2_int, median_int, medianAdjacent_int, choosePivot_int, reverseRange_L1_int, reverseRange_int, partialInsertionSort_L1_int, partialInsertionSort_L2_int, c0_int, less_int, dlt_int, Option.bind_some]
theorem partialInsertionSort_L4_int (a : Int) (b : Int) : zq45_L4 a b = Pdq.partialInsertionSort_L4 a b c0_int := by
 funext ⟨s0, s1, s2⟩
 simp only [zq45_L4, Pdq.partialInsertionSort_L4, insertionSort_L1_int, insertionSort_L2_int, insertionSort_int, siftDown_L1_int, siftDown_int, heapSort_L1_int, heapSort_L2_int, heapSort_int, order2_int, median_int, medianAdjacent_int, choosePivot_int, reverseRange_L1_int, reverseRange_int, partialInsertionSort_L1_int, partialInsertionSort_L2_int, partialInsertionSort_L3_int, c0_int, less_int, dlt_int, Option.bind_some]
theorem partialInsertionSort_int (data : List Int) (a : Int) (b : Int) : zq45 data a b = Pdq.partialInsertionSort data a b c0_int := by
 simp only [zq45, Pdq.partialInsertionSort, insertionSort_L1_int, insertionSort_L2_int, insertionSort_int, siftDown_L1_int, siftDown_int, heapSort_L1_int, heapSort_L2_int, heapSort_int, order2_int, median_int, medianAdjacent_int, choosePivot_int, reverseRange_L1_int, reverseRange_int, partialInsertionSort_L1_int, partialInsertionSort_L2_int, partialInsertionSort_L3_int, partialInsertionSort_L4_int, c0_int, less_int, dlt_int, Option.bind_some]
theorem partitionEqual_L1_int (a : Int) (v1 : Int) (data1 : List Int) : zq46_L1 a v1 data1 = Pdq.partitionEqual_L1 a c0_int v1 data1 := by
 funext s0
 simp only [zq46_L1, Pdq.partitionEqual_L1, insertionSort_L1_int, insertionSort_L2_int, insertionSort_int, siftDown_L1_int, siftDown_int, heapSort_L1_int, heapSort_L2_int, heapSort_int, order2_int, median_int, medianAdjacent_int, choosePivot_int, reverseRange_L1_int, reverseRange_int, partialInsertionSort_L1_int, partialInsertionSort_L2_int, partialInsertionSort_L3_int, partialInsertionSort_L4_int, partialInsertionSort_int, c0_int, less_int, dlt_int, Option.bind_some]
theorem partitionEqual_L2_int (a : Int) (data1 : List Int) (v4 : Int) : zq46_L2 a data1 v4 = Pdq.partitionEqual_L2 a c0_int data1 v4 := by
 funext s0
 simp only [zq46_L2, Pdq.partitionEqual_L2, insertionSort_L1_int, insertionSort_L2_int, insertionSort_int, siftDown_L1_int, siftDown_int, heapSort_L1_int, heapSort_L2_int, heapSort_int, order2_int, median_int, medianAdjacent_int, choosePivot_int, reverseRange_L1_int, reverseRange_int, partialInsertionSort_L1_int, partialInsertionSort_L2_int, partialInsertionSort_L3_int, partialInsertionSort_L4_int, partialInsertionSort_int, partitionEqual_L1_int, c0_int, less_int, dlt_int, Option.bind_some]
theorem partitionEqual_L3_int (a : Int) : zq46_L3 a = Pdq.partitionEqual_L3 a c0_int := by
 funext ⟨s0, s1, s2⟩
 simp only [zq46_L3, Pdq.partitionEqual_L3, insertionSort_L1_int, insertionSort_L2_int, insertionSort_int, siftDown_L1_int, siftDown_int, heapSort_L1_int, heapSort_L2_int, heapSort_int, order2_int, median_int, medianAdjacent_int, choosePivot_int, reverseRange_L1_int, reverseRange_int, partialInsertionSort_L1_int, partialInsertionSort_L2_int, partialInsertionSort_L3_int, partialInsertionSort_L4_int, partialInsertionSort_int, partitionEqual_L1_int, partitionEqual_L2_int, c0_int, less_int, dlt_int, Option.bind_some]
theorem partitionEqual_int (data : List Int) (a : Int) (b : Int) (pivot : Int) : zq46 data a b pivot = Pdq.partitionEqual data a b pivot c0_int := by
 simp only [zq46, Pdq.partitionEqual, insertionSort_L1_int, insertionSort_L2_int, insertionSort_int, siftDown_L1_int, siftDown_int, heapSort_L1_int, heapSort_L2_int, heapSort_int, order2_int, median_int, medianAdjacent_int, choosePivot_int, reverseRange_L1_int, reverseRange_int, partialInsertionSort_L1_int, partialInsertionSort_L2_int, partialInsertionSort_L3_int, partialInsertionSort_L4_int, partialInsertionSort_int, partitionEqual_L1_int, partitionEqual_L2_int, partitionEqual_L3_int, c0_int, less_int, dlt_int, Option.bind_some]
theorem partition_L1_int (data : List Int) (a : Int) (b : Int) (pivot : Int) (e4 : Int) (e5 : Int) : zq47_L1 data a b pivot e4 e5 = Pdq.partition_L1 data a b pivot c0_int e4 e5 := by
 funext s0
 simp only [zq47_L1, Pdq.partition_L1, insertionSort_L1_int, insertionSort_L2_int, insertionSort_int, siftDown_L1_int, siftDown_int, heapSort_L1_int, heapSort_L2_int, heapSort_int, order2_int, median_int, medianAdjacent_int, choosePivot_int, reverseRange_L1_int, reverseRange_int, partialInsertionSort_L1_int, partialInsertionSort_L2_int, partialInsertionSort_L3_int, partialInsertionSort_L4_int, partialInsertionSort_int, partitionEqual_L1_int, partitionEqual_L2_int, partitionEqual_L3_int, partitionEqual_int, c0_int, less_int, dlt_int, Option.bind_some]
theorem partition_L2_int (data : List Int) (a : Int) (pivot : Int) (e4 : Int) (e5 : Int) (v2 : Int) : zq47_L2 data a pivot e4 e5 v2 = Pdq.partition_L2 data a pivot c0_int e4 e5 v2 := by
 funext s0
 simp only [zq47_L2, Pdq.partition_L2, insertionSort_L1_int, insertionSort_L2_int, insertionSort_int, siftDown_L1_int, siftDown_int, heapSort_L1_int, heapSort_L2_int, heapSort_int, order2_int, median_int, medianAdjacent_int, choosePivot_int, reverseRange_L1_int, reverseRange_int, partialInsertionSort_L1_int, partialInsertionSort_L2_int, partialInsertionSort_L3_int, partialInsertionSort_L4_int, partialInsertionSort_int, partitionEqual_L1_int, partitionEqual_L2_int, partitionEqual_L3_int, partitionEqual_int, partition_L1_int, c0_int, less_int, dlt_int, Option.bind_some]
theorem partition_L3_int (a : Int) (v7 : Int) (data1 : List Int) : zq47_L3 a v7 data1 = Pdq.partition_L3 a c0_int v7 data1 := by
 funext s0
 simp only [zq47_L3, Pdq.partition_L3, insertionSort_L1_int, insertionSort_L2_int, insertionSort_int, siftDown_L1_int, siftDown_int, heapSort_L1_int, heapSort_L2_int, heapSort_int, order2_int, median_int, medianAdjacent_int, choosePivot_int, reverseRange_L1_int, reverseRange_int, partialInsertionSort_L1_int, partialInsertionSort_L2_int, partialInsertionSort_L3_int, partialInsertionSort_L4_int, partialInsertionSort_int, partitionEqual_L1_int, partitionEqual_L2_int, partitionEqual_L3_int, partitionEqual_int, partition_L1_int, partition_L2_int, c0_int, less_int, dlt_int, Option.bind_some]
theorem partition_L4_int (a : Int) (data1 : List Int) (v10 : Int) : zq47_L4 a data1 v10 = Pdq.partition_L4 a c0_int data1 v10 := by
 funext s0
 simp only [zq47_L4, Pdq.partition_L4, insertionSort_L1_int, insertionSort_L2_int, insertionSort_int, siftDown_L1_int, siftDown_int, heapSort_L1_int, heapSort_L2_int, heapSort_int, order2_int, median_int, medianAdjacent_int, choosePivot_int, reverseRange_L1_int, reverseRange_int, partialInsertionSort_L1_int, partialInsertionSort_L2_int, partialInsertionSort_L3_int, partialInsertionSort_L4_int, partialInsertionSort_int, partitionEqual_L1_int, partitionEqual_L2_int, partitionEqual_L3_int, partitionEqual_int, partition_L1_int, partition_L2_int, partition_L3_int, c0_int, less_int, dlt_int, Option.bind_some]
theorem partition_L5_int (a : Int) : zq47_L5 a = Pdq.partition_L5 a c0_int := by
 funext ⟨s0, s1, s2⟩
 simp only [zq47_L5, Pdq.partition_L5, insertionSort_L1_int, insertionSort_L2_int, insertionSort_int, siftDown_L1_int, siftDown_int, heapSort_L1_int, heapSort_L2_int, heapSort_int, order2_int, median_int, medianAdjacent_int, choosePivot_int, reverseRange_L1_int, reverseRange_int, partialInsertionSort_L1_int, partialInsertionSort_L2_int, partialInsertionSort_L3_int, partialInsertionSort_L4_int, partialInsertionSort_int, partitionEqual_L1_int, partitionEqual_L2_int, partitionEqual_L3_int, partitionEqual_int, partition_L1_int, partition_L2_int, partition_L3_int, partition_L4_int, c0_int, less_int, dlt_int, Option.bind_some]
theorem partition_int (data : List Int) (a : Int) (b : Int) (pivot : Int) : zq47 data a b pivot = Pdq.partition data a b pivot c0_int := by
 simp only [zq47, Pdq.partition, insertionSort_L1_int, insertionSort_L2_int, insertionSort_int, siftDown_L1_int, siftDown_int, heapSort_L1_int, heapSort_L2_int, heapSort_int, order2_int, median_int, medianAdjacent_int, choosePivot_int, reverseRange_L1_int, reverseRange_int, partialInsertionSort_L1_int, partialInsertionSort_L2_int, partialInsertionSort_L3_int, partialInsertionSort_L4_int, partialInsertionSort_int, partitionEqual_L1_int, partitionEqual_L2_int, partitionEqual_L3_int, partitionEqual_int, partition_L1_int, partition_L2_int, partition_L3_int, partition_L4_int, partition_L5_int, c0_int, less_int, dlt_int, Option.bind_some]
theorem breakPatterns_L1_int (a : Int) (b : Int) (r : (IK .u64)) : zq34_L1 a b r = Pdq.breakPatterns_L1 zq61 a b r := by
 funext ⟨s0, s1, s2⟩
 simp only [zq34_L1, Pdq.breakPatterns_L1, insertionSort_L1_int, insertionSort_L2_int, insertionSort_int, siftDown_L1_int, siftDown_int, heapSort_L1_int, heapSort_L2_int, heapSort_int, order2_int, median_int, medianAdjacent_int, choosePivot_int, reverseRange_L1_int, reverseRange_int, partialInsertionSort_L1_int, partialInsertionSort_L2_int, partialInsertionSort_L3_int, partialInsertionSort_L4_int, partialInsertionSort_int, partitionEqual_L1_int, partitionEqual_L2_int, partitionEqual_L3_int, partitionEqual_int, partition_L1_int, partition_L2_int, partition_L3_int, partition_L4_int, partition_L5_int, partition_int, c0_int, less_int, dlt_int, Option.bind_some]
theorem breakPatterns_int (data : List Int) (a : Int) (b : Int) : zq34 data a b = Pdq.breakPatterns zq43 zq61 data a b c0_int := by
 simp only [zq34, Pdq.breakPatterns, insertionSort_L1_int, insertionSort_L2_int, insertionSort_int, siftDown_L1_int, siftDown_int, heapSort_L1_int, heapSort_L2_int, heapSort_int, order2_int, median_int, medianAdjacent_int, choosePivot_int, reverseRange_L1_int, reverseRange_int, partialInsertionSort_L1_int, partialInsertionSort_L2_int, partialInsertionSort_L3_int, partialInsertionSort_L4_int, partialInsertionSort_int, partitionEqual_L1_int, partitionEqual_L2_int, partitionEqual_L3_int, partitionEqual_int, partition_L1_int, partition_L2_int, partition_L3_int, partition_L4_int, partition_L5_int, partition_int, breakPatterns_L1_int, c0_int, less_int, dlt_int, Option.bind_some]
theorem pdq_L1_int (rec_ : List Int → Int → Int → Int → Option (List Int)) : zq48_L1 rec_ = Pdq.pdq_L1 zq43 zq61 c0_int rec_ := by
 funext ⟨s0, s1, s2, s3, s4, s5⟩
 simp only [zq48_L1, Pdq.pdq_L1, insertionSort_L1_int, insertionSort_L2_int, insertionSort_int, siftDown_L1_int, siftDown_int, heapSort_L1_int, heapSort_L2_int, heapSort_int, order2_int, median_int, medianAdjacent_int, choosePivot_int, reverseRange_L1_int, reverseRange_int, partialInsertionSort_L1_int, partialInsertionSort_L2_int, partialInsertionSort_L3_int, partialInsertionSort_L4_int, partialInsertionSort_int, partitionEqual_L1_int, partitionEqual_L2_int, partitionEqual_L3_int, partitionEqual_int, partition_L1_int, partition_L2_int, partition_L3_int, partition_L4_int, partition_L5_int, partition_int, breakPatterns_L1_int, breakPatterns_int, c0_int, less_int, dlt_int, Option.bind_some]
theorem pdq_F_int (rec_ : List Int → Int → Int → Int → Option (List Int)) (l : List Int) (a b k : Int) : zq48_F rec_ l a b k = Pdq.pdq_F zq43 zq61 c0_int rec_ l a b k := by
 unfold zq48_F Pdq.pdq_F
 rw [pdq_L1_int]
theorem pdqk_int : ∀ n, zq48_k n = Pdq.pdq_k zq43 zq61 c0_int n
 | 0 => rfl
 | n + 1 => by
  funext l a b k
  show zq48_F (zq48_k n) l a b k = Pdq.pdq_F zq43 zq61 c0_int (Pdq.pdq_k zq43 zq61 c0_int n) l a b k
  rw [pdqk_int n, pdq_F_int]
theorem lt_int : Pdq.Lt c0_int (· ≤ ·) := by
 refine ⟨fun x y => by omega, fun a b => by omega, fun x y => ⟨_, rfl, ?_⟩⟩
 by_cases h : x < y <;> simp [h] <;> omega
theorem sort_int (l : List Int) (h : l.length < 4294967296) : Tot (zq33 l) fun l' => l'.Perm l ∧ l'.Pairwise (· ≤ ·) := by
 unfold zq33
 refine Tot.call (len_ok _ (by dsimp only; rw [u64_id' (by omega) (by omega)]; omega) (by dsimp only; rw [u64_id' (by omega) (by omega)]; omega)) fun r _ => ?_
 unfold zq48
 rw [pdqk_int]
 refine Tot.call (Pdq.pdq_ok lt_int hlp (limit := r) h) fun l' hl' => .ok hl'
def GoodS (s : Span) : Prop := (0 ≤ s.From ∧ s.From ≤ 1799) ∧ (0 ≤ s.To ∧ s.To ≤ 1799) ∧ s.From ≤ s.To
instance (s : Span) : Decidable (GoodS s) := by unfold GoodS; infer_instance
def GoodL (l : List Span) : Prop := l.length ≤ 20 ∧ ∀ s ∈ l, GoodS s
noncomputable instance (l : List Span) : Decidable (GoodL l) := Classical.propDecidable _
theorem within_eq (n a b : Int) : zq12 n a b = some (decide (a ≤ n ∧ n ≤ b)) := by
 unfold zq12
 by_cases h : a ≤ n <;> simp [h]
theorem l1In_eq (n a b : Int) : zq24 n a b = some (decide (a ≤ n ∧ n ≤ b)) := by
 unfold zq24
 by_cases h : a ≤ n <;> simp [h]
theorem time_eq (t : Int) : zq9 t = some (decide (0 ≤ t ∧ t ≤ 1799)) := by
 unfold zq9; rw [within_eq]; rfl
theorem l4Time_eq (t : Int) : zq29 t = some (decide (0 ≤ t ∧ t ≤ 1799)) := by
 unfold zq29; rw [l1In_eq]; rfl
theorem isSpan_eq (s : Span) : zq11 s = some (decide (GoodS s)) := by
 unfold zq11 GoodS
 rw [time_eq, time_eq]
 by_cases h : (0 ≤ s.From ∧ s.From ≤ 1799) <;> by_cases h2 : (0 ≤ s.To ∧ s.To ≤ 1799) <;> simp [h, h2]
theorem l4Span_eq (s : Span) : zq28 s = some (decide (GoodS s)) := by
 unfold zq28 GoodS
 rw [l4Time_eq, l4Time_eq]
 by_cases h : (0 ≤ s.From ∧ s.From ≤ 1799) <;> by_cases h2 : (0 ≤ s.To ∧ s.To ≤ 1799) <;> simp [h, h2]
theorem areSpans_eq (l : List Span) (hl : l.length ≤ 1000) : zq10 l = some (decide (GoodL l)) := by
 unfold zq10
 by_cases h : l.length ≤ 20
 ·have h' : ¬ (20 : Int) < l.length := by omega
  rw [if_neg (by simpa using h')]
  refine flb_dec (Tot.iter (fun m (s : Int) => s.toNat + m = l.length ∧ 0 ≤ s ∧ ∀ (i : Nat) x, i < s.toNat → l[i]? = some x → GoodS x) (n := l.length) ⟨by omega, by omega, fun i x h => absurd h (Nat.not_lt_zero _)⟩ ?_)
  rintro m s ⟨h1, h2, h5⟩
  unfold zq10_L1
  refine .iteP (fun hc => .idx h2 hc fun x hx => .eq (isSpan_eq x) (.iteN (fun hn => .dn (.inr ⟨rfl, fun hg => hn (hg.2 x (List.mem_of_getElem? hx))⟩)) (fun hg => ?_))) (fun hc => .dn (.inl ⟨rfl, h, fun x hx => ?_⟩))
  ·rw [w64_id (by omega)]
   refine .nx ⟨m - 1, by omega, by omega, by omega, fun i y hi hy => ?_⟩
   by_cases hii : i = s.toNat
   ·subst hii; rw [hx] at hy; cases hy; exact hg
   ·exact h5 i y (by omega) hy
  ·obtain ⟨i, hi⟩ := List.getElem?_of_mem hx
   exact h5 i x (by have := get_lt hi; omega) hi
 ·have h' : (20 : Int) < l.length := by omega
  have : ¬ GoodL l := fun a => h a.1
  simp [h', this]
theorem t_pick {k : Nat} {c : l1Cur} (n : Int) (h : Cur k c) (hk : k ≤ 3000000000) : Tot (zq23 c n) fun r => Cur (k + 2) r.2 ∧ 0 ≤ r.1 ∧ (r.1 < n ∨ r.1 = 0) := pick_ok n h hk
theorem rBig_eq (code : List UInt8) : zq62 code = some (decide (65536 < (code.length : Int))) := rfl
theorem compare_int (x y : Int) : zq0 x y = some (if x < y then -1 else if y < x then 1 else 0) := by
 unfold zq0 zq2
 by_cases h : x < y
 ·simp [h]
 ·by_cases h2 : y < x <;> simp [h, h2]
theorem rInts_refl (a : List Int) (h : a.length ≤ 100000) : zq63 a a = some true := by
 unfold zq63
 simp only [bne_self_eq_false, Bool.false_eq_true, if_false]
 rw [all_val (hd := Classical.propDecidable _) a (fun _ _ => True) (fun i x hx => ?_) (by unfold zq63_L1; simp)]
 ·rw [if_pos (fun _ _ _ => trivial)]
 ·have hi := get_lt hx
  unfold zq63_L1
  have hlt : decide ((i : Int) < (a.length : Int)) = true := by simp; omega
  left
  simp only [hlt, if_true, idx_nat, hx, Option.bind_some, bne_self_eq_false, Bool.false_eq_true, if_false, w64_succ (n := i) (by omega), and_self]
theorem symF_ChargerQueue (rec_ data a m b c1) : zq59_F rec_ data a m b c1 = Sym.sm_F (fun z0 z1 => zq6 z0 z1 c1) (fun d a m b => rec_ d a m b c1) data a m b := rfl
theorem symK_ChargerQueue (c1) : ∀ n data a m b, zq59_k n data a m b c1 = Sym.sm_k (fun z0 z1 => zq6 z0 z1 c1) n data a m b
 | 0, _, _, _, _ => rfl
 | n + 1, data, a, m, b => by
  show zq59_F (zq59_k n) data a m b c1 = Sym.sm_F (fun z0 z1 => zq6 z0 z1 c1) (Sym.sm_k (fun z0 z1 => zq6 z0 z1 c1) n) data a m b
  have e : (fun d a m b => zq59_k n d a m b c1) = Sym.sm_k (fun z0 z1 => zq6 z0 z1 c1) n := by
   funext d a m b; exact symK_ChargerQueue c1 n d a m b
  rw [symF_ChargerQueue, e]
theorem sym_ChargerQueue (c1 data a m b) : zq59 data a m b c1 = Sym.sm (fun z0 z1 => zq6 z0 z1 c1) data a m b := symK_ChargerQueue c1 4294967296 data a m b
theorem stL2_ChargerQueue (n c1 m) : zq54_L2 n c1 m = Sym.st_L2 (fun z0 z1 => zq6 z0 z1 c1) n m := by
 funext ⟨v3, v4, d⟩
 unfold zq54_L2 Sym.st_L2
 simp only [sym_ChargerQueue]
theorem stL3_ChargerQueue (n c1) : zq54_L3 n c1 = Sym.st_L3 (fun z0 z1 => zq6 z0 z1 c1) n := by
 funext ⟨m, d⟩
 unfold zq54_L3 Sym.st_L3
 simp only [sym_ChargerQueue, stL2_ChargerQueue]
theorem stable_ChargerQueue (x c1) : zq31 x c1 = Sym.stable (fun z0 z1 => zq6 z0 z1 c1) x (x.length : Int) := by
 unfold zq31 zq54 Sym.stable
 rw [stL3_ChargerQueue]
 have bs : ∀ o : Option (List Int), (o.bind fun r => some r) = o := fun o => by cases o <;> rfl
 rw [bs]
 rfl
theorem symF_CheapestMinutes (rec_ data a m b c1) : zq60_F rec_ data a m b c1 = Sym.sm_F (fun z0 z1 => zq8 z0 z1 c1) (fun d a m b => rec_ d a m b c1) data a m b := rfl
theorem symK_CheapestMinutes (c1) : ∀ n data a m b, zq60_k n data a m b c1 = Sym.sm_k (fun z0 z1 => zq8 z0 z1 c1) n data a m b
 | 0, _, _, _, _ => rfl
 | n + 1, data, a, m, b => by
  show zq60_F (zq60_k n) data a m b c1 = Sym.sm_F (fun z0 z1 => zq8 z0 z1 c1) (Sym.sm_k (fun z0 z1 => zq8 z0 z1 c1) n) data a m b
  have e : (fun d a m b => zq60_k n d a m b c1) = Sym.sm_k (fun z0 z1 => zq8 z0 z1 c1) n := by
   funext d a m b; exact symK_CheapestMinutes c1 n d a m b
  rw [symF_CheapestMinutes, e]
theorem sym_CheapestMinutes (c1 data a m b) : zq60 data a m b c1 = Sym.sm (fun z0 z1 => zq8 z0 z1 c1) data a m b := symK_CheapestMinutes c1 4294967296 data a m b
theorem stL2_CheapestMinutes (n c1 m) : zq55_L2 n c1 m = Sym.st_L2 (fun z0 z1 => zq8 z0 z1 c1) n m := by
 funext ⟨v3, v4, d⟩
 unfold zq55_L2 Sym.st_L2
 simp only [sym_CheapestMinutes]
theorem stL3_CheapestMinutes (n c1) : zq55_L3 n c1 = Sym.st_L3 (fun z0 z1 => zq8 z0 z1 c1) n := by
 funext ⟨m, d⟩
 unfold zq55_L3 Sym.st_L3
 simp only [sym_CheapestMinutes, stL2_CheapestMinutes]
theorem stable_CheapestMinutes (x c1) : zq32 x c1 = Sym.stable (fun z0 z1 => zq8 z0 z1 c1) x (x.length : Int) := by
 unfold zq32 zq55 Sym.stable
 rw [stL3_CheapestMinutes]
 have bs : ∀ o : Option (List Int), (o.bind fun r => some r) = o := fun o => by cases o <;> rfl
 rw [bs]
 rfl
theorem sd_uniq {key : Int → Int} {l m : List Int} (h1 : Sym.Sd key l) (h2 : Sym.Sd key m) (hp : l.Perm m) : l = m :=
 List.Perm.eq_of_pairwise (le := Sym.R key) (fun a b _ _ h3 h4 => by unfold Sym.R at h3 h4; omega) h1 h2 hp
def rng (n : Nat) : List Int := (List.range n).map fun (i : Nat) => (i : Int)
theorem rng_succ (n : Nat) : rng (n + 1) = rng n ++ [(n : Int)] := by unfold rng; rw [List.range_succ, List.map_append]; rfl
theorem rng_len (n : Nat) : (rng n).length = n := by unfold rng; simp
theorem mem_rng {n : Nat} {x : Int} : x ∈ rng n ↔ 0 ≤ x ∧ x < (n : Int) := by
 unfold rng
 simp only [List.mem_map, List.mem_range]
 constructor
 ·rintro ⟨a, h, rfl⟩; omega
 ·intro h; exact ⟨x.toNat, by omega, by omega⟩
theorem rng_inc (n : Nat) : (rng n).Pairwise (· < ·) := by
 induction n with
 | zero => exact List.Pairwise.nil
 | succ n ih =>
  rw [rng_succ]
  refine List.pairwise_append.2 ⟨ih, List.pairwise_singleton .., fun a ha b hb => ?_⟩
  rw [List.mem_singleton] at hb; subst hb
  exact (mem_rng.1 ha).2
def fromOf (list : List Span) (x : Int) : Int := (list[x.toNat]?.map (·.From)).getD 0
theorem from_at {list : List Span} {i : Nat} {s : Span} (h : list[i]? = some s) : fromOf list (i : Int) = s.From := by unfold fromOf; rw [Int.toNat_natCast, h]; rfl
theorem cm_queue (list : List Span) : Sym.Cm (fun z0 z1 => zq6 z0 z1 list) (fromOf list) (fun x => 0 ≤ x ∧ x < (list.length : Int)) := by
 intro x y hx hy
 obtain ⟨i, rfl⟩ : ∃ i : Nat, x = i := ⟨x.toNat, by omega⟩
 obtain ⟨j, rfl⟩ : ∃ j : Nat, y = j := ⟨y.toNat, by omega⟩
 obtain ⟨s, hs⟩ := get_ex (l := list) (i := i) (by omega)
 obtain ⟨t, ht⟩ := get_ex (l := list) (i := j) (by omega)
 refine ⟨if s.From < t.From then -1 else if t.From < s.From then 1 else 0, ?_, ?_⟩
 ·show zq6 (i : Int) (j : Int) list = _
  unfold zq6
  rw [ixs hs, Option.bind_some, ixs ht, Option.bind_some, compare_int, Option.bind_some]
 ·rw [from_at hs, from_at ht]
  by_cases h1 : s.From < t.From
  ·simp [h1]
  ·by_cases h2 : t.From < s.From <;> simp [h1, h2]
theorem fill_ok (list : List Span) (hl : list.length ≤ 1000) : iter (zq5_L1 list) ((0 : Int), (List.replicate (list.length : Int).toNat (0 : Int))) = some (rng list.length) := by
 refine Tot.val (Tot.iter (fun m (s : Int × List Int) => ∃ i : Nat, m + i = list.length ∧ s.1 = (i : Int) ∧ s.2 = rng i ++ List.replicate m (0 : Int)) (n := list.length) ⟨0, by omega, rfl, by simp [rng]⟩ ?_)
 rintro m ⟨v, d⟩ ⟨i, hm, hv, hd⟩
 dsimp only at hv hd
 subst hv
 unfold zq5_L1
 dsimp only
 rw [List.length_replicate, Int.toNat_natCast]
 refine .iteP (fun hlt => ?_) (fun hge => .dn (by rw [hd, show m = 0 by omega, show i = list.length by omega]; simp))
 obtain ⟨q, rfl⟩ : ∃ q, m = q + 1 := ⟨m - 1, by omega⟩
 obtain ⟨a1, a2⟩ := Sym.mid_set (P := rng i) (Q := List.replicate q (0 : Int)) (x := 0) (y := (i : Int)) (i := i) (rng_len i)
 have e : d = rng i ++ 0 :: List.replicate q (0 : Int) := by rw [hd, List.replicate_succ]
 rw [← e] at a1 a2
 refine .eq (ixs a1) (.nx ⟨q, by omega, i + 1, by omega, w64_succ (by omega), ?_⟩)
 show d.set ((i : Int)).toNat (i : Int) = _
 rw [Int.toNat_natCast, a2, rng_succ]; simp
theorem iorder_ok (list : List Span) (hl : list.length ≤ 1000) : ∃ o, zq31 (rng list.length) list = some o ∧ o.Perm (rng list.length) ∧ Sym.Sd (fromOf list) o := by
 have h := Sym.stable_ok (cm_queue list) (rng_inc list.length) (fun y hy => mem_rng.1 hy) (by rw [rng_len]; omega)
 rw [stable_ChargerQueue]
 exact h
theorem sorder_ok (list : List Span) (hl : list.length ≤ 1000) (hg : ∀ s ∈ list, GoodS s) : ∃ o, iter (zq16_L2 list) ((0 : Int), ([] : List Int)) = some (.go o) ∧ o.Perm (rng list.length) ∧ Sym.Sd (fromOf list) o := by
 have : Tot (iter (zq16_L2 list) ((0 : Int), ([] : List Int))) fun r => ∃ o, r = .go o ∧ o.Perm (rng list.length) ∧ Sym.Sd (fromOf list) o := by
  refine Tot.iter (fun m (s : Int × List Int) => ∃ i : Nat, m + i = list.length ∧ s.1 = (i : Int) ∧ s.2.Perm (rng i) ∧ Sym.Sd (fromOf list) s.2) (n := list.length) ⟨0, by omega, rfl, by simp [rng], List.Pairwise.nil⟩ ?_
  rintro m ⟨v, k⟩ ⟨i, hm, hv, hp, hs⟩
  dsimp only at hv hp hs
  subst hv
  unfold zq16_L2
  dsimp only
  refine .iteP (fun hlt => ?_) (fun hge => .dn ⟨k, rfl, by rwa [show i = list.length by omega] at hp, hs⟩)
  obtain ⟨x, hx⟩ := get_ex (l := list) (i := i) (by omega)
  have hlk := hp.length_eq
  rw [rng_len] at hlk
  have hin : ∀ y ∈ k, 0 ≤ y ∧ y < (i : Int) := fun y hy => mem_rng.1 (hp.mem_iff.1 hy)
  rw [ixs hx, Option.bind_some, l4Span_eq, Option.bind_some, decide_eq_true (hg x (List.mem_of_getElem? hx)), if_neg (by simp)]
  have hfx := from_at hx
  obtain ⟨p, p1, p2, p3, p4⟩ : ∃ p : Nat, iter (zq16_L1 list (i : Int) k) (k.length : Int) = some (p : Int) ∧ p ≤ k.length ∧ (∀ y ∈ k.drop p, x.From < fromOf list y) ∧ ∀ y ∈ k.take p, fromOf list y ≤ x.From := by
   have : Tot (iter (zq16_L1 list (i : Int) k) (k.length : Int)) fun r => ∃ p : Nat, r = (p : Int) ∧ p ≤ k.length ∧ (∀ y ∈ k.drop p, x.From < fromOf list y) ∧ ∀ y ∈ k.take p, fromOf list y ≤ x.From := by
    refine Tot.iter (fun m (s : Int) => s = (m : Int) ∧ m ≤ k.length ∧ ∀ y ∈ k.drop m, x.From < fromOf list y) (n := k.length) ⟨rfl, Nat.le_refl _, by simp⟩ ?_
    rintro m s ⟨rfl, hmk, hd⟩
    unfold zq16_L1
    dsimp only
    rcases Nat.eq_zero_or_pos m with h0 | h0
    ·subst h0
     rw [if_neg (by simp)]
     simp only [Option.bind_some, Bool.false_eq_true, if_false]
     exact .dn ⟨0, rfl, Nat.zero_le _, hd, by simp⟩
    ·obtain ⟨y, hy⟩ := get_ex (l := k) (i := m - 1) (by omega)
     have hy0 := hin y (List.mem_of_getElem? hy)
     obtain ⟨j, rfl⟩ : ∃ j : Nat, y = j := ⟨y.toNat, by omega⟩
     obtain ⟨z, hz⟩ := get_ex (l := list) (i := j) (by omega)
     have hfz := from_at hz
     rw [if_pos (by simp; omega), w64_id (by omega), show (m : Int) - 1 = ((m - 1 : Nat) : Int) by omega, ixs hy, Option.bind_some, ixs hz, Option.bind_some, ixs hx, Option.bind_some, Option.bind_some]
     refine .iteP (fun hlt2 => .nx ⟨m - 1, by omega, rfl, by omega, fun w hw => ?_⟩) (fun hge => .dn ⟨m, rfl, hmk, hd, fun w hw => ?_⟩)
     ·rw [Sym.drop1 hy, show m - 1 + 1 = m by omega] at hw
      rcases List.mem_cons.1 hw with rfl | hw
      ·omega
      ·exact hd w hw
     ·obtain ⟨q, q1, q2, rfl⟩ := Sym.mem_takeD hw
      have := hs.le (i := q) (j := m - 1) (by omega) (by omega)
      have e : k.getD (m - 1) 0 = (j : Int) := by rw [List.getD_eq_getElem?_getD, hy]; rfl
      rw [e] at this
      omega
   obtain ⟨r, h, p, rfl, hp⟩ := this
   exact ⟨p, h, hp⟩
  have t1 : ((p : Nat) : Int).toNat = p := Int.toNat_natCast p
  have t2 : (0 : Int).toNat = 0 := rfl
  rw [p1, Option.bind_some, t1, t2, List.drop_zero, chk_of ⟨by omega, by omega, by omega⟩, Option.bind_some, chk_of (by simp; omega), Option.bind_some, chk_of (by simp; omega), Option.bind_some, chk_of ⟨by omega, by omega⟩, Option.bind_some, chk_of (by simp; omega), Option.bind_some, List.nil_append]
  have hsp := hs.split p
  refine .nx ⟨m - 1, by omega, i + 1, by omega, w64_succ (by omega), ?_, ?_⟩
  ·show (k.take p ++ [(i : Int)] ++ k.drop p).Perm _
   rw [rng_succ, List.append_assoc, List.singleton_append]
   have := List.perm_middle (a := (i : Int)) (l₁ := k.take p) (l₂ := k.drop p)
   rw [List.take_append_drop] at this
   exact this.trans (((List.Perm.cons (i : Int) hp)).trans (List.perm_append_comm (l₁ := [(i : Int)]) (l₂ := rng i)))
  ·show Sym.Sd _ (k.take p ++ [(i : Int)] ++ k.drop p)
   rw [List.append_assoc, List.singleton_append]
   refine List.pairwise_append.2 ⟨hsp.1, List.pairwise_cons.2 ⟨fun y hy => ?_, hsp.2.1⟩, fun y hy z hz => ?_⟩
   ·have := p3 y hy
    unfold Sym.R; omega
   ·rcases List.mem_cons.1 hz with rfl | hz
    ·have := p4 y hy
     have := (hin y (List.mem_of_mem_take hy)).2
     unfold Sym.R; omega
    ·exact hsp.2.2 y hy z hz
 obtain ⟨r, h, o, rfl, ho⟩ := this
 exact ⟨o, h, ho⟩
theorem sbad_ok (list : List Span) (hl : list.length ≤ 1000) (hb : ∃ s ∈ list, ¬ GoodS s) : iter (zq16_L2 list) ((0 : Int), ([] : List Int)) = some (.ret ([], false)) := by
 refine Tot.val (Tot.iter (fun m (s : Int × List Int) => ∃ i : Nat, m + i = list.length ∧ s.1 = (i : Int) ∧ s.2.length = i ∧ (∀ y ∈ s.2, 0 ≤ y ∧ y < (i : Int)) ∧ ∀ (j : Nat) x, j < i → list[j]? = some x → GoodS x) (n := list.length) ⟨0, by omega, rfl, rfl, by simp, fun j x h => by omega⟩ ?_)
 rintro m ⟨v, k⟩ ⟨i, hm, hv, hk, hin, hgood⟩
 dsimp only at hv hk hin
 subst hv
 unfold zq16_L2
 dsimp only
 refine .iteP (fun hlt => ?_) (fun hge => ?_)
 ·obtain ⟨x, hx⟩ := get_ex (l := list) (i := i) (by omega)
  rw [ixs hx, Option.bind_some, l4Span_eq, Option.bind_some]
  by_cases hg : GoodS x
  ·rw [decide_eq_true hg, if_neg (by simp)]
   refine .call (P := fun r => ∃ p : Nat, r = (p : Int) ∧ p ≤ k.length) (Tot.iter (fun m (s : Int) => s = (m : Int) ∧ m ≤ k.length) (n := k.length) ⟨rfl, Nat.le_refl _⟩ ?_) fun r ⟨p, hr, p2⟩ => ?_
   ·rintro q s ⟨rfl, hq⟩
    unfold zq16_L1
    dsimp only
    rcases Nat.eq_zero_or_pos q with h0 | h0
    ·subst h0
     rw [if_neg (by simp)]
     simp only [Option.bind_some, Bool.false_eq_true, if_false]
     exact .dn ⟨0, rfl, by omega⟩
    ·obtain ⟨y, hy⟩ := get_ex (l := k) (i := q - 1) (by omega)
     have hy0 := hin y (List.mem_of_getElem? hy)
     obtain ⟨j, rfl⟩ : ∃ j : Nat, y = j := ⟨y.toNat, by omega⟩
     obtain ⟨z, hz⟩ := get_ex (l := list) (i := j) (by omega)
     rw [if_pos (by simp; omega), w64_id (by omega), show (q : Int) - 1 = ((q - 1 : Nat) : Int) by omega, ixs hy, Option.bind_some, ixs hz, Option.bind_some, ixs hx, Option.bind_some, Option.bind_some]
     exact .iteP (fun _ => .nx ⟨q - 1, by omega, rfl, by omega⟩) (fun _ => .dn ⟨q, rfl, hq⟩)
   ·subst hr
    have t1 : ((p : Nat) : Int).toNat = p := Int.toNat_natCast p
    have t2 : (0 : Int).toNat = 0 := rfl
    rw [t1, t2, List.drop_zero, chk_of ⟨by omega, by omega, by omega⟩, Option.bind_some, chk_of (by simp; omega), Option.bind_some, chk_of (by simp; omega), Option.bind_some, chk_of ⟨by omega, by omega⟩, Option.bind_some, chk_of (by simp; omega), Option.bind_some, List.nil_append]
    refine .nx ⟨m - 1, by omega, i + 1, by omega, w64_succ (by omega), by simp; omega, fun y hy => ?_, fun j z hj hz => ?_⟩
    ·have hy : y ∈ k.take p ++ [(i : Int)] ++ k.drop p := hy
     simp only [List.mem_append, List.mem_singleton] at hy
     rcases hy with (h | h) | h
     ·have := hin y (List.mem_of_mem_take h); omega
     ·omega
     ·have := hin y (List.mem_of_mem_drop h); omega
    ·by_cases hji : j = i
     ·subst hji; rw [hx] at hz; cases hz; exact hg
     ·exact hgood j z (by omega) hz
  ·rw [decide_eq_false hg, if_pos (by simp)]
   exact .dn rfl
 ·exfalso
  obtain ⟨s, hs, hbad⟩ := hb
  obtain ⟨j, hj⟩ := List.mem_iff_getElem?.1 hs
  exact hbad (hgood j s (by have := get_lt hj; omega) hj)
theorem l3_same (free : List Int) : zq16_L3 (free.length : Int) free = zq5_L2 free := rfl
theorem amin_ok {free : List Int} (h0 : 0 < free.length) (hl : free.length ≤ 1000) : ∃ m : Nat, iter (zq5_L2 free) ((0 : Int), (0 : Int)) = some (m : Int) ∧ iter (zq16_L3 (free.length : Int) free) ((0 : Int), (1 : Int)) = some (m : Int) ∧ m < free.length ∧ ∀ c, c < free.length → free.getD m 0 ≤ free.getD c 0 := by
 obtain ⟨x0, hx0⟩ := get_ex (l := free) (i := 0) h0
 have s0 : zq5_L2 free ((0 : Int), (0 : Int)) = some (.nx ((0 : Int), (1 : Int))) := by
  unfold zq5_L2
  dsimp only
  rw [if_pos (by simp; omega), show idx free 0 = some x0 from (idx_nat free 0).trans hx0, Option.bind_some, Option.bind_some, if_neg (by simp)]
  rfl
 have : Tot (iter (zq5_L2 free) ((0 : Int), (1 : Int))) fun r => ∃ m : Nat, r = (m : Int) ∧ m < free.length ∧ ∀ c, c < free.length → free.getD m 0 ≤ free.getD c 0 := by
  refine Tot.iter (fun q (s : Int × Int) => ∃ m i : Nat, q + i = free.length ∧ s.1 = (m : Int) ∧ s.2 = (i : Int) ∧ m < i ∧ ∀ c, c < i → free.getD m 0 ≤ free.getD c 0) (n := free.length - 1) ⟨0, 1, by omega, rfl, rfl, by omega, fun c hc => by rw [show c = 0 by omega]; exact Int.le_refl _⟩ ?_
  rintro q ⟨v, w⟩ ⟨m, i, hq, h1, h2, h3, h4⟩
  dsimp only at h1 h2
  subst h1; subst h2
  unfold zq5_L2
  dsimp only
  refine .iteP (fun hlt => ?_) (fun hge => .dn ⟨m, rfl, by omega, fun c hc => h4 c (by omega)⟩)
  have e1 := (Sym.getD_mem (l := free) (i := i) (by omega)).2
  have e2 := (Sym.getD_mem (l := free) (i := m) (by omega)).2
  rw [ixs e1, Option.bind_some, ixs e2, Option.bind_some]
  by_cases hc : free.getD i 0 < free.getD m 0
  ·rw [if_pos (by simpa using hc), Option.bind_some]
   refine .nx ⟨q - 1, by omega, i, i + 1, by omega, rfl, w64_succ (by omega), by omega, fun c hcc => ?_⟩
   rcases Nat.lt_or_ge c i with g | g
   ·have := h4 c g; omega
   ·rw [show c = i by omega]; exact Int.le_refl _
  ·rw [if_neg (by simpa using hc), Option.bind_some]
   refine .nx ⟨q - 1, by omega, m, i + 1, by omega, rfl, w64_succ (by omega), by omega, fun c hcc => ?_⟩
   rcases Nat.lt_or_ge c i with g | g
   ·exact h4 c g
   ·rw [show c = i by omega]; omega
 obtain ⟨r, h1, m, rfl, h2, h3⟩ := this
 exact ⟨m, by rw [iter_nx s0, h1], by rw [l3_same, h1], h2, h3⟩
def mx3 (F l f : Int) : Int := if f > (if F > l then F else l) then f else (if F > l then F else l)
theorem most3 (F l f : Int) : ∃ r5, zq26 F f = some r5 ∧ zq26 r5 l = some (mx3 F l f) := by
 unfold zq26 mx3
 by_cases h1 : f < F
 ·refine ⟨F, by rw [if_pos (by simpa using h1)], ?_⟩
  by_cases h2 : l < F
  ·rw [if_pos (by simpa using h2), if_pos h2, if_neg (by omega)]
  ·rw [if_neg (by simpa using h2), if_neg (by omega), if_neg (by omega)]
 ·refine ⟨f, by rw [if_neg (by simpa using h1)], ?_⟩
  by_cases h2 : l < f
  ·rw [if_pos (by simpa using h2)]
   by_cases h3 : F > l
   ·rw [if_pos h3]
    by_cases h4 : f > F
    ·rw [if_pos h4]
    ·rw [if_neg h4]; congr 1; omega
   ·rw [if_neg h3, if_pos (by omega)]
  ·rw [if_neg (by simpa using h2), if_neg (show ¬ F > l by omega), if_neg (by omega)]
theorem mx3_ge (F l f : Int) : F ≤ mx3 F l f ∧ l ≤ mx3 F l f ∧ f ≤ mx3 F l f ∧ (mx3 F l f = F ∨ mx3 F l f = l ∨ mx3 F l f = f) := by
 unfold mx3
 split <;> split <;> omega
theorem set_getD {l : List Int} {i j : Nat} {v : Int} (hi : i < l.length) : (l.set i v).getD j 0 = if j = i then v else l.getD j 0 := by
 rw [List.getD_eq_getElem?_getD, List.getD_eq_getElem?_getD]
 by_cases h : j = i
 ·subst h; rw [List.getElem?_set_self hi, if_pos rfl]; rfl
 ·rw [List.getElem?_set_ne (Ne.symm h), if_neg h]
theorem queue_run {list : List Span} (hg : ∀ s ∈ list, GoodS s) {c : Nat} (hc : 0 < c ∧ c ≤ 10) {o : List Int} (hp : o.Perm (rng list.length)) (hl : list.length ≤ 20) :
  ∃ r : Fl (List Int × Bool) (List Int), iter (zq5_L3 list o) ((0 : Int), (0 : Int), List.replicate (c : Int).toNat (0 : Int), List.replicate (list.length : Int).toNat (0 : Int)) = some r ∧ iter (zq16_L4 list (c : Int) o) ((0 : Int), (0 : Int), List.replicate (list.length : Int).toNat (0 : Int), List.replicate (c : Int).toNat (0 : Int)) = some r ∧ (r = .ret ([], false) ∨ ∃ out : List Int, r = .go out ∧ out.length = list.length ∧ ∀ (i : Nat) s, list[i]? = some s → s.From ≤ out.getD i 0) := by
 have hlo := hp.length_eq
 rw [rng_len] at hlo
 let I : Nat → (Int × Int × List Int × List Int) → (Int × Int × List Int × List Int) → Prop := fun q a a' => ∃ (k : Nat) (last : Int) (free out : List Int), q + k = o.length ∧ a = (last, (k : Int), free, out) ∧ a' = (last, (k : Int), out, free) ∧ free.length = c ∧ out.length = list.length ∧ (0 ≤ last ∧ last ≤ 1799) ∧ (∀ x ∈ free, 0 ≤ x ∧ x ≤ 4000) ∧ ∀ j ∈ o.take k, fromOf list j ≤ out.getD j.toNat 0
 let T : Fl (List Int × Bool) (List Int) → Fl (List Int × Bool) (List Int) → Prop := fun r r' => r = r' ∧ (r = .ret ([], false) ∨ ∃ out : List Int, r = .go out ∧ out.length = list.length ∧ ∀ j ∈ o, fromOf list j ≤ out.getD j.toNat 0)
 have hstep : ∀ q a a', I q a a' → (∃ b b' q', zq5_L3 list o a = some (.nx b) ∧ zq16_L4 list (c : Int) o a' = some (.nx b') ∧ q' < q ∧ I q' b b') ∨ ∃ x x', zq5_L3 list o a = some (.dn x) ∧ zq16_L4 list (c : Int) o a' = some (.dn x') ∧ T x x' := by
  rintro q a a' ⟨k, last, free, out, hq, rfl, rfl, hf, ho, hla, hfr, hout⟩
  unfold zq5_L3 zq16_L4
  dsimp only
  rcases Nat.lt_or_ge k o.length with hlt | hge
  ·obtain ⟨e, he⟩ := get_ex (l := o) (i := k) hlt
   have hem := mem_rng.1 (hp.mem_iff.1 (List.mem_of_getElem? he))
   obtain ⟨j, rfl⟩ : ∃ j : Nat, e = j := ⟨e.toNat, by omega⟩
   obtain ⟨s, hs⟩ := get_ex (l := list) (i := j) (by omega)
   obtain ⟨g1, g2, g3⟩ := hg s (List.mem_of_getElem? hs)
   obtain ⟨m, m1, m2, m3, m4⟩ := amin_ok (free := free) (by omega) (by omega)
   rw [hf] at m2
   have hfm := (Sym.getD_mem (l := free) (i := m) m3)
   have hfb := hfr _ hfm.1
   obtain ⟨r5, r6, r7⟩ := most3 s.From last (free.getD m 0)
   obtain ⟨x1, x2, x3, x4⟩ := mx3_ge s.From last (free.getD m 0)
   have ho1 := (Sym.getD_mem (l := out) (i := j) (by omega)).2
   rw [if_pos (by simp; omega), if_pos (by simp; omega), ixs he]
   simp only [Option.bind_some, m1, m2, ixs hs, ixs hfm.2, r6, r7]
   rw [show (if free.getD m 0 > (if s.From > last then s.From else last) then free.getD m 0 else (if s.From > last then s.From else last)) = mx3 s.From last (free.getD m 0) from rfl]
   by_cases hbig : 1799 < mx3 s.From last (free.getD m 0)
   ·right
    rw [if_pos (by simpa using hbig), if_pos (by simpa using hbig)]
    exact ⟨_, _, rfl, rfl, rfl, .inl rfl⟩
   ·left
    rw [if_neg (by simpa using hbig), if_neg (by simpa using hbig), ixs ho1]
    simp only [Option.bind_some, Int.toNat_natCast, w64_succ (n := k) (show k < 9223372036854775807 by omega)]
    refine ⟨_, _, q - 1, rfl, rfl, by omega, k + 1, mx3 s.From last (free.getD m 0), free.set m (w64 (w64 (mx3 s.From last (free.getD m 0) + s.To) - s.From)), out.set j (mx3 s.From last (free.getD m 0)), by omega, rfl, rfl, by rw [List.length_set]; exact hf, by rw [List.length_set]; exact ho, by omega, fun x hx => ?_, fun z hz => ?_⟩
    ·rcases List.mem_or_eq_of_mem_set hx with h | h
     ·exact hfr x h
     ·rw [h, w64_id (x := mx3 s.From last (free.getD m 0) + s.To) (by omega), w64_id (by omega)]; omega
    ·rw [take_succ he] at hz
     have hzr : z ∈ o := by
      rcases List.mem_append.1 hz with h | h
      ·exact List.mem_of_mem_take h
      ·rw [List.mem_singleton] at h; rw [h]; exact List.mem_of_getElem? he
     have hzb := mem_rng.1 (hp.mem_iff.1 hzr)
     rw [set_getD (by omega)]
     by_cases hzj : z.toNat = j
     ·rw [if_pos hzj, show z = (j : Int) by omega, from_at hs]; exact x1
     ·rw [if_neg hzj]
      rcases List.mem_append.1 hz with h | h
      ·exact hout z h
      ·rw [List.mem_singleton] at h; rw [h] at hzj; simp at hzj
  ·right
   rw [if_neg (by simp; omega), if_neg (by simp; omega)]
   refine ⟨_, _, rfl, rfl, rfl, .inr ⟨out, rfl, ho, fun j hj => hout j ?_⟩⟩
   rwa [List.take_of_length_le hge]
 obtain ⟨x, x', e1, e2, e3, e4⟩ := iter2 I T hstep (k := o.length) (a := ((0 : Int), (0 : Int), List.replicate (c : Int).toNat (0 : Int), List.replicate (list.length : Int).toNat (0 : Int))) (a' := ((0 : Int), (0 : Int), List.replicate (list.length : Int).toNat (0 : Int), List.replicate (c : Int).toNat (0 : Int)))
  ⟨0, 0, _, _, by omega, rfl, rfl, by rw [List.length_replicate, Int.toNat_natCast], by rw [List.length_replicate, Int.toNat_natCast], by omega, fun x hx => by rw [List.eq_of_mem_replicate hx]; omega, fun j hj => by simp at hj⟩
 subst e3
 refine ⟨x, e1, e2, ?_⟩
 rcases e4 with h | ⟨out, h1, h2, h3⟩
 ·exact .inl h
 ·refine .inr ⟨out, h1, h2, fun i s hs => ?_⟩
  have := h3 (i : Int) (hp.mem_iff.2 (mem_rng.2 (by have := get_lt hs; omega)))
  rwa [from_at hs, Int.toNat_natCast] at this
theorem queue_both (list : List Span) (hl : list.length ≤ 100) (c : Int) : ∃ (out : List Int) (b : Bool), zq5 list c = some (out, b) ∧ zq16 list c = some (out, b) ∧ out.length ≤ 1000 ∧ (b = true → GoodL list ∧ 1 ≤ c ∧ c ≤ 10 ∧ out.length = list.length ∧ ∀ (i : Nat) s, list[i]? = some s → s.From ≤ out.getD i 0) := by
 unfold zq5 zq16
 rw [areSpans_eq list (by omega), within_eq, l1In_eq]
 by_cases hn : list.length ≤ 20
 ·by_cases hcc : 1 ≤ c ∧ c ≤ 10
  ·have n20 : ¬ (20 : Int) < (list.length : Int) := by omega
   by_cases hG : GoodL list
   ·obtain ⟨n, rfl⟩ : ∃ n : Nat, c = n := ⟨c.toNat, by omega⟩
    obtain ⟨o, o1, o2, o3⟩ := iorder_ok list (by omega)
    obtain ⟨o', p1, p2, p3⟩ := sorder_ok list (by omega) hG.2
    have : o = o' := sd_uniq o3 p3 (o2.trans p2.symm)
    subst this
    obtain ⟨r, r1, r2, r3⟩ := queue_run hG.2 (c := n) (by omega) o2 hn
    simp only [hG, decide_true, Option.bind_some, Bool.not_true, Bool.false_eq_true, if_false, hcc, and_self, n20, decide_false]
    have fg : ∀ k : List Int → Option (List Int × Bool), flb (some (.go o : Fl (List Int × Bool) (List Int))) k = k o := fun k => rfl
    simp only [chk_of (show (0 : Int) ≤ (n : Int) ∧ (n : Int) ≤ 4294967296 by omega), chk_of (show (0 : Int) ≤ (list.length : Int) ∧ (list.length : Int) ≤ 4294967296 by omega), Option.bind_some, fill_ok list (by omega), o1, r1, p1, fg, r2]
    rcases r3 with rfl | ⟨out, rfl, q1, q2⟩
    ·exact ⟨[], false, rfl, rfl, by simp, fun h => (by cases h)⟩
    ·exact ⟨out, true, rfl, rfl, by omega, fun _ => ⟨trivial, trivial, trivial, q1, q2⟩⟩
   ·have hbad : ∃ s ∈ list, ¬ GoodS s := by
     refine Classical.byContradiction fun h => hG ⟨hn, fun s hs => Classical.byContradiction fun h2 => h ⟨s, hs, h2⟩⟩
    have e2 : iter (zq16_L2 list) ((0 : Int), ([] : List Int)) = some (.ret ([], false)) := sbad_ok list (by omega) hbad
    simp only [hG, decide_false, Option.bind_some, Bool.not_false, if_true, hcc, and_self, decide_true, n20, Bool.not_true, Bool.false_eq_true, if_false, e2]
    exact ⟨[], false, rfl, rfl, by simp, fun h => (by cases h)⟩
  ·refine ⟨[], false, ?_, ?_, by simp, fun h => (by cases h)⟩
   ·by_cases hG : GoodL list <;> simp [hG, hcc]
   ·have n20 : ¬ (20 : Int) < (list.length : Int) := by omega
    simp [n20, hcc]
 ·have n20 : (20 : Int) < (list.length : Int) := by omega
  have hG : ¬ GoodL list := fun h => hn h.1
  exact ⟨[], false, by simp [hG], by simp [n20], by simp, fun h => (by cases h)⟩
def toOf (list : List Span) (x : Int) : Int := (list[x.toNat]?.map (·.To)).getD 0
theorem to_at {list : List Span} {i : Nat} {s : Span} (h : list[i]? = some s) : toOf list (i : Int) = s.To := by unfold toOf; rw [Int.toNat_natCast, h]; rfl
def cov (list : List Span) (u j : Int) : Bool := decide (fromOf list j ≤ u ∧ u < toOf list j)
def cntN (list : List Span) (u : Int) (i : Nat) : Nat := ((rng i).filter (cov list u)).length
def cnt (list : List Span) (u : Int) : Nat := cntN list u list.length
theorem cntN_succ (list : List Span) (u : Int) (i : Nat) : cntN list u (i + 1) = cntN list u i + if cov list u (i : Int) = true then 1 else 0 := by
 unfold cntN
 rw [rng_succ, List.filter_append, List.length_append]
 by_cases h : cov list u (i : Int) = true <;> simp [h]
theorem cntN_le (list : List Span) (u : Int) (i : Nat) : cntN list u i ≤ i := by
 unfold cntN
 have := List.length_filter_le (cov list u) (rng i)
 rw [rng_len] at this; exact this
theorem icount_ok {list : List Span} (hl : list.length ≤ 1000) (e : Span) : iter (zq3_L1 list e) ((0 : Int), (0 : Int)) = some ((cnt list e.From : Nat) : Int) := by
 refine Tot.val (Tot.iter (fun m (s : Int × Int) => ∃ i : Nat, m + i = list.length ∧ s.2 = (i : Int) ∧ s.1 = ((cntN list e.From i : Nat) : Int)) (n := list.length) ⟨0, by omega, rfl, rfl⟩ ?_)
 rintro m ⟨v, w⟩ ⟨i, hm, h1, h2⟩
 dsimp only at h1 h2
 subst h1; subst h2
 unfold zq3_L1
 dsimp only
 refine .iteP (fun hlt => ?_) (fun hge => .dn (by rw [show i = list.length by omega]; rfl))
 obtain ⟨x, hx⟩ := get_ex (l := list) (i := i) (by omega)
 have hc := cntN_succ list e.From i
 have hle := cntN_le list e.From i
 have hcv : cov list e.From (i : Int) = decide (x.From ≤ e.From ∧ e.From < x.To) := by unfold cov; rw [from_at hx, to_at hx]
 have hif : (if (decide (x.From ≤ e.From)) = true then some (decide (e.From < x.To)) else some false) = some (cov list e.From (i : Int)) := by
  rw [hcv]; by_cases h1 : x.From ≤ e.From <;> simp [h1]
 rw [ixs hx, Option.bind_some, hif, Option.bind_some]
 by_cases h : cov list e.From (i : Int) = true
 ·rw [if_pos h] at hc ⊢
  exact .nx ⟨m - 1, by omega, i + 1, by omega, w64_succ (by omega), by rw [hc]; exact w64_succ (by omega)⟩
 ·rw [if_neg h] at hc ⊢
  exact .nx ⟨m - 1, by omega, i + 1, by omega, w64_succ (by omega), by rw [hc]; rfl⟩
theorem scount_ok {list : List Span} (hl : list.length ≤ 1000) (u : Int) : iter (zq15_L2 list u) ((0 : Int), (0 : Int)) = some ((cnt list u : Nat) : Int) := by
 refine Tot.val (Tot.iter (fun m (s : Int × Int) => ∃ i : Nat, m + i = list.length ∧ s.2 = (i : Int) ∧ s.1 = ((cntN list u i : Nat) : Int)) (n := list.length) ⟨0, by omega, rfl, rfl⟩ ?_)
 rintro m ⟨v, w⟩ ⟨i, hm, h1, h2⟩
 dsimp only at h1 h2
 subst h1; subst h2
 unfold zq15_L2
 dsimp only
 refine .iteP (fun hlt => ?_) (fun hge => .dn (by rw [show i = list.length by omega]; rfl))
 obtain ⟨x, hx⟩ := get_ex (l := list) (i := i) (by omega)
 have hc := cntN_succ list u i
 have hle := cntN_le list u i
 have hcv : cov list u (i : Int) = decide (x.From ≤ u ∧ u < x.To) := by unfold cov; rw [from_at hx, to_at hx]
 have hif : (if (decide (x.From ≤ u)) = true then some (decide (u < x.To)) else some false) = some (cov list u (i : Int)) := by
  rw [hcv]; by_cases h1 : x.From ≤ u <;> simp [h1]
 rw [ixs hx]
 simp only [Option.bind_some, hif]
 by_cases h : cov list u (i : Int) = true
 ·rw [if_pos h] at hc ⊢
  exact .nx ⟨m - 1, by omega, i + 1, by omega, w64_succ (by omega), by rw [hc]; exact w64_succ (by omega)⟩
 ·rw [if_neg h] at hc ⊢
  exact .nx ⟨m - 1, by omega, i + 1, by omega, w64_succ (by omega), by rw [hc]; rfl⟩
theorem best_from {list : List Span} {u : Int} (h : 0 < cnt list u) : ∃ (i : Nat) (s : Span), list[i]? = some s ∧ s.From ≤ u ∧ cnt list u ≤ cnt list s.From := by
 have key : ∀ n, n ≤ list.length → 0 < cntN list u n → ∃ (i : Nat) (s : Span), i < n ∧ list[i]? = some s ∧ cov list u (i : Int) = true ∧ ∀ (j : Nat) t, j < n → list[j]? = some t → cov list u (j : Int) = true → t.From ≤ s.From := by
  intro n
  induction n with
  | zero => intro _ h; simp [cntN, rng] at h
  | succ n ih =>
   intro hn h
   rw [cntN_succ] at h
   obtain ⟨x, hx⟩ := get_ex (l := list) (i := n) (by omega)
   by_cases hc : cov list u (n : Int) = true
   ·by_cases h0 : 0 < cntN list u n
    ·obtain ⟨i, s, i1, i2, i3, i4⟩ := ih (by omega) h0
     by_cases hlt : s.From < x.From
     ·refine ⟨n, x, by omega, hx, hc, fun j t hj ht hct => ?_⟩
      by_cases hjn : j = n
      ·subst hjn; rw [hx] at ht; cases ht; exact Int.le_refl _
      ·have := i4 j t (by omega) ht hct; omega
     ·refine ⟨i, s, by omega, i2, i3, fun j t hj ht hct => ?_⟩
      by_cases hjn : j = n
      ·subst hjn; rw [hx] at ht; cases ht; omega
      ·exact i4 j t (by omega) ht hct
    ·refine ⟨n, x, by omega, hx, hc, fun j t hj ht hct => ?_⟩
     by_cases hjn : j = n
     ·subst hjn; rw [hx] at ht; cases ht; exact Int.le_refl _
     ·exfalso
      apply h0
      unfold cntN
      exact List.length_pos_iff.2 (List.ne_nil_of_mem (List.mem_filter.2 ⟨mem_rng.2 (show 0 ≤ (j : Int) ∧ (j : Int) < (n : Int) by omega), hct⟩))
   ·rw [if_neg hc] at h
    obtain ⟨i, s, i1, i2, i3, i4⟩ := ih (by omega) h
    refine ⟨i, s, by omega, i2, i3, fun j t hj ht hct => ?_⟩
    by_cases hjn : j = n
    ·subst hjn; exact absurd hct hc
    ·exact i4 j t (by omega) ht hct
 obtain ⟨i, s, i1, i2, i3, i4⟩ := key list.length (Nat.le_refl _) h
 have hc3 := i3
 unfold cov at hc3
 rw [from_at i2, to_at i2] at hc3
 have hc3 := of_decide_eq_true hc3
 refine ⟨i, s, i2, hc3.1, ?_⟩
 unfold cnt cntN
 have hsub : ∀ j ∈ rng list.length, cov list u j = true → cov list s.From j = true := fun j hj hcj => by
  have hb := mem_rng.1 hj
  obtain ⟨q, rfl⟩ : ∃ q : Nat, j = q := ⟨j.toNat, by omega⟩
  obtain ⟨t, ht⟩ := get_ex (l := list) (i := q) (by omega)
  have h4 := i4 q t (by omega) ht hcj
  unfold cov at hcj ⊢
  rw [from_at ht, to_at ht] at hcj ⊢
  have := of_decide_eq_true hcj
  exact decide_eq_true (by omega)
 have mono : ∀ l : List Int, (∀ j ∈ l, cov list u j = true → cov list s.From j = true) → (l.filter (cov list u)).length ≤ (l.filter (cov list s.From)).length := fun l => by
  induction l with
  | nil => intro _; exact Nat.le_refl _
  | cons a l ih =>
   intro hh
   have h1 := ih fun j hj => hh j (List.mem_cons_of_mem _ hj)
   rw [List.filter_cons, List.filter_cons]
   by_cases ha : cov list u a = true
   ·rw [if_pos ha, if_pos (hh a (List.mem_cons_self ..) ha)]; simp; omega
   ·rw [if_neg ha]
    split
    ·simp; omega
    ·exact h1
 exact mono _ hsub
theorem ipeak_ok {list : List Span} (hl : list.length ≤ 1000) : Tot (iter (zq3_L2 list) ((0 : Int), (0 : Int), (0 : Int))) fun r => ((r.2 = 0 ∧ r.1 = 0) ∨ (0 < r.2 ∧ ∃ (j : Nat) (s : Span), list[j]? = some s ∧ r.1 = s.From ∧ r.2 = ((cnt list s.From : Nat) : Int))) ∧ ∀ (j : Nat) s, list[j]? = some s → ((cnt list s.From : Nat) : Int) ≤ r.2 ∧ (((cnt list s.From : Nat) : Int) = r.2 → 0 < r.2 → r.1 ≤ s.From) := by
 refine Tot.iter (fun m (s : Int × Int × Int) => ∃ i : Nat, m + i = list.length ∧ s.2.2 = (i : Int) ∧ ((s.2.1 = 0 ∧ s.1 = 0) ∨ (0 < s.2.1 ∧ ∃ (j : Nat) (t : Span), list[j]? = some t ∧ s.1 = t.From ∧ s.2.1 = ((cnt list t.From : Nat) : Int))) ∧ ∀ (j : Nat) t, j < i → list[j]? = some t → ((cnt list t.From : Nat) : Int) ≤ s.2.1 ∧ (((cnt list t.From : Nat) : Int) = s.2.1 → 0 < s.2.1 → s.1 ≤ t.From)) (n := list.length) ⟨0, by omega, rfl, .inl ⟨rfl, rfl⟩, fun j t h => by omega⟩ ?_
 rintro m ⟨a, v, w⟩ ⟨i, hm, h1, h2, h3⟩
 dsimp only at h1 h2 h3
 subst h1
 unfold zq3_L2
 dsimp only
 refine .iteP (fun hlt => ?_) (fun hge => .dn ⟨h2, fun j s hs => h3 j s (by have := get_lt hs; omega) hs⟩)
 obtain ⟨x, hx⟩ := get_ex (l := list) (i := i) (by omega)
 rw [ixs hx]
 simp only [Option.bind_some, icount_ok hl x]
 obtain ⟨C, hC⟩ : ∃ C : Int, C = ((cnt list x.From : Nat) : Int) := ⟨_, rfl⟩
 rw [← hC]
 have hC0 : 0 ≤ C := by omega
 have hb : (if (decide (v < C)) = true then some true else if (C == v) = true then if (decide (0 < C)) = true then some (decide (x.From < a)) else some false else some false) = some (decide (v < C ∨ (C = v ∧ 0 < C ∧ x.From < a))) := by
  by_cases g1 : v < C
  ·simp [g1]
  ·by_cases g2 : C = v
   ·subst g2
    by_cases g3 : 0 < C <;> simp [g3]
   ·simp [g1, g2]
 rw [hb, Option.bind_some]
 refine .call (P := fun r => ((r.2 = 0 ∧ r.1 = 0) ∨ (0 < r.2 ∧ ∃ (j : Nat) (t : Span), list[j]? = some t ∧ r.1 = t.From ∧ r.2 = ((cnt list t.From : Nat) : Int))) ∧ ∀ (j : Nat) t, j < i + 1 → list[j]? = some t → ((cnt list t.From : Nat) : Int) ≤ r.2 ∧ (((cnt list t.From : Nat) : Int) = r.2 → 0 < r.2 → r.1 ≤ t.From)) (.iteP (fun hq => .ok ⟨.inr ⟨by show 0 < C; rcases h2 with ⟨e1, _⟩ | ⟨e1, _⟩ <;> omega, i, x, hx, rfl, hC⟩, fun j t hj ht => ?_⟩) fun hq => .ok ⟨h2, fun j t hj ht => ?_⟩) fun ⟨a1, v1⟩ hr => .nx ⟨m - 1, by omega, i + 1, by omega, w64_succ (by omega), hr.1, hr.2⟩
 ·show _ ≤ C ∧ (_ = C → 0 < C → x.From ≤ t.From)
  by_cases hji : j = i
  ·subst hji; rw [hx] at ht; cases ht; omega
  ·have := h3 j t (by omega) ht
   omega
 ·show _ ≤ v ∧ (_ = v → 0 < v → a ≤ t.From)
  by_cases hji : j = i
  ·subst hji; rw [hx] at ht; cases ht; omega
  ·exact h3 j t (by omega) ht
theorem speak_ok {list : List Span} (hl : list.length ≤ 1000) : Tot (iter (zq15_L3 list) ((0 : Int), (0 : Int), (0 : Int))) fun r => ((r.1 = 0 ∧ r.2 = 0) ∨ (0 < r.1 ∧ r.1 = ((cnt list r.2 : Nat) : Int))) ∧ ∀ u : Int, 0 ≤ u → u ≤ 1799 → ((cnt list u : Nat) : Int) ≤ r.1 ∧ (((cnt list u : Nat) : Int) = r.1 → 0 < r.1 → r.2 ≤ u) := by
 refine Tot.iter (fun m (s : Int × Int × Int) => ∃ i : Nat, m + i = 1800 ∧ s.2.2 = (i : Int) ∧ (s.2.1 ≤ (i : Int) ∧ ((s.1 = 0 ∧ s.2.1 = 0) ∨ (0 < s.1 ∧ s.1 = ((cnt list s.2.1 : Nat) : Int)))) ∧ ∀ u : Int, 0 ≤ u → u < (i : Int) → ((cnt list u : Nat) : Int) ≤ s.1 ∧ (((cnt list u : Nat) : Int) = s.1 → 0 < s.1 → s.2.1 ≤ u)) (n := 1800) ⟨0, by omega, rfl, ⟨Int.le_refl _, .inl ⟨rfl, rfl⟩⟩, fun u h1 h2 => by omega⟩ ?_
 rintro m ⟨f, t, w⟩ ⟨i, hm, h1, ⟨hb, h2⟩, h3⟩
 dsimp only at h1 hb h2 h3
 subst h1
 unfold zq15_L3
 dsimp only
 refine .iteP (fun hlt => ?_) (fun hge => .dn ⟨h2, fun u u1 u2 => h3 u u1 (by omega)⟩)
 rw [scount_ok hl]
 simp only [Option.bind_some]
 obtain ⟨C, hC⟩ : ∃ C : Int, C = ((cnt list (i : Int) : Nat) : Int) := ⟨_, rfl⟩
 rw [← hC]
 have hC0 : 0 ≤ C := by omega
 refine .call (P := fun r => (r.2 ≤ (i : Int) ∧ ((r.1 = 0 ∧ r.2 = 0) ∨ (0 < r.1 ∧ r.1 = ((cnt list r.2 : Nat) : Int)))) ∧ ∀ u : Int, 0 ≤ u → u < ((i + 1 : Nat) : Int) → ((cnt list u : Nat) : Int) ≤ r.1 ∧ (((cnt list u : Nat) : Int) = r.1 → 0 < r.1 → r.2 ≤ u)) (.iteP (fun hq => .ok ⟨⟨Int.le_refl _, .inr ⟨by show 0 < C; rcases h2 with ⟨e1, _⟩ | ⟨e1, _⟩ <;> omega, hC⟩⟩, fun u u1 u2 => ?_⟩) fun hq => .ok ⟨⟨hb, h2⟩, fun u u1 u2 => ?_⟩) fun ⟨a1, v1⟩ hr => .nx ⟨m - 1, by omega, i + 1, by omega, w64_succ (by omega), ⟨by have := hr.1.1; show v1 ≤ _; dsimp only at this; omega, hr.1.2⟩, hr.2⟩
 ·show _ ≤ C ∧ (_ = C → 0 < C → (i : Int) ≤ u)
  by_cases hui : u = (i : Int)
  ·subst hui; omega
  ·have := h3 u u1 (by omega)
   omega
 ·show _ ≤ f ∧ (_ = f → 0 < f → t ≤ u)
  by_cases hui : u = (i : Int)
  ·subst hui
   exact ⟨by omega, fun _ _ => hb⟩
  ·exact h3 u u1 (by omega)
theorem peak_both (list : List Span) (hl : list.length ≤ 100) : ∃ (n t : Int) (b : Bool), zq4 list = some (n, t, b) ∧ zq15 list = some (n, t, b) ∧ (b = true → GoodL list ∧ ∀ u : Int, ((cnt list u : Nat) : Int) ≤ n) := by
 unfold zq4 zq3 zq15
 rw [areSpans_eq list (by omega)]
 by_cases hn : list.length ≤ 20
 ·have n20 : ¬ (20 : Int) < (list.length : Int) := by omega
  have hchk : iter (zq15_L1 list) (0 : Int) = some (if GoodL list then .go () else .ret (0, 0, false)) := by
   refine Tot.val (Tot.iter (fun m (s : Int) => ∃ i : Nat, m + i = list.length ∧ s = (i : Int) ∧ ∀ (j : Nat) x, j < i → list[j]? = some x → GoodS x) (n := list.length) ⟨0, by omega, rfl, fun j x h => by omega⟩ ?_)
   rintro m s ⟨i, hm, rfl, hgd⟩
   unfold zq15_L1
   dsimp only
   refine .iteP (fun hlt => ?_) (fun hge => .dn ?_)
   ·obtain ⟨x, hx⟩ := get_ex (l := list) (i := i) (by omega)
    rw [ixs hx, Option.bind_some, l4Span_eq, Option.bind_some]
    by_cases hg : GoodS x
    ·rw [decide_eq_true hg, if_neg (by simp)]
     refine .nx ⟨m - 1, by omega, i + 1, by omega, w64_succ (by omega), fun j z hj hz => ?_⟩
     by_cases hji : j = i
     ·subst hji; rw [hx] at hz; cases hz; exact hg
     ·exact hgd j z (by omega) hz
    ·rw [decide_eq_false hg, if_pos (by simp)]
     refine .dn ?_
     rw [if_neg fun hG => hg (hG.2 x (List.mem_of_getElem? hx))]
   ·rw [if_pos ⟨hn, fun s hs => by
     obtain ⟨j, hj⟩ := List.mem_iff_getElem?.1 hs
     exact hgd j s (by have := get_lt hj; omega) hj⟩]
  by_cases hG : GoodL list
  ·obtain ⟨⟨a, v⟩, i1, i2, i3⟩ := ipeak_ok (list := list) (by omega)
   obtain ⟨⟨f, t⟩, s1, s2, s3⟩ := speak_ok (list := list) (by omega)
   dsimp only at i2 i3 s2 s3
   have hall : ∀ u : Int, ((cnt list u : Nat) : Int) ≤ v := fun u => by
    rcases Nat.eq_zero_or_pos (cnt list u) with h0 | h0
    ·rw [h0]; rcases i2 with ⟨e, _⟩ | ⟨e, _⟩ <;> omega
    ·obtain ⟨j, s, j1, j2, j3⟩ := best_from h0
     have := (i3 j s j1).1
     omega
   have heq : f = v ∧ t = a := by
    rcases i2 with ⟨e1, e2⟩ | ⟨e1, j, s, j1, j2, j3⟩
    ·rcases s2 with ⟨e3, e4⟩ | ⟨e3, e4⟩
     ·omega
     ·have := hall t; omega
    ·have hg := hG.2 s (List.mem_of_getElem? j1)
     have k1 := s3 s.From hg.1.1 hg.1.2
     rcases s2 with ⟨e3, e4⟩ | ⟨e3, e4⟩
     ·omega
     ·have k2 := hall t
      have hfv : f = v := by omega
      refine ⟨hfv, ?_⟩
      obtain ⟨q, z, q1, q2, q3⟩ := best_from (list := list) (u := t) (by omega)
      have k3 := i3 q z q1
      have k4 := k1.2
      omega
   obtain ⟨rfl, rfl⟩ := heq
   refine ⟨f, t, true, ?_, ?_, fun _ => ⟨hG, hall⟩⟩
   ·simp only [hG, decide_true, Option.bind_some, Bool.not_true, Bool.false_eq_true, if_false, i1]
   ·simp only [n20, decide_false, Bool.false_eq_true, if_false, hchk, hG, if_true]
    rw [show ∀ k : Unit → Option (Int × Int × Bool), flb (some (.go () : Fl (Int × Int × Bool) Unit)) k = k () from fun k => rfl, s1]
    rfl
  ·refine ⟨0, 0, false, ?_, ?_, fun h => (by cases h)⟩
   ·simp [hG]
   ·simp only [n20, decide_false, Bool.false_eq_true, if_false, hchk, hG]
    rfl
 ·have n20 : (20 : Int) < (list.length : Int) := by omega
  have hG : ¬ GoodL list := fun h => hn h.1
  exact ⟨0, 0, false, by simp [hG], by simp [n20], fun h => (by cases h)⟩
def gt (f : Int) (x : Int) : Bool := decide (f < x)
theorem filt_set {l : List Int} {i : Nat} {v f : Int} (hi : i < l.length) : ((l.set i v).filter (gt f)).length ≤ (l.filter (gt f)).length + if f < v then 1 else 0 := by
 have e1 := Sym.drop1 (Sym.getD_mem (l := l) hi).2
 have e2 : l = l.take i ++ l.getD i 0 :: l.drop (i + 1) := by rw [← e1, List.take_append_drop]
 have e3 : l.set i v = l.take i ++ v :: l.drop (i + 1) := by
  have := (Sym.mid_set (P := l.take i) (Q := l.drop (i + 1)) (x := l.getD i 0) (y := v) (i := i) (by rw [List.length_take]; omega)).2
  rwa [← e2] at this
 rw [e3]
 conv => rhs; lhs; rw [e2]
 simp only [List.filter_append, List.filter_cons, List.length_append]
 unfold gt
 by_cases h1 : f < v <;> by_cases h2 : f < l.getD i 0 <;> simp only [h1, h2, decide_true, decide_false, if_true, Bool.false_eq_true, if_false, List.length_cons] <;> omega
theorem nowait_run {list : List Span} (hg : ∀ s ∈ list, GoodS s) (hlong : ∀ s ∈ list, s.From < s.To) {c : Nat} (hc : 0 < c ∧ c ≤ 10) (hcnt : ∀ u : Int, ((cnt list u : Nat) : Int) ≤ (c : Int)) {o : List Int} (hp : o.Perm (rng list.length)) (hs : Sym.Sd (fromOf list) o) (hl : list.length ≤ 20) :
  ∃ out : List Int, iter (zq5_L3 list o) ((0 : Int), (0 : Int), List.replicate (c : Int).toNat (0 : Int), List.replicate (list.length : Int).toNat (0 : Int)) = some (.go out) ∧ out.length = list.length ∧ ∀ (i : Nat) s, list[i]? = some s → out.getD i 0 = s.From := by
 have hlo := hp.length_eq
 rw [rng_len] at hlo
 have hob : ∀ j ∈ o, ∃ (q : Nat) (s : Span), j = (q : Int) ∧ list[q]? = some s ∧ GoodS s ∧ s.From < s.To ∧ fromOf list j = s.From ∧ toOf list j = s.To := fun j hj => by
  have hb := mem_rng.1 (hp.mem_iff.1 hj)
  obtain ⟨q, rfl⟩ : ∃ q : Nat, j = q := ⟨j.toNat, by omega⟩
  obtain ⟨s, hs⟩ := get_ex (l := list) (i := q) (by omega)
  exact ⟨q, s, rfl, hs, hg s (List.mem_of_getElem? hs), hlong s (List.mem_of_getElem? hs), from_at hs, to_at hs⟩
 have : Tot (iter (zq5_L3 list o) ((0 : Int), (0 : Int), List.replicate (c : Int).toNat (0 : Int), List.replicate (list.length : Int).toNat (0 : Int))) fun r => ∃ out : List Int, r = .go out ∧ out.length = list.length ∧ ∀ j ∈ o, out.getD j.toNat 0 = fromOf list j := by
  refine Tot.iter (fun m (s : Int × Int × List Int × List Int) => ∃ k : Nat, m + k = o.length ∧ s.2.1 = (k : Int) ∧ s.2.2.1.length = c ∧ s.2.2.2.length = list.length ∧ (0 ≤ s.1 ∧ ∀ j ∈ o.drop k, s.1 ≤ fromOf list j) ∧ (∀ x ∈ s.2.2.1, 0 ≤ x ∧ x ≤ 1799) ∧ (∀ j ∈ o.take k, s.2.2.2.getD j.toNat 0 = fromOf list j) ∧ ∀ f : Int, 0 ≤ f → (s.2.2.1.filter (gt f)).length ≤ ((o.take k).filter fun j => gt f (toOf list j)).length) (n := o.length)
   ⟨0, by omega, rfl, by show (List.replicate _ _).length = c; rw [List.length_replicate, Int.toNat_natCast], by show (List.replicate _ _).length = _; rw [List.length_replicate, Int.toNat_natCast], ⟨Int.le_refl _, fun j hj => by obtain ⟨q, s, _, _, g1, _, g2, _⟩ := hob j (List.mem_of_mem_drop hj); show (0 : Int) ≤ _; rw [g2]; exact g1.1.1⟩, fun x hx => by have hx : x ∈ List.replicate (c : Int).toNat (0 : Int) := hx; rw [List.eq_of_mem_replicate hx]; omega, fun j hj => by simp at hj, fun f hf => by
    show ((List.replicate (c : Int).toNat (0 : Int)).filter (gt f)).length ≤ _
    rw [List.filter_eq_nil_iff.2 fun x hx => by rw [List.eq_of_mem_replicate hx]; unfold gt; simp; omega]
    simp⟩ ?_
  rintro m ⟨last, v2, free, out⟩ ⟨k, hm, h1, hf, ho, ⟨hl0, hla⟩, hfr, hout, hbusy⟩
  dsimp only at h1 hf ho hl0 hla hfr hout hbusy
  subst h1
  unfold zq5_L3
  dsimp only
  refine .iteP (fun hlt => ?_) (fun hge => .dn ⟨out, rfl, ho, fun j hj => hout j (by rwa [List.take_of_length_le (by omega)])⟩)
  obtain ⟨e, he⟩ := get_ex (l := o) (i := k) (by omega)
  have heo := List.mem_of_getElem? he
  obtain ⟨j, s, rfl, hsj, g1, g2, g3, g4⟩ := hob e heo
  obtain ⟨q1, q2, q3, q4⟩ := amin_ok (free := free) (by omega) (by omega)
  obtain ⟨m2, m3⟩ := q4
  have hdk := Sym.drop1 he
  have hlastF : last ≤ s.From := by rw [← g3]; exact hla _ (by rw [hdk]; exact List.mem_cons_self ..)
  have hfm := Sym.getD_mem (l := free) (i := q1) m2
  have hfb := hfr _ hfm.1
  have hts := take_succ he
  -- one charger is free in time
  have hmin : free.getD q1 0 ≤ s.From := by
   refine Classical.byContradiction fun hno => ?_
   have hall : free.filter (gt s.From) = free := by
    refine List.filter_eq_self.2 fun x hx => ?_
    obtain ⟨z, z1, rfl⟩ := Sym.mem_getD hx
    have := m3 z z1
    unfold gt
    exact decide_eq_true (by omega)
   have hb := hbusy s.From g1.1.1
   rw [hall, hf] at hb
   have hsub : ((o.take k).filter fun j => gt s.From (toOf list j)).length + 1 ≤ cnt list s.From := by
    unfold cnt cntN
    have hp2 : ((rng list.length).filter (cov list s.From)).length = (o.filter (cov list s.From)).length := (hp.symm.filter _).length_eq
    rw [hp2]
    have ho3 : o = o.take k ++ ((j : Int) :: o.drop (k + 1)) := by rw [← hdk, List.take_append_drop]
    have hcj : cov list s.From (j : Int) = true := by unfold cov; rw [g3, g4]; exact decide_eq_true (by omega)
    have e1 : (o.take k).filter (fun j => gt s.From (toOf list j)) = (o.take k).filter (cov list s.From) := by
     refine List.filter_congr fun x hx => ?_
     obtain ⟨z, z1, z2, rfl⟩ := Sym.mem_takeD hx
     have hle := hs.le (i := z) (j := k) (by omega) (by omega)
     have ek : o.getD k 0 = (j : Int) := by rw [List.getD_eq_getElem?_getD, he]; rfl
     rw [ek, g3] at hle
     generalize o.getD z 0 = w at hle ⊢
     unfold gt cov
     by_cases hh : s.From < toOf list w <;> simp [hh, hle]
    rw [e1]
    conv => rhs; rw [ho3]
    rw [List.filter_append, List.filter_cons, if_pos hcj, List.length_append, List.length_cons]
    omega
   have := hcnt s.From
   omega
  have hmx : mx3 s.From last (free.getD q1 0) = s.From := by
   unfold mx3
   split <;> split <;> omega
  have ho1 := (Sym.getD_mem (l := out) (i := j) (by have := get_lt hsj; omega)).2
  rw [ixs he, Option.bind_some, q2, Option.bind_some, ixs hsj, Option.bind_some, ixs hfm.2]
  simp only [Option.bind_some]
  rw [show (if free.getD q1 0 > (if s.From > last then s.From else last) then free.getD q1 0 else (if s.From > last then s.From else last)) = mx3 s.From last (free.getD q1 0) from rfl, hmx, if_neg (by have := g1.1.2; simp; omega), ixs ho1]
  simp only [Option.bind_some, Int.toNat_natCast]
  have hw : w64 (w64 (s.From + s.To) - s.From) = s.To := by
   obtain ⟨⟨a1, a2⟩, ⟨a3, a4⟩, a5⟩ := g1
   rw [w64_id (x := s.From + s.To) (by omega), w64_id (by omega)]; omega
  rw [hw]
  refine .nx ⟨m - 1, by omega, k + 1, by omega, w64_succ (by omega), by show (free.set _ _).length = c; rw [List.length_set]; exact hf, by show (out.set _ _).length = _; rw [List.length_set]; exact ho, ⟨g1.1.1, fun z hz => ?_⟩, fun x hx => ?_, fun z hz => ?_, fun f hf0 => ?_⟩
  ·show s.From ≤ fromOf list z
   obtain ⟨y, y1, y2, rfl⟩ := Sym.mem_dropD hz
   have := hs.le (i := k) (j := y) (by omega) y2
   have ek : o.getD k 0 = (j : Int) := by rw [List.getD_eq_getElem?_getD, he]; rfl
   rw [ek, g3] at this; exact this
  ·rcases List.mem_or_eq_of_mem_set hx with h | h
   ·exact hfr x h
   ·rw [h]; exact g1.2.1
  ·show (out.set j s.From).getD z.toNat 0 = _
   rw [hts] at hz
   have hzo : z ∈ o := by
    rcases List.mem_append.1 hz with h | h
    ·exact List.mem_of_mem_take h
    ·rw [List.mem_singleton] at h; rw [h]; exact heo
   have hzb := mem_rng.1 (hp.mem_iff.1 hzo)
   rw [set_getD (by have := get_lt hsj; omega)]
   by_cases hzj : z.toNat = j
   ·rw [if_pos hzj, show z = (j : Int) by omega, g3]
   ·rw [if_neg hzj]
    rcases List.mem_append.1 hz with h | h
    ·exact hout z h
    ·rw [List.mem_singleton] at h; rw [h] at hzj; simp at hzj
  ·show ((free.set q1 s.To).filter (gt f)).length ≤ _
   have h1 := filt_set (l := free) (i := q1) (v := s.To) (f := f) m2
   have h2 := hbusy f hf0
   rw [hts, List.filter_append, List.length_append]
   have h3 : ([(j : Int)].filter fun j => gt f (toOf list j)).length = if f < s.To then 1 else 0 := by
    rw [List.filter_cons, g4]
    unfold gt
    by_cases hh : f < s.To <;> simp [hh]
   rw [h3]
   omega
 obtain ⟨r, h1, out, rfl, h2, h3⟩ := this
 refine ⟨out, h1, h2, fun i s hs => ?_⟩
 have := h3 (i : Int) (hp.mem_iff.2 (mem_rng.2 (by have := get_lt hs; omega)))
 rwa [from_at hs, Int.toNat_natCast] at this
theorem nowait {list : List Span} (hG : GoodL list) (hlong : ∀ s ∈ list, s.From < s.To) {c : Int} (hc : 1 ≤ c ∧ c ≤ 10) (hcnt : ∀ u : Int, ((cnt list u : Nat) : Int) ≤ c) : ∃ out : List Int, zq5 list c = some (out, true) ∧ out.length = list.length ∧ ∀ (i : Nat) s, list[i]? = some s → out.getD i 0 = s.From := by
 have hl := hG.1
 obtain ⟨n, rfl⟩ : ∃ n : Nat, c = n := ⟨c.toNat, by omega⟩
 obtain ⟨o, o1, o2, o3⟩ := iorder_ok list (by omega)
 obtain ⟨out, r1, r2, r3⟩ := nowait_run hG.2 hlong (c := n) (by omega) hcnt o2 o3 hl
 refine ⟨out, ?_, r2, r3⟩
 unfold zq5
 have fg : ∀ k : List Int → Option (List Int × Bool), flb (some (.go out : Fl (List Int × Bool) (List Int))) k = k out := fun k => rfl
 rw [areSpans_eq list (by omega), within_eq]
 simp only [hG, decide_true, Option.bind_some, Bool.not_true, Bool.false_eq_true, if_false, hc, and_self, chk_of (show (0 : Int) ≤ (n : Int) ∧ (n : Int) ≤ 4294967296 by omega), chk_of (show (0 : Int) ≤ (list.length : Int) ∧ (list.length : Int) ≤ 4294967296 by omega), fill_ok list (by omega), o1, r1, fg]
theorem put_ok (d : Int) {a b : List Int} (hl : (a ++ b).length ≤ 1000) (ha : ∀ x ∈ a, x < d) (hb : ∀ x ∈ b, d < x) : zq27 (a ++ b) d = some (a ++ d :: b) := by
 have hla : (a ++ b).length = a.length + b.length := List.length_append
 have h1 : iter (zq27_L1 (a ++ b) d) (0 : Int) = some (a.length : Int) := by
  refine Tot.val (Tot.iter (fun k s => ∃ i : Nat, k + i = a.length ∧ s = (i : Int)) (n := a.length) ⟨0, rfl, rfl⟩ ?_)
  rintro k _ ⟨i, hk, rfl⟩
  unfold zq27_L1
  refine .call (P := fun v => v = true ↔ i < a.length) (.iteP (fun hlt => ?_) (fun hge => .ok ?_)) fun v hv => .ite (fun h => .nx ⟨k - 1, by have := hv.1 h; omega, i + 1, by have := hv.1 h; omega, w64_succ (by omega)⟩) (fun h => .dn ?_)
  ·obtain ⟨x, hx⟩ := get_ex (l := a ++ b) (i := i) (by omega)
   refine .eq (ixs hx) (.ok ?_)
   rw [decide_eq_true_eq]
   by_cases hi : i < a.length
   ·rw [List.getElem?_append_left hi] at hx
    have := ha x (List.mem_of_getElem? hx)
    exact ⟨fun _ => hi, fun _ => this⟩
   ·rw [List.getElem?_append_right (by omega)] at hx
    have := hb x (List.mem_of_getElem? hx)
    exact ⟨fun h => by omega, fun h => absurd h hi⟩
  ·constructor
   ·intro h; cases h
   ·intro h; omega
  ·have : ¬ i < a.length := fun hh => by have := hv.2 hh; rw [h] at this; cases this
   omega
 unfold zq27
 rw [h1, Option.bind_some]
 have h2 : (if (decide ((a.length : Int) < ((a ++ b).length : Int))) = true then (idx (a ++ b) (a.length : Int)).bind fun e1 => some (e1 == d) else some false) = some false := by
  split
  ·rename_i hlt
   have hlt' := of_decide_eq_true hlt
   obtain ⟨x, hx⟩ := get_ex (l := a ++ b) (i := a.length) (by omega)
   rw [ixs hx, Option.bind_some]
   rw [List.getElem?_append_right (Nat.le_refl _)] at hx
   have := hb x (List.mem_of_getElem? hx)
   congr 1
   simp; omega
  ·rfl
 rw [h2]
 simp only [Option.bind_some, Bool.false_eq_true, if_false]
 rw [chk_of ⟨by omega, by omega, by omega⟩, Option.bind_some, show ((a.length : Int)).toNat = a.length by omega, show (0 : Int).toNat = 0 from rfl, List.take_left, List.drop_left, List.drop_zero, List.nil_append]
 rw [chk_of (by simp; omega), Option.bind_some, chk_of (by simp; omega), Option.bind_some, chk_of ⟨by omega, by omega⟩, Option.bind_some, chk_of (by simp; omega), Option.bind_some]
 simp
theorem cloneI_eq (l : List Int) (h : l.length ≤ 1000) : zq30 l = some l := by
 unfold zq30
 rw [chk_of (by simp; omega)]; rfl
def kp (prices : List Int) (x : Int) : Int := prices.getD (x.toNat / 60) 0
theorem div60 {x : Int} (h : 0 ≤ x ∧ x < 1800) : w64 (x.tdiv 60) = ((x.toNat / 60 : Nat) : Int) := by
 obtain ⟨n, rfl⟩ : ∃ n : Nat, x = n := ⟨x.toNat, by omega⟩
 have e : ((n : Int)).tdiv 60 = ((n / 60 : Nat) : Int) := by
  rw [Int.tdiv_eq_ediv_of_nonneg (by omega)]; omega
 rw [e, w64_id (by omega), Int.toNat_natCast]
theorem price_at {prices : List Int} (hl : prices.length = 30) {x : Int} (h : 0 ≤ x ∧ x < 1800) : idx prices (w64 (x.tdiv 60)) = some (kp prices x) := by
 rw [div60 h]
 exact ixs (Sym.getD_mem (l := prices) (i := x.toNat / 60) (by omega)).2
theorem cm_cheap {prices : List Int} (hl : prices.length = 30) : Sym.Cm (fun z0 z1 => zq8 z0 z1 prices) (kp prices) (fun x => 0 ≤ x ∧ x < 1800) := by
 intro x y hx hy
 refine ⟨if kp prices x < kp prices y then -1 else if kp prices y < kp prices x then 1 else 0, ?_, ?_⟩
 ·show zq8 x y prices = _
  unfold zq8
  rw [chk_of (by decide), Option.bind_some, price_at hl hx, Option.bind_some, Option.bind_some, price_at hl hy, Option.bind_some, compare_int, Option.bind_some]
 ·by_cases h1 : kp prices x < kp prices y
  ·simp [h1]
  ·by_cases h2 : kp prices y < kp prices x <;> simp [h1, h2]
def rngF (a : Int) (n : Nat) : List Int := (rng n).map (a + ·)
theorem rngF_len (a : Int) (n : Nat) : (rngF a n).length = n := by unfold rngF; rw [List.length_map, rng_len]
theorem mem_rngF {a : Int} {n : Nat} {x : Int} : x ∈ rngF a n ↔ a ≤ x ∧ x < a + (n : Int) := by
 unfold rngF
 rw [List.mem_map]
 constructor
 ·rintro ⟨y, hy, rfl⟩; have := mem_rng.1 hy; omega
 ·intro h; exact ⟨x - a, mem_rng.2 (by omega), by omega⟩
theorem rngF_inc (a : Int) (n : Nat) : (rngF a n).Pairwise (· < ·) := by
 unfold rngF
 exact List.pairwise_map.2 ((rng_inc n).imp fun {x y} h => by omega)
theorem fillF_ok {a b : Int} (h0 : 0 ≤ a) (h1 : a ≤ b) (h2 : b ≤ 1799) : iter (zq7_L2 a b) ((0 : Int), (List.replicate (w64 (b - a)).toNat (0 : Int))) = some (rngF a (b - a).toNat) := by
 have hw : w64 (b - a) = b - a := w64_id (by omega)
 obtain ⟨n, hn⟩ : ∃ n : Nat, b - a = n := ⟨(b - a).toNat, by omega⟩
 rw [hw, hn, Int.toNat_natCast]
 refine Tot.val (Tot.iter (fun m (s : Int × List Int) => ∃ i : Nat, m + i = n ∧ s.1 = (i : Int) ∧ s.2 = rngF a i ++ List.replicate m (0 : Int)) (n := n) ⟨0, by omega, rfl, by simp [rngF, rng]⟩ ?_)
 rintro m ⟨v, d⟩ ⟨i, hm, hv, hd⟩
 dsimp only at hv hd
 subst hv
 unfold zq7_L2
 dsimp only
 rw [hw, hn, Int.toNat_natCast, List.length_replicate]
 refine .iteP (fun hlt => ?_) (fun hge => .dn (by rw [hd, show m = 0 by omega, show i = n by omega]; simp))
 obtain ⟨q, rfl⟩ : ∃ q, m = q + 1 := ⟨m - 1, by omega⟩
 obtain ⟨a1, a2⟩ := Sym.mid_set (P := rngF a i) (Q := List.replicate q (0 : Int)) (x := 0) (y := a + (i : Int)) (i := i) (rngF_len a i)
 have e : d = rngF a i ++ 0 :: List.replicate q (0 : Int) := by rw [hd, List.replicate_succ]
 rw [← e] at a1 a2
 refine .eq (ixs a1) (.nx ⟨q, by omega, i + 1, by omega, w64_succ (by omega), ?_⟩)
 show d.set ((i : Int)).toNat (w64 (a + (i : Int))) = _
 rw [Int.toNat_natCast, w64_id (by omega), a2]
 unfold rngF
 rw [rng_succ, List.map_append]; simp
theorem split_lt {t : Int} : ∀ {l : List Int}, l.Pairwise (· < ·) → t ∉ l → ∃ a b, l = a ++ b ∧ (∀ x ∈ a, x < t) ∧ ∀ x ∈ b, t < x
 | [], _, _ => ⟨[], [], rfl, by simp, by simp⟩
 | x :: l, h, hn => by
  obtain ⟨h1, h2⟩ := List.pairwise_cons.1 h
  by_cases hx : x < t
  ·obtain ⟨a, b, rfl, h3, h4⟩ := split_lt h2 (fun q => hn (List.mem_cons_of_mem _ q))
   refine ⟨x :: a, b, rfl, fun y hy => ?_, h4⟩
   rcases List.mem_cons.1 hy with rfl | hy
   ·exact hx
   ·exact h3 y hy
  ·have hxt : x ≠ t := fun e => hn (by rw [e]; exact List.mem_cons_self ..)
   refine ⟨[], x :: l, rfl, by simp, fun y hy => ?_⟩
   rcases List.mem_cons.1 hy with rfl | hy
   ·omega
   ·have := h1 y hy; omega
theorem putP_ok {l : List Int} (h : l.Pairwise (· < ·)) (hl : l.length ≤ 1000) {t : Int} (hn : t ∉ l) : ∃ r, zq27 l t = some r ∧ r.Pairwise (· < ·) ∧ r.Perm (l ++ [t]) := by
 obtain ⟨a, b, rfl, h1, h2⟩ := split_lt h hn
 refine ⟨a ++ t :: b, put_ok t hl h1 h2, ?_, ?_⟩
 ·obtain ⟨p1, p2, p3⟩ := List.pairwise_append.1 h
  refine List.pairwise_append.2 ⟨p1, List.pairwise_cons.2 ⟨h2, p2⟩, fun x hx y hy => ?_⟩
  rcases List.mem_cons.1 hy with rfl | hy
  ·exact h1 x hx
  ·exact p3 x hx y hy
 ·exact List.perm_middle.trans (List.perm_append_comm (l₁ := [t]) (l₂ := a ++ b))
theorem filt_prefix {p : Int → Bool} : ∀ {l : List Int}, l.Pairwise (fun a b => p b = true → p a = true) → l.filter p = l.take (l.filter p).length
 | [], _ => rfl
 | x :: l, h => by
  obtain ⟨h1, h2⟩ := List.pairwise_cons.1 h
  rw [List.filter_cons]
  by_cases hx : p x = true
  ·rw [if_pos hx, List.length_cons, List.take_succ_cons, ← filt_prefix h2]
  ·rw [if_neg hx]
   have : l.filter p = [] := List.filter_eq_nil_iff.2 fun y hy hp => hx (h1 y hy hp)
   rw [this]; rfl
def bef (prices : List Int) (v t : Int) (x : Int) : Bool := decide (kp prices x < v ∨ (kp prices x = v ∧ x < t))
def nB (prices : List Int) (Z : List Int) (v t : Int) : Nat := (Z.filter (bef prices v t)).length
theorem bef_pre {prices Z : List Int} (h : Sym.Sd (kp prices) Z) (v t : Int) : Z.filter (bef prices v t) = Z.take (nB prices Z v t) := by
 refine filt_prefix (h.imp fun {a b} hab hb => ?_)
 unfold bef at hb ⊢
 unfold Sym.R at hab
 have := of_decide_eq_true hb
 exact decide_eq_true (by omega)
theorem nB_same {prices Z : List Int} {v t v' t' : Int} (h : ∀ x ∈ Z, (kp prices x < v ∨ (kp prices x = v ∧ x < t)) ↔ (kp prices x < v' ∨ (kp prices x = v' ∧ x < t'))) : nB prices Z v t = nB prices Z v' t' := by
 unfold nB
 congr 1
 refine List.filter_congr fun x hx => ?_
 unfold bef
 exact decide_eq_decide.2 (h x hx)
theorem nB_next {prices Z : List Int} (hs : Sym.Sd (kp prices) Z) (hnd : Z.Nodup) {t : Int} (ht : t ∈ Z) : Z[nB prices Z (kp prices t) t]? = some t ∧ nB prices Z (kp prices t) (t + 1) = nB prices Z (kp prices t) t + 1 := by
 obtain ⟨A, B, rfl⟩ := List.append_of_mem ht
 obtain ⟨p1, p2, p3⟩ := List.pairwise_append.1 hs
 obtain ⟨p4, p5⟩ := List.pairwise_cons.1 p2
 have hA : ∀ x ∈ A, bef prices (kp prices t) t x = true ∧ bef prices (kp prices t) (t + 1) x = true := fun x hx => by
  have := p3 x hx t (List.mem_cons_self ..)
  unfold Sym.R at this
  unfold bef
  exact ⟨decide_eq_true (by omega), decide_eq_true (by omega)⟩
 have hB : ∀ x ∈ B, bef prices (kp prices t) t x = false ∧ bef prices (kp prices t) (t + 1) x = false := fun x hx => by
  have := p4 x hx
  unfold Sym.R at this
  unfold bef
  exact ⟨decide_eq_false (by omega), decide_eq_false (by omega)⟩
 have e1 : nB prices (A ++ t :: B) (kp prices t) t = A.length := by
  unfold nB
  rw [List.filter_append, List.filter_eq_self.2 fun x hx => (hA x hx).1, List.filter_cons, if_neg (by unfold bef; simp), List.filter_eq_nil_iff.2 fun x hx => by rw [(hB x hx).1]; simp]
  simp
 have e2 : nB prices (A ++ t :: B) (kp prices t) (t + 1) = A.length + 1 := by
  unfold nB
  rw [List.filter_append, List.filter_eq_self.2 fun x hx => (hA x hx).2, List.filter_cons, if_pos (by unfold bef; simp; omega), List.filter_eq_nil_iff.2 fun x hx => by rw [(hB x hx).2]; simp]
  simp
 rw [e1, e2]
 exact ⟨by simp, rfl⟩
def psum (prices : List Int) (l : List Int) : Int := (l.map (kp prices)).sum
theorem psum_snoc (prices l : List Int) (t : Int) : psum prices (l ++ [t]) = psum prices l + kp prices t := by unfold psum; rw [List.map_append, List.sum_append]; simp
theorem psum_bd {prices l : List Int} (h : ∀ x ∈ l, 0 ≤ kp prices x ∧ kp prices x ≤ 1000) : 0 ≤ psum prices l ∧ psum prices l ≤ 1000 * (l.length : Int) := by
 have := sum_le (l := l.map (kp prices)) (M := 1000) (fun x hx => by obtain ⟨y, hy, rfl⟩ := List.mem_map.1 hx; exact h y hy)
 rw [List.length_map] at this
 exact this
theorem psum_cons (prices l : List Int) (t : Int) : psum prices (t :: l) = kp prices t + psum prices l := by unfold psum; rw [List.map_cons, List.sum_cons]
theorem psum_perm {prices l m : List Int} (h : l.Perm m) : psum prices l = psum prices m := by
 induction h with
 | nil => rfl
 | cons x _ ih => rw [psum_cons, psum_cons, ih]
 | swap x y l => rw [psum_cons, psum_cons, psum_cons, psum_cons]; omega
 | trans _ _ ih1 ih2 => exact ih1.trans ih2
def SI (prices Z : List Int) (T : Nat) (v t : Int) (l : List Int) (s : Int) : Prop :=
 l.Pairwise (· < ·) ∧ l.Perm (Z.take (min (nB prices Z v t) T)) ∧ s = psum prices (Z.take (min (nB prices Z v t) T))
theorem nB_le (prices Z : List Int) (v t : Int) : nB prices Z v t ≤ Z.length := List.length_filter_le ..
theorem inner_ok {prices Z : List Int} (hlp : prices.length = 30) {a b : Int} (hab : 0 ≤ a ∧ a ≤ b ∧ b ≤ 1799) (hz : ∀ x, x ∈ Z ↔ a ≤ x ∧ x < b) (hs : Sym.Sd (kp prices) Z) (hnd : Z.Nodup) (hzl : Z.length ≤ 1800) {T : Nat} (hT : T ≤ 200) (hkb : ∀ x ∈ Z, 0 ≤ kp prices x ∧ kp prices x ≤ 1000) {v : Int} (hv : 0 ≤ v ∧ v ≤ 1000) {l : List Int} {s : Int} (h : SI prices Z T v a l s) :
  Tot (iter (zq17_L2 prices b (T : Int) v) (l, s, a)) fun r => SI prices Z T (v + 1) a r.1 r.2 := by
 refine Tot.iter (fun m (q : List Int × Int × Int) => (m : Int) = b - q.2.2 ∧ a ≤ q.2.2 ∧ q.2.2 ≤ b ∧ SI prices Z T v q.2.2 q.1 q.2.1) (n := (b - a).toNat) ⟨by have := hab.2.1; show (((b - a).toNat : Nat) : Int) = b - a; omega, Int.le_refl _, hab.2.1, h⟩ ?_
 rintro m ⟨l, s, t⟩ ⟨hm, ht1, ht2, h1, h2, h3⟩
 dsimp only at hm ht1 ht2 h1 h2 h3
 unfold zq17_L2
 dsimp only
 have hnB := nB_le prices Z v t
 have hlen := h2.length_eq
 rw [List.length_take] at hlen
 have hcond : (if (decide (t < b)) = true then some (decide ((l.length : Int) < (T : Int))) else some false) = some (decide (t < b ∧ l.length < T)) := by
  by_cases g : t < b
  ·simp [g]
  ·simp [g]
 rw [hcond, Option.bind_some]
 refine .iteP (fun hc => ?_) (fun hc => .dn ?_)
 ·obtain ⟨c1, c2⟩ := hc
  have hnT : nB prices Z v t < T := by omega
  have htz : t ∈ Z := (hz t).2 ⟨ht1, c1⟩
  rw [chk_of (by decide), Option.bind_some, price_at hlp (by omega)]
  simp only [Option.bind_some]
  have hw : w64 (t + 1) = t + 1 := w64_id (by omega)
  by_cases hk : kp prices t = v
  ·obtain ⟨n1, n2⟩ := nB_next hs hnd htz
   rw [hk] at n1 n2
   have emin : min (nB prices Z v t) T = nB prices Z v t := by omega
   rw [emin] at h2 h3
   have hnot : t ∉ l := fun hm2 => by
    have := h2.mem_iff.1 hm2
    rw [← bef_pre hs] at this
    have := (List.mem_filter.1 this).2
    unfold bef at this
    have := of_decide_eq_true this
    omega
   obtain ⟨r, r1, r2, r3⟩ := putP_ok h1 (by omega) hnot
   have etake : Z.take (nB prices Z v t + 1) = Z.take (nB prices Z v t) ++ [t] := take_succ n1
   have hbd := psum_bd (prices := prices) (l := Z.take (nB prices Z v t)) fun x hx => hkb x (List.mem_of_mem_take hx)
   rw [List.length_take] at hbd
   rw [if_pos (by simpa using hk), r1]
   simp only [Option.bind_some, hw]
   refine .nx ⟨m - 1, by omega, by show ((m - 1 : Nat) : Int) = b - (t + 1); omega, by show a ≤ t + 1; omega, by show t + 1 ≤ b; omega, r2, ?_, ?_⟩
   ·rw [n2, show min (nB prices Z v t + 1) T = nB prices Z v t + 1 by omega, etake]
    exact r3.trans (h2.append_right _)
   ·show w64 (s + v) = _
    rw [n2, show min (nB prices Z v t + 1) T = nB prices Z v t + 1 by omega, etake, psum_snoc, ← h3, hk, w64_id (by omega)]
  ·have hsame : nB prices Z v (t + 1) = nB prices Z v t := nB_same fun x hx => by
    by_cases hxt : x = t
    ·subst hxt
     constructor <;> rintro (g | ⟨g, _⟩)
     ·exact .inl g
     ·exact absurd g hk
     ·exact .inl g
     ·exact absurd g hk
    ·constructor <;> rintro (g | ⟨g, g2⟩)
     ·exact .inl g
     ·exact .inr ⟨g, by omega⟩
     ·exact .inl g
     ·exact .inr ⟨g, by omega⟩
   rw [if_neg (by simpa using hk)]
   simp only [Option.bind_some, hw]
   refine .nx ⟨m - 1, by omega, by show ((m - 1 : Nat) : Int) = b - (t + 1); omega, by show a ≤ t + 1; omega, by show t + 1 ≤ b; omega, h1, by rw [hsame]; exact h2, by rw [hsame]; exact h3⟩
 ·-- the price is through
  have hge : min (nB prices Z (v + 1) a) T = min (nB prices Z v t) T := by
   by_cases g : t < b
   ·have : T ≤ l.length := by
     rcases Nat.lt_or_ge l.length T with q | q
     ·exact absurd ⟨g, q⟩ hc
     ·exact q
    have hmono : nB prices Z v t ≤ nB prices Z (v + 1) a := by
     unfold nB
     refine List.Sublist.length_le ?_
     have : Z.filter (bef prices v t) = (Z.filter (bef prices (v + 1) a)).filter (bef prices v t) := by
      rw [List.filter_filter]
      refine List.filter_congr fun x hx => ?_
      unfold bef
      by_cases q : kp prices x < v ∨ (kp prices x = v ∧ x < t)
      ·have q2 : kp prices x < v + 1 ∨ (kp prices x = v + 1 ∧ x < a) := by omega
       simp only [q, q2, decide_true, Bool.and_self]
      ·simp only [q, decide_false, Bool.false_and]
     rw [this]
     exact List.filter_sublist
    omega
   ·have ht : t = b := by omega
    have : nB prices Z (v + 1) a = nB prices Z v t := nB_same fun x hx => by
     have := (hz x).1 hx
     omega
    rw [this]
  unfold SI
  rw [hge]
  exact ⟨h1, h2, h3⟩
theorem ssum_ok {prices : List Int} (hlp : prices.length = 30) {l : List Int} (hl : l.length ≤ 1000) (hb : ∀ x ∈ l, 0 ≤ x ∧ x < 1800) (hk : ∀ x ∈ l, 0 ≤ kp prices x ∧ kp prices x ≤ 1000) : iter (zq7_L3 prices l) ((0 : Int), (0 : Int)) = some (psum prices l) := by
 refine Tot.val (Tot.iter (fun m (s : Int × Int) => ∃ i : Nat, m + i = l.length ∧ s.2 = (i : Int) ∧ s.1 = psum prices (l.take i)) (n := l.length) ⟨0, by omega, rfl, rfl⟩ ?_)
 rintro m ⟨v, w⟩ ⟨i, hm, h1, h2⟩
 dsimp only at h1 h2
 subst h1; subst h2
 unfold zq7_L3
 dsimp only
 refine .iteP (fun hlt => ?_) (fun hge => .dn (by rw [List.take_of_length_le (by omega)]))
 obtain ⟨x, hx⟩ := get_ex (l := l) (i := i) (by omega)
 have hxm := List.mem_of_getElem? hx
 have hbd := psum_bd (prices := prices) (l := l.take i) fun x hx => hk x (List.mem_of_mem_take hx)
 rw [List.length_take] at hbd
 have hkx := hk x hxm
 rw [ixs hx, Option.bind_some, chk_of (by decide), Option.bind_some, price_at hlp (hb x hxm), Option.bind_some]
 refine .nx ⟨m - 1, by omega, i + 1, by omega, w64_succ (by omega), ?_⟩
 show w64 (psum prices (l.take i) + kp prices x) = _
 rw [take_succ hx, psum_snoc, w64_id (by omega)]
def GoodPr (prices : List Int) : Prop := ∀ x ∈ prices, 0 ≤ x ∧ x ≤ 1000
noncomputable instance (p : List Int) : Decidable (GoodPr p) := Classical.propDecidable _
theorem ipr_ok (prices : List Int) (hl : prices.length = 30) : iter (zq7_L1 prices) (0 : Int) = some (if GoodPr prices then .go () else .ret ([], 0, false)) := by
 refine Tot.val (Tot.iter (fun m (s : Int) => ∃ i : Nat, m + i = 30 ∧ s = (i : Int) ∧ ∀ (j : Nat) x, j < i → prices[j]? = some x → 0 ≤ x ∧ x ≤ 1000) (n := 30) ⟨0, by omega, rfl, fun j x h => by omega⟩ ?_)
 rintro m s ⟨i, hm, rfl, hg⟩
 unfold zq7_L1
 dsimp only
 refine .iteP (fun hlt => ?_) (fun hge => .dn ?_)
 ·obtain ⟨x, hx⟩ := get_ex (l := prices) (i := i) (by omega)
  rw [ixs hx, Option.bind_some, within_eq, Option.bind_some]
  by_cases hgx : 0 ≤ x ∧ x ≤ 1000
  ·rw [decide_eq_true hgx, if_neg (by simp)]
   refine .nx ⟨m - 1, by omega, i + 1, by omega, w64_succ (by omega), fun j z hj hz => ?_⟩
   by_cases hji : j = i
   ·subst hji; rw [hx] at hz; cases hz; exact hgx
   ·exact hg j z (by omega) hz
  ·rw [decide_eq_false hgx, if_pos (by simp)]
   refine .dn ?_
   rw [if_neg fun hG => hgx (hG x (List.mem_of_getElem? hx))]
 ·have hG : GoodPr prices := fun x hx => by
   obtain ⟨j, hj⟩ := List.mem_iff_getElem?.1 hx
   exact hg j x (by have := get_lt hj; omega) hj
  rw [if_pos hG]
theorem spr_ok (prices : List Int) (hl : prices.length = 30) : iter (zq17_L1 prices) (0 : Int) = some (if GoodPr prices then .go () else .ret ([], 0, false)) := by
 refine Tot.val (Tot.iter (fun m (s : Int) => ∃ i : Nat, m + i = 30 ∧ s = (i : Int) ∧ ∀ (j : Nat) x, j < i → prices[j]? = some x → 0 ≤ x ∧ x ≤ 1000) (n := 30) ⟨0, by omega, rfl, fun j x h => by omega⟩ ?_)
 rintro m s ⟨i, hm, rfl, hg⟩
 unfold zq17_L1
 dsimp only
 refine .iteP (fun hlt => ?_) (fun hge => .dn ?_)
 ·obtain ⟨x, hx⟩ := get_ex (l := prices) (i := i) (by omega)
  rw [ixs hx, Option.bind_some, l1In_eq, Option.bind_some]
  by_cases hgx : 0 ≤ x ∧ x ≤ 1000
  ·rw [decide_eq_true hgx, if_neg (by simp)]
   refine .nx ⟨m - 1, by omega, i + 1, by omega, w64_succ (by omega), fun j z hj hz => ?_⟩
   by_cases hji : j = i
   ·subst hji; rw [hx] at hz; cases hz; exact hgx
   ·exact hg j z (by omega) hz
  ·rw [decide_eq_false hgx, if_pos (by simp)]
   refine .dn ?_
   rw [if_neg fun hG => hgx (hG x (List.mem_of_getElem? hx))]
 ·have hG : GoodPr prices := fun x hx => by
   obtain ⟨j, hj⟩ := List.mem_iff_getElem?.1 hx
   exact hg j x (by have := get_lt hj; omega) hj
  rw [if_pos hG]
theorem cheap_run {prices : List Int} (hlp : prices.length = 30) (hg : GoodPr prices) {a b : Int} (hab : 0 ≤ a ∧ a ≤ b ∧ b ≤ 1799) {T : Nat} (hT : T ≤ 200) (hTb : (T : Int) ≤ b - a) :
  ∃ (Z r : List Int), zq32 (rngF a (b - a).toNat) prices = some Z ∧ T ≤ Z.length ∧ Z.length ≤ 1800 ∧ zq33 (Z.take T) = some r ∧ r.length = T ∧ (∀ x ∈ r, 0 ≤ x ∧ x < 1800) ∧ (∀ x ∈ r, 0 ≤ kp prices x ∧ kp prices x ≤ 1000) ∧ iter (zq17_L3 prices a b (T : Int)) (([] : List Int), (0 : Int), (0 : Int)) = some (r, psum prices r) := by
 obtain ⟨Z, z1, z2, z3⟩ := Sym.stable_ok (cm_cheap hlp) (L := rngF a (b - a).toNat) (rngF_inc ..) (fun y hy => by have := mem_rngF.1 hy; omega) (by rw [rngF_len]; omega)
 have hzl := z2.length_eq
 rw [rngF_len] at hzl
 have hz : ∀ x, x ∈ Z ↔ a ≤ x ∧ x < b := fun x => by rw [z2.mem_iff, mem_rngF]; omega
 have hnd : Z.Nodup := (z2.nodup_iff).2 ((rngF_inc a (b - a).toNat).imp fun {x y} h => by omega)
 have hkb : ∀ x ∈ Z, 0 ≤ kp prices x ∧ kp prices x ≤ 1000 := fun x hx => by
  have := (hz x).1 hx
  exact hg _ (Sym.getD_mem (l := prices) (i := x.toNat / 60) (by omega)).1
 obtain ⟨r, r1, r2, r3⟩ := sort_int (Z.take T) (by rw [List.length_take]; omega)
 have hrl := r2.length_eq
 rw [List.length_take] at hrl
 have hrz : ∀ x ∈ r, x ∈ Z := fun x hx => List.mem_of_mem_take (r2.mem_iff.1 hx)
 refine ⟨Z, r, by rw [stable_CheapestMinutes]; exact z1, by omega, by omega, r1, by omega, fun x hx => by have := (hz x).1 (hrz x hx); omega, fun x hx => hkb x (hrz x hx), ?_⟩
 have hfin : Tot (iter (zq17_L3 prices a b (T : Int)) (([] : List Int), (0 : Int), (0 : Int))) fun q => SI prices Z T 1001 a q.1 q.2 := by
  refine Tot.iter (fun m (q : List Int × Int × Int) => ∃ i : Nat, m + i = 1001 ∧ q.2.2 = (i : Int) ∧ SI prices Z T (i : Int) a q.1 q.2.1) (n := 1001) ⟨0, by omega, rfl, ?_⟩ ?_
  ·have h0 : nB prices Z ((0 : Nat) : Int) a = 0 := by
    unfold nB
    rw [List.filter_eq_nil_iff.2 fun x hx => by
     have h1 := hkb x hx
     have h2 := (hz x).1 hx
     unfold bef
     simp only [decide_eq_true_eq]
     omega]
    rfl
   unfold SI
   rw [h0]
   exact ⟨List.Pairwise.nil, by simp, by simp [psum]⟩
  ·rintro m ⟨l, s, w⟩ ⟨i, hm, hw, hSI⟩
   dsimp only at hw hSI
   subst hw
   unfold zq17_L3
   dsimp only
   refine .iteP (fun hle => ?_) (fun hgt => .dn ?_)
   ·exact .call (inner_ok hlp hab hz z3 hnd (by omega) hT hkb (by omega) hSI) fun q hq => .nx ⟨m - 1, by omega, i + 1, by omega, w64_succ (by omega), hq⟩
   ·have : i = 1001 := by omega
    subst this
    exact hSI
 obtain ⟨⟨l, s⟩, e, q1, q2, q3⟩ := hfin
 dsimp only at q1 q2 q3
 have hall : nB prices Z 1001 a = Z.length := by
  unfold nB
  rw [List.filter_eq_self.2 fun x hx => by have := hkb x hx; unfold bef; exact decide_eq_true (by omega)]
 rw [hall, show min Z.length T = T by omega] at q2 q3
 have hlr : l = r := by
  refine List.Perm.eq_of_pairwise (le := (· ≤ ·)) (fun x y _ _ h3 h4 => by omega) (q1.imp fun {x y} h => by omega) r3 (q2.trans r2.symm)
 rw [e, hlr, q3, psum_perm r2]
theorem cheap_both (prices : List Int) (a b T : Int) (ha : -4000 ≤ a ∧ a ≤ 4000) (hb : -4000 ≤ b ∧ b ≤ 4000) : ∃ (r : List Int) (s : Int) (k : Bool), zq7 prices a b T = some (r, s, k) ∧ zq17 prices a b T = some (r, s, k) ∧ r.length ≤ 1000 ∧ (k = false → r = []) ∧ (k = true → (r.length : Int) = T ∧ prices.length = 30 ∧ (∀ x ∈ r, 0 ≤ x ∧ x < 1800) ∧ (∀ x ∈ r, 0 ≤ kp prices x ∧ kp prices x ≤ 1000) ∧ s = psum prices r) := by
 have hw : w64 (b - a) = b - a := w64_id (by omega)
 unfold zq7 zq17 zq25
 rw [time_eq, time_eq, l4Time_eq, l4Time_eq, hw]
 by_cases hlp : prices.length = 30
 ·have n30 : ((prices.length : Int) != 30) = false := by simp; omega
  by_cases hok : (0 ≤ a ∧ a ≤ 1799) ∧ (0 ≤ b ∧ b ≤ 1799) ∧ a ≤ b ∧ 0 ≤ T ∧ T ≤ b - a ∧ T ≤ 200
  ·obtain ⟨h1, h2, h3, h4, h5, h6⟩ := hok
   have nab : ¬ b < a := by omega
   have e1 : zq12 T 0 (if 200 < b - a then 200 else b - a) = some true := by
    rw [within_eq]; congr 1; apply decide_eq_true; split <;> omega
   have e2 : ∃ q, (if (decide (b - a < 200)) = true then some (b - a) else some (200 : Int)) = some q ∧ zq24 T 0 q = some true := by
    by_cases g : b - a < 200
    ·exact ⟨b - a, by simp [g], by rw [l1In_eq, decide_eq_true (by omega)]⟩
    ·exact ⟨200, by simp [g], by rw [l1In_eq, decide_eq_true (by omega)]⟩
   obtain ⟨q, q1, q2⟩ := e2
   simp only [n30, Bool.false_eq_true, if_false, Option.bind_some, decide_eq_true h1, decide_eq_true h2, Bool.not_true, nab, decide_false, e1, q1, q2, ipr_ok prices hlp, spr_ok prices hlp]
   by_cases hG : GoodPr prices
   ·obtain ⟨t, rfl⟩ : ∃ t : Nat, T = t := ⟨T.toNat, by omega⟩
    obtain ⟨Z, r, z1, z2, z3, r1, r2, r3, r4, r5⟩ := cheap_run hlp hG ⟨h1.1, h3, h2.2⟩ (T := t) (by omega) (by omega)
    have fgi : ∀ k : Unit → Option (List Int × Int × Bool), flb (some (.go () : Fl (List Int × Int × Bool) Unit)) k = k () := fun k => rfl
    have hfill := fillF_ok h1.1 h3 h2.2
    rw [hw] at hfill
    simp only [hG, if_true, fgi]
    rw [chk_of (by omega), Option.bind_some, hfill, Option.bind_some, z1, Option.bind_some, chk_of (by omega), Option.bind_some, Int.toNat_natCast, show (0 : Int).toNat = 0 from rfl, List.drop_zero, cloneI_eq _ (by rw [List.length_take]; omega), Option.bind_some, r1, Option.bind_some, ssum_ok hlp (by omega) r3 r4, Option.bind_some, r5]
    exact ⟨r, psum prices r, true, rfl, rfl, by omega, fun h => (by cases h), fun _ => ⟨by omega, hlp, r3, r4, rfl⟩⟩
   ·simp only [hG, if_false]
    exact ⟨[], 0, false, rfl, rfl, by simp, fun _ => rfl, fun h => (by cases h)⟩
  ·have vI : (if (!decide (0 ≤ a ∧ a ≤ 1799)) = true then some true else (some (decide (0 ≤ b ∧ b ≤ 1799))).bind fun r1 => if (!r1) = true then some true else if (decide (b < a)) = true then some true else (zq12 T 0 (if 200 < b - a then 200 else b - a)).bind fun r2 => some (!r2)) = some true := by
    by_cases g1 : 0 ≤ a ∧ a ≤ 1799
    ·by_cases g2 : 0 ≤ b ∧ b ≤ 1799
     ·by_cases g3 : b < a
      ·simp [g1, g2, g3]
      ·have : ¬ (0 ≤ T ∧ T ≤ if 200 < b - a then 200 else b - a) := fun w => by
        apply hok
        split at w <;> omega
       simp only [g1, g2, g3, and_self, decide_true, Bool.not_true, Bool.false_eq_true, if_false, Option.bind_some, decide_false, within_eq, this, Bool.not_false]
     ·simp [g1, g2]
    ·simp [g1]
   have vS : (if (!decide (0 ≤ a ∧ a ≤ 1799)) = true then some true else (some (decide (0 ≤ b ∧ b ≤ 1799))).bind fun r1 => if (!r1) = true then some true else (if (decide (b - a < 200)) = true then some (b - a) else some (200 : Int)).bind fun r2 => (zq24 T 0 r2).bind fun r3 => some (!r3)) = some true := by
    by_cases g1 : 0 ≤ a ∧ a ≤ 1799
    ·by_cases g2 : 0 ≤ b ∧ b ≤ 1799
     ·have : ∃ q, (if (decide (b - a < 200)) = true then some (b - a) else some (200 : Int)) = some q ∧ ¬ (0 ≤ T ∧ T ≤ q) := by
       by_cases g : b - a < 200
       ·exact ⟨b - a, by simp [g], fun w => hok (by omega)⟩
       ·exact ⟨200, by simp [g], fun w => hok (by omega)⟩
      obtain ⟨q, q1, q2⟩ := this
      simp only [g1, g2, and_self, decide_true, Bool.not_true, Bool.false_eq_true, if_false, Option.bind_some, q1, l1In_eq, q2, decide_false, Bool.not_false]
     ·simp [g1, g2]
    ·simp [g1]
   simp only [n30, Bool.false_eq_true, if_false, Option.bind_some] at vI vS ⊢
   rw [vI, vS]
   exact ⟨[], 0, false, rfl, rfl, by simp, fun _ => rfl, fun h => (by cases h)⟩
 ·have n30 : ((prices.length : Int) != 30) = true := by simp; omega
  simp only [n30, if_true, Option.bind_some]
  exact ⟨[], 0, false, rfl, rfl, by simp, fun _ => rfl, fun h => (by cases h)⟩
theorem t_amongn {k : Nat} {c : l1Cur} (l : List Int) (hl : l ≠ []) (h : Cur k c) (hk : k ≤ 3000000000) : Tot (zq20 c l) fun r => Cur (k + 2) r.2 ∧ r.1 ∈ l := by
 unfold zq20
 obtain ⟨r, hr, hc, h0, h1⟩ := pick_ok (l.length : Int) h hk
 have hpos : 0 < l.length := List.length_pos_iff.2 hl
 obtain ⟨x, hx, _, hm⟩ := idx_lt (l := l) h0 (by omega)
 refine ⟨(x, r.2), ?_, hc, hm⟩
 simp only [hr, Option.bind_some, hx]
theorem chargings_ok {k : Nat} {c : l1Cur} (h : Cur k c) (hk : k ≤ 1000000) : Tot (zq21 c) fun r => Cur (k + 200) r.2 ∧ r.1.length ≤ 30 := by
 unfold zq21
 refine .call (t_pick 7 h (by omega)) fun r ⟨hr, q0, q1⟩ => ?_
 refine .call (P := fun o => Cur (k + 40) ⟨o.1, o.2.1, ⟨o.2.2.1⟩⟩ ∧ o.2.2.2.length ≤ 6) (.iter (fun m (s : Int × List UInt8 × Int × Int × List Span) => s.1 = (m : Int) ∧ m + s.2.2.2.2.length ≤ 6 ∧ Cur (k + 2 + 4 * s.2.2.2.2.length) ⟨s.2.1, s.2.2.1, ⟨s.2.2.2.1⟩⟩) (n := r.1.toNat) ⟨by show r.1 = _; omega, by show r.1.toNat + 0 ≤ 6; omega, hr.mono (by omega)⟩ ?_) fun ⟨v3, v4, v5, n1⟩ ⟨hc, hn1⟩ => ?_
 ·rintro m ⟨f, v, v1, v2, n⟩ ⟨hf, hm, hc⟩
  dsimp only at hf hm hc
  subst hf
  unfold zq21_L1
  dsimp only
  refine .iteP (fun hlt => ?_) (fun hge => .dn ⟨hc.mono (by omega), by show n.length ≤ 6; omega⟩)
  refine .call (t_amongn _ (by simp) hc (by omega)) fun r1 ⟨hr1, _⟩ => .call (t_amongn _ (by simp) hr1 (by omega)) fun r2 ⟨hr2, _⟩ => .chk (by simp; omega) (.nx ⟨m - 1, by omega, by show w64 ((m : Int) - 1) = _; rw [w64_id (by omega)]; omega, by show m - 1 + (n ++ _).length ≤ 6; rw [List.length_append, List.length_singleton]; omega, by show Cur (k + 2 + 4 * (n ++ _).length) _; rw [List.length_append, List.length_singleton]; exact hr2.mono (by omega)⟩)
 ·dsimp only at hc hn1 ⊢
  refine .call (P := fun o => Cur (k + 150) ⟨o.1, o.2.1, ⟨o.2.2.1⟩⟩ ∧ o.2.2.2.length ≤ 30) (.call (t_pick 40 hc (by omega)) fun r3 ⟨hr3, _⟩ => .ite (fun _ => .call (t_amongn _ (by simp) hr3 (by omega)) fun r4 ⟨hr4, _⟩ => .chk (by simp; omega) (.ok ⟨hr4.mono (by omega), by show (n1 ++ _).length ≤ 30; rw [List.length_append, List.length_singleton]; omega⟩)) fun _ => .ite (fun _ => ?_) fun _ => .ok ⟨hr3.mono (by omega), by show n1.length ≤ 30; omega⟩) fun ⟨v6, v7, v8, n2⟩ ⟨hc2, hn2⟩ => .ok ⟨hc2.mono (by omega), hn2⟩
  refine .call (P := fun o => Cur (k + 140) ⟨o.1, o.2.1, ⟨o.2.2.1⟩⟩ ∧ o.2.2.2.length ≤ 30) (.iter (fun m (s : List UInt8 × Int × Int × List Span) => m + s.2.2.2.length = 30 ∧ s.2.2.2.length ≤ 22 ∧ Cur (k + 50 + 2 * s.2.2.2.length) ⟨s.1, s.2.1, ⟨s.2.2.1⟩⟩) (n := 30 - n1.length) ⟨by show 30 - n1.length + n1.length = 30; omega, by show n1.length ≤ 22; omega, hr3.mono (by show k + 40 + 2 ≤ k + 50 + 2 * n1.length; omega)⟩ ?_) fun ⟨v12, v13, v14, n4⟩ ⟨hc4, hn4⟩ => .ok ⟨hc4.mono (by omega), hn4⟩
  rintro m ⟨v9, v10, v11, n3⟩ ⟨hm, h22, hc3⟩
  dsimp only at hm h22 hc3
  unfold zq21_L2
  dsimp only
  refine .call (t_pick 2 hc3 (by omega)) fun r5 ⟨hr5, w0, w1⟩ => ?_
  have hw : w64 (20 + r5.1) = 20 + r5.1 := w64_id (by omega)
  rw [hw]
  refine .iteP (fun hlt => .chk (by simp; omega) (.nx ⟨m - 1, by omega, by show m - 1 + (n3 ++ _).length = 30; rw [List.length_append, List.length_singleton]; omega, by show (n3 ++ _).length ≤ 22; rw [List.length_append, List.length_singleton]; omega, by show Cur (k + 50 + 2 * (n3 ++ _).length) _; rw [List.length_append, List.length_singleton]; exact hr5.mono (by omega)⟩)) (fun hge => .dn ⟨hr5.mono (by omega), by show n3.length ≤ 30; omega⟩)
theorem drawCq_ok (code : List UInt8) : Tot (zq18 code) fun r => r.1.length ≤ 30 := by
 have h0 := (cur0 code).mono (k' := 10) (by omega)
 unfold zq18
 refine .call (chargings_ok h0 (by omega)) fun r ⟨hr, hl⟩ => .call (t_pick 24 hr (by omega)) fun r1 ⟨hr1, q0, q1⟩ => .chk (by decide) ?_
 obtain ⟨n, hn, hn2⟩ : ∃ n : Nat, w64 (5 + w64 (r1.1.tdiv 11)) = (n : Int) ∧ 5 ≤ n ∧ n ≤ 7 := by
  have e : r1.1.tdiv 11 = r1.1 / 11 := Int.tdiv_eq_ediv_of_nonneg q0
  rw [e, w64_id (x := r1.1 / 11) (by omega), w64_id (by omega)]
  exact ⟨(5 + r1.1 / 11).toNat, by omega, by omega, by omega⟩
 rw [hn]
 refine .chk ⟨by omega, by omega, by simp; omega⟩ (.call (t_amongn _ ?_ hr1 (by omega)) fun r2 _ => .ok hl)
 intro e
 have := congrArg List.length e
 rw [List.length_drop, List.length_take, Int.toNat_natCast] at this
 simp at this; omega
theorem drawCm_ok (code : List UInt8) : Tot (zq19 code) fun r => (0 ≤ r.2.1 ∧ r.2.1 ≤ 1700) ∧ 0 ≤ r.2.2.1 ∧ r.2.2.1 ≤ 1830 := by
 have h0 := (cur0 code).mono (k' := 10) (by omega)
 unfold zq19
 refine .call (P := fun o => Cur 100 ⟨o.1, o.2.1, ⟨o.2.2.1⟩⟩ ∧ o.2.2.2.length = 30) (.iter (fun m (s : Int × List UInt8 × Int × Int × List Int) => ∃ i : Nat, m + i = 30 ∧ s.1 = (i : Int) ∧ s.2.2.2.2.length = i ∧ Cur (10 + 2 * i) ⟨s.2.1, s.2.2.1, ⟨s.2.2.2.1⟩⟩) (n := 30) ⟨0, rfl, rfl, rfl, h0⟩ ?_) fun ⟨v3, v4, v5, i1⟩ ⟨hc, hl⟩ => ?_
 ·rintro m ⟨f, v, v1, v2, l⟩ ⟨i, hm, hf, hl, hc⟩
  dsimp only at hf hl hc
  subst hf
  unfold zq19_L1
  dsimp only
  refine .iteP (fun hlt => .call (t_amongn _ (by simp) hc (by omega)) fun r ⟨hr, _⟩ => .chk (by simp; omega) (.nx ⟨m - 1, by omega, i + 1, by omega, w64_succ (by omega), by show (l ++ _).length = _; rw [List.length_append, List.length_singleton]; omega, hr.mono (by omega)⟩)) (fun hge => .dn ⟨hc.mono (by omega), by show l.length = 30; omega⟩)
 ·dsimp only at hc hl ⊢
  refine .call (P := fun o => Cur 110 ⟨o.2.1, o.2.2.1, ⟨o.2.2.2⟩⟩) (.call (t_pick 40 hc (by omega)) fun r1 ⟨hr1, _⟩ => .ite (fun _ => .chk ⟨by omega, by omega⟩ (.ok (hr1.mono (by omega)))) fun _ => .ite (fun _ => .call (t_amongn _ (by simp) hr1 (by omega)) fun r2 ⟨hr2, _⟩ => .idx (by omega) (by omega) fun e _ => .ok (hr2.mono (by omega))) fun _ => .ok (hr1.mono (by omega))) fun ⟨i2, v6, v7, v8⟩ hc2 => ?_
  dsimp only at hc2 ⊢
  refine .call (t_amongn _ (by simp) hc2 (by omega)) fun r3 ⟨hr3, m3⟩ => .call (t_amongn _ (by simp) hr3 (by omega)) fun r4 ⟨hr4, _⟩ => .call (t_amongn _ (by simp) hr4 (by omega)) fun r5 ⟨hr5, m5⟩ => .ok ?_
  have b3 : 0 ≤ r3.1 ∧ r3.1 ≤ 1700 := by simp at m3; omega
  have b5 : 0 ≤ r5.1 ∧ r5.1 ≤ 130 := by simp at m5; omega
  refine ⟨b3, ?_⟩
  show 0 ≤ w64 (r3.1 + r5.1) ∧ w64 (r3.1 + r5.1) ≤ 1830
  rw [w64_id (by omega)]; omega
theorem chargers_true (code : List UInt8) : v_FnChargers code = some true := by
 unfold v_FnChargers
 refine Tot.val (.eq (rBig_eq code) (.iteP (fun _ => .ok rfl) (fun _ => ?_)))
 refine .call (drawCq_ok code) fun ⟨list, c⟩ hl => ?_
 dsimp only at hl ⊢
 obtain ⟨out, b, q1, q2, q3, q4⟩ := queue_both list (by omega) c
 rw [q1, q2]
 simp only [Option.bind_some, beq_self_eq_true, Bool.not_true, Bool.false_eq_true, if_false, rInts_refl out (by omega)]
 have hL1 : iter (v_FnChargers_L1 (list, c) (out, b)) (0 : Int) = some (.go ()) := by
  refine Tot.val (Tot.iter (fun m (s : Int) => ∃ i : Nat, m + i = out.length ∧ s = (i : Int)) (n := out.length) ⟨0, by omega, rfl⟩ ?_)
  rintro m s ⟨i, hm, rfl⟩
  unfold v_FnChargers_L1
  dsimp only
  cases b with
  | false =>
   have : (if (decide ((i : Int) < (out.length : Int))) = true then some false else some false) = some false := by split <;> rfl
   rw [this, Option.bind_some, if_neg (by simp)]
   exact .dn rfl
  | true =>
   obtain ⟨hG, c1, c2, hlen, hfrom⟩ := q4 rfl
   by_cases hlt : (i : Int) < (out.length : Int)
   ·obtain ⟨x, hx⟩ := get_ex (l := list) (i := i) (by omega)
    have ho := (Sym.getD_mem (l := out) (i := i) (by omega)).2
    have hf := hfrom i x hx
    rw [if_pos (by simpa using hlt), Option.bind_some, if_pos rfl, ixs ho, Option.bind_some, ixs hx, Option.bind_some, if_neg (by simp only [decide_eq_true_eq]; omega)]
    exact .nx ⟨m - 1, by omega, i + 1, by omega, w64_succ (by omega)⟩
   ·rw [if_neg (by simpa using hlt), Option.bind_some, if_neg (by simp)]
    exact .dn rfl
 refine .flb ⟨.go (), hL1, fun r h => (by cases h), fun u _ => ?_⟩
 obtain ⟨n, t, k, p1, p2, p3⟩ := peak_both list (by omega)
 rw [p1, p2]
 simp only [Option.bind_some, beq_self_eq_true, Bool.not_true, Bool.false_eq_true, if_false, bne_self_eq_false]
 have hL2 : Tot (iter (v_FnChargers_L2 (list, c)) (true, (0 : Int))) fun r => r = true → ∀ s ∈ list, s.From < s.To := by
  refine Tot.iter (fun m (s : Bool × Int) => ∃ i : Nat, m + i = list.length ∧ s.2 = (i : Int) ∧ (s.1 = true → ∀ (j : Nat) x, j < i → list[j]? = some x → x.From < x.To)) (n := list.length) ⟨0, by omega, rfl, fun _ j x h => by omega⟩ ?_
  rintro m ⟨v, w⟩ ⟨i, hm, hw, hv⟩
  dsimp only at hw hv
  subst hw
  unfold v_FnChargers_L2
  dsimp only
  refine .iteP (fun hlt => ?_) (fun hge => .dn fun hvt s hs => by
   obtain ⟨j, hj⟩ := List.mem_iff_getElem?.1 hs
   exact hv hvt j s (by have := get_lt hj; omega) hj)
  obtain ⟨x, hx⟩ := get_ex (l := list) (i := i) (by omega)
  cases v with
  | true =>
   rw [if_pos rfl, ixs hx, Option.bind_some, Option.bind_some]
   refine .nx ⟨m - 1, by omega, i + 1, by omega, w64_succ (by omega), fun hd j z hj hz => ?_⟩
   have hd2 : x.From < x.To := of_decide_eq_true (show decide (x.From < x.To) = true from hd)
   by_cases hji : j = i
   ·subst hji; rw [hx] at hz; cases hz; exact hd2
   ·exact hv rfl j z (by omega) hz
  | false =>
   rw [if_neg (by simp)]
   exact .nx ⟨m - 1, by omega, i + 1, by omega, w64_succ (by omega), fun hd => (by cases hd)⟩
 refine .call hL2 fun long hlong => ?_
 have hmid : (((if k = true then if long = true then if (decide (1 ≤ n)) = true then some (decide (n ≤ 10)) else some false else some false else some false).bind fun (v3 : Bool) => if v3 = true then (zq5 list n).bind fun r8 => if (!r8.2) = true then some (Fl.ret false) else flb (iter (v_FnChargers_L3 (list, c) r8) (0 : Int)) fun (_ : Unit) => some (Fl.go ()) else some (Fl.go ())) : Option (Fl Bool Unit)) = some (.go ()) := by
  have hc : (if k = true then if long = true then if (decide (1 ≤ n)) = true then some (decide (n ≤ 10)) else some false else some false else some false) = some (k && (long && decide (1 ≤ n ∧ n ≤ 10))) := by
   cases k <;> cases long <;> by_cases g1 : 1 ≤ n <;> simp [g1]
  rw [hc, Option.bind_some]
  by_cases hall : (k && (long && decide (1 ≤ n ∧ n ≤ 10))) = true
  ·rw [if_pos hall]
   simp only [Bool.and_eq_true, decide_eq_true_eq] at hall
   obtain ⟨hk, hlo, hn⟩ := hall
   obtain ⟨hG, hcnt⟩ := p3 hk
   obtain ⟨o2, w1, w2, w3⟩ := nowait hG (hlong hlo) hn hcnt
   rw [w1, Option.bind_some, if_neg (by simp)]
   have hL3 : iter (v_FnChargers_L3 (list, c) (o2, true)) (0 : Int) = some (.go ()) := by
    refine Tot.val (Tot.iter (fun m (s : Int) => ∃ i : Nat, m + i = o2.length ∧ s = (i : Int)) (n := o2.length) ⟨0, by omega, rfl⟩ ?_)
    rintro m s ⟨i, hm, rfl⟩
    unfold v_FnChargers_L3
    dsimp only
    refine .iteP (fun hlt => ?_) (fun hge => .dn rfl)
    obtain ⟨x, hx⟩ := get_ex (l := list) (i := i) (by omega)
    have ho := (Sym.getD_mem (l := o2) (i := i) (by omega)).2
    rw [w3 i x hx] at ho
    rw [ixs ho, Option.bind_some, ixs hx, Option.bind_some, if_neg (by simp)]
    exact .nx ⟨m - 1, by omega, i + 1, by omega, w64_succ (by omega)⟩
   rw [hL3]; rfl
  ·rw [if_neg hall]
 refine .flb ⟨.go (), hmid, fun r h => (by cases h), fun u _ => ?_⟩
 refine .call (drawCm_ok code) fun ⟨prices, a, z, T⟩ ⟨⟨d1, d2⟩, d3, d4⟩ => ?_
 dsimp only at d1 d2 d3 d4 ⊢
 obtain ⟨r, s, e, c1, c2, c3, c4, c5⟩ := cheap_both prices a z T (by omega) (by omega)
 rw [c1, c2]
 simp only [Option.bind_some, beq_self_eq_true, Bool.not_true, Bool.false_eq_true, if_false, bne_self_eq_false, rInts_refl r (by omega)]
 cases e with
 | false =>
  rw [c4 rfl]
  have : iter (v_FnChargers_L4 (prices, a, z, T) ([], s, false)) ((0 : Int), (0 : Int)) = some 0 := by
   refine iter_dn ?_
   unfold v_FnChargers_L4
   dsimp only
   rw [if_neg (by simp)]
  rw [this]
  exact .ok rfl
 | true =>
  obtain ⟨f1, f2, f3, f4, f5⟩ := c5 rfl
  have hL4 : iter (v_FnChargers_L4 (prices, a, z, T) (r, s, true)) ((0 : Int), (0 : Int)) = some (psum prices r) := by
   have : v_FnChargers_L4 (prices, a, z, T) (r, s, true) = zq7_L3 prices r := rfl
   rw [this]
   exact ssum_ok f2 (by omega) f3 f4
  rw [hL4, f5]
  simp only [Option.bind_some, Bool.not_true, Bool.false_eq_true, if_false]
  rw [if_pos (by simp [f1])]
  exact .ok (by simp)
end Go.Proofs.Ytmmffjenpfeapaa
