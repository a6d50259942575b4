/- The plain law: what the models compute, no program in sight. -/
import Derived.Test.YtdocbkbpjdjlpaaPfM
import Derived.Test.YtdocbkbpjdjlpaaAbPdq6
namespace Go.Proofs.Ytdocbkbpjdjlpaa
open Go Go.Ab
set_option maxHeartbeats 4000000
set_option linter.unusedVariables false
set_option linter.unusedSimpArgs false
theorem qb {α β : Type} (a : α) (f : α → Option β) : (some a).bind f = f a := rfl
def Cur (k : Nat) (c : l1Cur) : Prop := 0 ≤ c.at_ ∧ c.at_ ≤ k
theorem Cur.mono {k k' : Nat} {c : l1Cur} (h : Cur k c) (hk : k ≤ k') : Cur k' c := ⟨h.1, by have := h.2; omega⟩
theorem next_ok {k : Nat} {c : l1Cur} (h : Cur k c) (hk : k ≤ 4000000000) : ∃ r, zq44 c = some r ∧ Cur (k + 1) r.2 ∧ 0 ≤ r.1 ∧ r.1 ≤ 255 := by
 obtain ⟨h0, h1⟩ := h
 have hw : w64 (c.at_ + 1) = c.at_ + 1 := w64_id (by omega)
 have hcur : ∀ s, Cur (k + 1) ⟨c.code_, w64 (c.at_ + 1), s⟩ := fun s => by rw [hw]; exact ⟨by show 0 ≤ c.at_ + 1; omega, by show c.at_ + 1 ≤ _; omega⟩
 unfold zq44
 have hv : ∃ v, (if (decide (c.at_ < (c.code_.length : Int))) = true then (idx c.code_ c.at_).bind fun e1 => some (w64 ((e1.toNat : Int))) else some 0) = some v ∧ 0 ≤ v ∧ v ≤ 255 := by
  by_cases hlt : c.at_ < c.code_.length
  ·obtain ⟨x, hx, _, _⟩ := idx_lt h0 hlt
   have := x.toNat_lt
   refine ⟨(x.toNat : Int), ?_, by omega, by omega⟩
   simp only [hlt, decide_true, if_true, hx, qb]
   rw [w64_id (by omega)]
  ·exact ⟨0, by simp [hlt], by omega, by omega⟩
 obtain ⟨v, hv, hv0, hv1⟩ := hv
 rw [hv]
 simp only [qb]
 split
 ·exact ⟨_, rfl, hcur _, hv0, hv1⟩
 ·rw [chk_of (by omega)]
  exact ⟨_, rfl, hcur _, and255 _⟩
theorem pick_ok {k : Nat} {c : l1Cur} (n : Int) (h : Cur k c) (hk : k ≤ 3000000000) : ∃ r, zq48 c n = some r ∧ Cur (k + 2) r.2 ∧ 0 ≤ r.1 ∧ (r.1 < n ∨ r.1 = 0) := by
 unfold zq48
 by_cases hn : n ≤ 1
 ·exact ⟨(0, c), by simp [hn], h.mono (by omega), by simp, .inr rfl⟩
 ·obtain ⟨r, hr, hc, h0, h1⟩ := next_ok h (by omega)
  have hn' : decide (n ≤ 1) = false := by simpa using hn
  simp only [hn', Bool.false_eq_true, if_false, hr, qb]
  have hne : chk (n ≠ 0) = some () := chk_of (by omega)
  by_cases h2 : 200 < n
  ·obtain ⟨r', hr', hc', h0', h1'⟩ := next_ok hc (by omega)
   have e1 : w64 (r.1 * 256) = r.1 * 256 := w64_id (by omega)
   have e2 : w64 (r.1 * 256 + r'.1) = r.1 * 256 + r'.1 := w64_id (by omega)
   have h3 := tmod_rng (a := r.1 * 256 + r'.1) (b := n) (by omega) (by omega)
   simp only [h2, decide_true, if_true, hr', qb, hne, e1, e2]
   exact ⟨_, rfl, hc'.mono (by omega), h3.1, .inl h3.2⟩
  ·have h2' : decide (200 < n) = false := by simpa using h2
   have h3 := tmod_rng (a := r.1) (b := n) (by omega) (by omega)
   simp only [h2', Bool.false_eq_true, if_false, qb, hne]
   exact ⟨_, rfl, hc.mono (by omega), h3.1, .inl h3.2⟩
theorem amongw_ok {k : Nat} {c : l1Cur} (l : List Int) (hl : l ≠ []) (h : Cur k c) (hk : k ≤ 3000000000) : ∃ r, zq36 c l = some r ∧ Cur (k + 2) r.2 ∧ r.1 ∈ l := by
 unfold zq36
 obtain ⟨r, hr, hc, h0, h1⟩ := pick_ok (l.length : Int) h hk
 have hpos : 0 < l.length := List.length_pos_iff.2 hl
 obtain ⟨x, hx, _, hm⟩ := idx_lt (l := l) h0 (by omega)
 simp only [hr, qb, hx]
 exact ⟨_, rfl, hc, hm⟩
theorem among_ok {k : Nat} {c : l1Cur} (l : List Int) (hl : l ≠ []) (h : Cur k c) (hk : k ≤ 3000000000) : ∃ r, zq35 c l = some r ∧ Cur (k + 2) r.2 ∧ r.1 ∈ l := by
 have : zq35 c l = zq36 c l := rfl
 rw [this]; exact amongw_ok l hl h hk
theorem one_ok {k : Nat} {c : l1Cur} (n : Int) (h : Cur k c) (hk : k ≤ 3000000000) : ∃ r, zq47 c n = some r ∧ Cur (k + 2) r.2 := by
 unfold zq47
 obtain ⟨r, hr, hc, _, _⟩ := pick_ok n h hk
 simp only [hr, qb]
 exact ⟨_, rfl, hc⟩
theorem of_ok {k : Nat} {c : l1Cur} (l : List ByteArray) (hl : l ≠ []) (h : Cur k c) (hk : k ≤ 3000000000) : ∃ r, zq45 c l = some r ∧ Cur (k + 2) r.2 ∧ r.1 ∈ l := by
 unfold zq45
 obtain ⟨r, hr, hc, h0, h1⟩ := pick_ok (l.length : Int) h hk
 have hpos : 0 < l.length := List.length_pos_iff.2 hl
 obtain ⟨x, hx, _, hm⟩ := idx_lt (l := l) h0 (by omega)
 simp only [hr, qb, hx]
 exact ⟨_, rfl, hc, hm⟩
theorem ofw_ok {k : Nat} {c : l1Cur} (l : List ByteArray) (hl : l ≠ []) (h : Cur k c) (hk : k ≤ 3000000000) : ∃ r, zq46 c l = some r ∧ Cur (k + 2) r.2 ∧ r.1 ∈ l := by
 have : zq46 c l = zq45 c l := rfl
 rw [this]; exact of_ok l hl h hk
theorem cur0 (code : List UInt8) : Cur 0 ⟨code, 0, ⟨0⟩⟩ := ⟨by show (0 : Int) ≤ 0; omega, by show (0 : Int) ≤ _; omega⟩
theorem fdivp {x : Int} (h : 0 ≤ x) (k : Nat) : x.fdiv (2 ^ k) = x / (2 ^ k : Nat) := by
 rw [Int.fdiv_eq_ediv_of_nonneg _ (by exact_mod_cast Nat.zero_le (2 ^ k))]
 simp
theorem pow_step {x y : Int} {v k : Nat} (h : y * (2 ^ v : Nat) ≤ x) (hy : 0 ≤ y) : y / (2 ^ k : Nat) * (2 ^ (v + k) : Nat) ≤ x := by
 have h1 : y / (2 ^ k : Nat) * (2 ^ k : Nat) ≤ y := Int.ediv_mul_le _ (by have := Nat.two_pow_pos k; omega)
 have h2 : y / (2 ^ k : Nat) * (2 ^ k : Nat) * (2 ^ v : Nat) ≤ y * (2 ^ v : Nat) := Int.mul_le_mul_of_nonneg_right h1 (Int.natCast_nonneg _)
 rw [Nat.add_comm, Nat.pow_add, Int.natCast_mul, ← Int.mul_assoc]
 omega
theorem len64_ok (x : IK .u64) (h0 : 0 ≤ x.v) (h1 : x.v < 8589934592) : Tot (zq32 x) fun r => 0 ≤ r ∧ r ≤ 64 ∧ (1 ≤ x.v → ((2 ^ r.toNat : Nat) : Int) ≤ 2 * x.v) := by
 unfold zq32
 refine Tot.call (P := fun (r : Int × Int) => 0 ≤ r.1 ∧ r.1 < 4294967296 ∧ (1 ≤ x.v → 1 ≤ r.1) ∧ 0 ≤ r.2 ∧ r.2 ≤ 32 ∧ r.1 * (2 ^ r.2.toNat : Nat) ≤ x.v) (.iteP (fun hc => Tot.chk (by decide) (.ok ?_)) (fun hc => .ok ⟨h0, by dsimp only; omega, fun h => h, Int.le_refl _, by dsimp only; omega, by simp⟩)) fun ⟨x1, v⟩ ⟨p1, p2, p3, p4, p5, p6⟩ => ?_
 ·have e : ((2 ^ 32 : Nat) : Int) = 4294967296 := by decide
  have e2 : x.v.fdiv (2 ^ (min (32 : Int).toNat (IntKind.u64).bits)) = x.v / (2 ^ 32 : Nat) := fdivp h0 32
  simp only [e2]
  exact ⟨by omega, by omega, fun _ => by omega, by omega, by omega, Int.ediv_mul_le _ (by decide)⟩
 dsimp only at p1 p2 p3 p4 p5 p6 ⊢
 refine Tot.call (P := fun (r : Int × Int) => 0 ≤ r.1 ∧ r.1 < 65536 ∧ (1 ≤ x.v → 1 ≤ r.1) ∧ 0 ≤ r.2 ∧ r.2 ≤ 48 ∧ r.1 * (2 ^ r.2.toNat : Nat) ≤ x.v) (.iteP (fun hc => Tot.chk (by decide) (.ok ?_)) (fun hc => .ok ⟨p1, by dsimp only; omega, p3, p4, by dsimp only; omega, p6⟩)) fun ⟨x2, v1⟩ ⟨q1, q2, q3, q4, q5, q6⟩ => ?_
 ·have e : ((2 ^ 16 : Nat) : Int) = 65536 := by decide
  have e2 : x1.fdiv (2 ^ (min (16 : Int).toNat (IntKind.u64).bits)) = x1 / (2 ^ 16 : Nat) := fdivp p1 16
  have e3 : w64 (v + 16) = v + 16 := w64_id (by omega)
  have e4 : (v + 16).toNat = v.toNat + 16 := by omega
  simp only [e2, e3, e4]
  exact ⟨by omega, by omega, fun _ => by omega, by omega, by omega, pow_step p6 p1⟩
 dsimp only at q1 q2 q3 q4 q5 q6 ⊢
 refine Tot.call (P := fun (r : Int × Int) => 0 ≤ r.1 ∧ r.1 < 256 ∧ (1 ≤ x.v → 1 ≤ r.1) ∧ 0 ≤ r.2 ∧ r.2 ≤ 56 ∧ r.1 * (2 ^ r.2.toNat : Nat) ≤ x.v) (.iteP (fun hc => Tot.chk (by decide) (.ok ?_)) (fun hc => .ok ⟨q1, by dsimp only; omega, q3, q4, by dsimp only; omega, q6⟩)) fun ⟨x3, v2⟩ ⟨r1, r2, r3, r4, r5, r6⟩ => ?_
 ·have e : ((2 ^ 8 : Nat) : Int) = 256 := by decide
  have e2 : x2.fdiv (2 ^ (min (8 : Int).toNat (IntKind.u64).bits)) = x2 / (2 ^ 8 : Nat) := fdivp q1 8
  have e3 : w64 (v1 + 8) = v1 + 8 := w64_id (by omega)
  have e4 : (v1 + 8).toNat = v1.toNat + 8 := by omega
  simp only [e2, e3, e4]
  exact ⟨by omega, by omega, fun _ => by omega, by omega, by omega, pow_step q6 q1⟩
 dsimp only at r1 r2 r3 r4 r5 r6 ⊢
 have e8 : IntKind.u8.wrap x3 = x3 := Int.emod_eq_of_lt r1 r2
 rw [e8]
 generalize hs : str _ = S
 have hS : (Nat.beq S.size 256 && (List.range 256).all fun i => Nat.ble (S.data.toList.getD i 0).toNat 8 && (Nat.beq i 0 || Nat.ble (2 ^ (S.data.toList.getD i 0).toNat) (2 * i))) = true := by
  rw [← hs]; kernel_rfl
 clear hs
 simp only [Bool.and_eq_true, List.all_eq_true, List.mem_range, Bool.or_eq_true] at hS
 obtain ⟨s1, s2⟩ := hS
 have s1 := Nat.eq_of_beq_eq_true s1
 obtain ⟨n, rfl⟩ : ∃ n : Nat, x3 = n := ⟨x3.toNat, by omega⟩
 have s2 := s2 n (by omega)
 have t1 := Nat.le_of_ble_eq_true s2.1
 refine Tot.chk (by omega) (.ok ?_)
 rw [Int.toNat_natCast]
 revert t1 s2
 generalize (S.data.toList.getD n 0).toNat = t
 intro s2 t1
 rw [w64_id (x := (t : Int)) (by omega), w64_id (by omega)]
 refine ⟨by omega, by omega, fun hx => ?_⟩
 have e1 : (v2 + (t : Int)).toNat = v2.toNat + t := by omega
 rw [e1, Nat.pow_add, Int.natCast_mul]
 have hn := r3 hx
 have t2 : 2 ^ t ≤ 2 * n := by
  rcases s2.2 with h | h
  ·have := Nat.eq_of_beq_eq_true h; omega
  ·exact Nat.le_of_ble_eq_true h
 have t3 : ((2 ^ v2.toNat : Nat) : Int) * (2 ^ t : Nat) ≤ (2 ^ v2.toNat : Nat) * (2 * n : Nat) := Int.mul_le_mul_of_nonneg_left (by exact_mod_cast t2) (by exact_mod_cast Nat.zero_le _)
 have t4 : ((2 ^ v2.toNat : Nat) : Int) * ((2 * n : Nat) : Int) = 2 * ((n : Int) * (2 ^ v2.toNat : Nat)) := by
  rw [Int.natCast_mul, Int.mul_comm ((2 ^ v2.toNat : Nat) : Int), Int.mul_assoc]; rfl
 omega
theorem len_ok (x : IK .u64) (h0 : 0 ≤ x.v) (h1 : x.v < 8589934592) : Tot (zq31 x) fun r => 0 ≤ r ∧ r ≤ 64 ∧ (1 ≤ x.v → ((2 ^ r.toNat : Nat) : Int) ≤ 2 * x.v) := by
 unfold zq31
 exact Tot.call (len64_ok x h0 h1) fun r hr => .ok hr
theorem u64_id' {n : Int} (h0 : 0 ≤ n) (h1 : n < 18446744073709551616) : IntKind.u64.wrap n = n := by
 show n % 18446744073709551616 = n
 exact Int.emod_eq_of_lt h0 h1
theorem hlp : Pdq.Hlp zq97 zq105 := by
 refine ⟨fun n h1 h2 => ?_, fun x => ?_⟩
 ·unfold zq97
  rw [u64_id' (by omega) (by omega)]
  refine Tot.call (len_ok ⟨n⟩ (by dsimp only; omega) (by dsimp only; omega)) fun r ⟨r1, r2, r3⟩ => Tot.chk r1 (.ok ?_)
  have r3 := r3 (by dsimp only; omega)
  dsimp only at r3 ⊢
  have e : min r.toNat (IntKind.u64).bits = r.toNat := Nat.min_eq_left (by show r.toNat ≤ 64; omega)
  have e2 : (1 : Int) * 2 ^ r.toNat = ((2 ^ r.toNat : Nat) : Int) := by rw [Int.one_mul]; norm_cast
  rw [e, e2]
  have := Nat.two_pow_pos r.toNat
  rw [u64_id' (by omega) (by omega)]
  omega
 ·unfold zq105
  exact Tot.chk (by decide) (Tot.chk (by decide) (Tot.chk (by decide) (.ok trivial)))
noncomputable def c0_int (x y : Int) : Option Int := some (if x < y then -1 else 0)
theorem less_int (x y : Int) : zq0 x y = some (decide (x < y)) := by
 unfold zq0 zq1
 simp
theorem dlt_int (x y : Int) : decide ((if x < y then (-1 : Int) else 0) < 0) = decide (x < y) := by
 by_cases h : x < y <;> simp [h]
theorem insertionSort_L1_int (a : Int) : zq94_L1 a = Pdq.insertionSort_L1 a c0_int := by
 funext ⟨s0, s1⟩
 simp only [zq94_L1, Pdq.insertionSort_L1, c0_int, less_int, dlt_int, qb]
theorem insertionSort_L2_int (a : Int) (b : Int) : zq94_L2 a b = Pdq.insertionSort_L2 a b c0_int := by
 funext ⟨s0, s1⟩
 simp only [zq94_L2, Pdq.insertionSort_L2, insertionSort_L1_int, c0_int, less_int, dlt_int, qb]
theorem insertionSort_int (data : List Int) (a : Int) (b : Int) : zq94 data a b = Pdq.insertionSort data a b c0_int := by
 simp only [zq94, Pdq.insertionSort, insertionSort_L1_int, insertionSort_L2_int, c0_int, less_int, dlt_int, qb]
theorem siftDown_L1_int (hi : Int) (first : Int) : zq104_L1 hi first = Pdq.siftDown_L1 hi first c0_int := by
 funext ⟨s0, s1⟩
 simp only [zq104_L1, Pdq.siftDown_L1, insertionSort_L1_int, insertionSort_L2_int, insertionSort_int, c0_int, less_int, dlt_int, qb]
theorem siftDown_int (data : List Int) (lo : Int) (hi : Int) (first : Int) : zq104 data lo hi first = Pdq.siftDown data lo hi first c0_int := by
 simp only [zq104, Pdq.siftDown, insertionSort_L1_int, insertionSort_L2_int, insertionSort_int, siftDown_L1_int, c0_int, less_int, dlt_int, qb]
theorem heapSort_L1_int (a : Int) (b : Int) : zq93_L1 a b = Pdq.heapSort_L1 a b c0_int := by
 funext ⟨s0, s1⟩
 simp only [zq93_L1, Pdq.heapSort_L1, insertionSort_L1_int, insertionSort_L2_int, insertionSort_int, siftDown_L1_int, siftDown_int, c0_int, less_int, dlt_int, qb]
theorem heapSort_L2_int (a : Int) : zq93_L2 a = Pdq.heapSort_L2 a c0_int := by
 funext ⟨s0, s1⟩
 simp only [zq93_L2, Pdq.heapSort_L2, insertionSort_L1_int, insertionSort_L2_int, insertionSort_int, siftDown_L1_int, siftDown_int, heapSort_L1_int, c0_int, less_int, dlt_int, qb]
theorem heapSort_int (data : List Int) (a : Int) (b : Int) : zq93 data a b = Pdq.heapSort data a b c0_int := by
 simp only [zq93, Pdq.heapSort, insertionSort_L1_int, insertionSort_L2_int, insertionSort_int, siftDown_L1_int, siftDown_int, heapSort_L1_int, heapSort_L2_int, c0_int, less_int, dlt_int, qb]
theorem order2_int (data : List Int) (a : Int) (b : Int) (swaps : Int) : zq98 data a b swaps = Pdq.order2 data a b swaps c0_int := by
 simp only [zq98, Pdq.order2, insertionSort_L1_int, insertionSort_L2_int, insertionSort_int, siftDown_L1_int, siftDown_int, heapSort_L1_int, heapSort_L2_int, heapSort_int, c0_int, less_int, dlt_int, qb]
theorem median_int (data : List Int) (a : Int) (b : Int) (c : Int) (swaps : Int) : zq96 data a b c swaps = Pdq.median data a b c swaps c0_int := by
 simp only [zq96, Pdq.median, insertionSort_L1_int, insertionSort_L2_int, insertionSort_int, siftDown_L1_int, siftDown_int, heapSort_L1_int, heapSort_L2_int, heapSort_int, order2_int, c0_int, less_int, dlt_int, qb]
theorem medianAdjacent_int (data : List Int) (a : Int) (swaps : Int) : zq95 data a swaps = Pdq.medianAdjacent data a swaps c0_int := by
 simp only [zq95, Pdq.medianAdjacent, insertionSort_L1_int, insertionSort_L2_int, insertionSort_int, siftDown_L1_int, siftDown_int, heapSort_L1_int, heapSort_L2_int, heapSort_int, order2_int, median_int, c0_int, less_int, dlt_int, qb]
theorem choosePivot_int (data : List Int) (a : Int) (b : Int) : zq92 data a b = Pdq.choosePivot data a b c0_int := by
 simp only [zq92, Pdq.choosePivot, insertionSort_L1_int, insertionSort_L2_int, insertionSort_int, siftDown_L1_int, siftDown_int, heapSort_L1_int, heapSort_L2_int, heapSort_int, order2_int, median_int, medianAdjacent_int, c0_int, less_int, dlt_int, qb]
theorem reverseRange_L1_int : zq103_L1 = Pdq.reverseRange_L1 := by
 funext ⟨s0, s1, s2⟩
 simp only [zq103_L1, Pdq.reverseRange_L1, insertionSort_L1_int, insertionSort_L2_int, insertionSort_int, siftDown_L1_int, siftDown_int, heapSort_L1_int, heapSort_L2_int, heapSort_int, order2_int, median_int, medianAdjacent_int, choosePivot_int, c0_int, less_int, dlt_int, qb]
theorem reverseRange_int (data : List Int) (a : Int) (b : Int) : zq103 data a b = Pdq.reverseRange data a b c0_int := by
 simp only [zq103, Pdq.reverseRange, insertionSort_L1_int, insertionSort_L2_int, insertionSort_int, siftDown_L1_int, siftDown_int, heapSort_L1_int, heapSort_L2_int, heapSort_int, order2_int, median_int, medianAdjacent_int, choosePivot_int, reverseRange_L1_int, c0_int, less_int, dlt_int, qb]
theorem partialInsertionSort_L1_int (b : Int) (data1 : List Int) : zq99_L1 b data1 = Pdq.partialInsertionSort_L1 b c0_int data1 := by
 funext s0
 simp only [zq99_L1, Pdq.partialInsertionSort_L1, insertionSort_L1_int, insertionSort_L2_int, insertionSort_int, siftDown_L1_int, siftDown_int, heapSort_L1_int, heapSort_L2_int, heapSort_int, order2_int, median_int, medianAdjacent_int, choosePivot_int, reverseRange_L1_int, reverseRange_int, c0_int, less_int, dlt_int, qb]
theorem partialInsertionSort_L2_int : zq99_L2 = Pdq.partialInsertionSort_L2 c0_int := by
 funext ⟨s0, s1⟩
 simp only [zq99_L2, Pdq.partialInsertionSort_L2, insertionSort_L1_int, insertionSort_L2_int, insertionSort_int, siftDown_L1_int, siftDown_int, heapSort_L1_int, heapSort_L2_int, heapSort_int, order2_int, median_int, medianAdjacent_int, choosePivot_int, reverseRange_L1_int, reverseRange_int, partialInsertionSort_L1_int, c0_int, less_int, dlt_int, qb]
theorem partialInsertionSort_L3_int (b : Int) : zq99_L3 b = Pdq.partialInsertionSort_L3 b c0_int := by
 funext ⟨s0, s1⟩
 simp only [zq99_L3, Pdq.partialInsertionSort_L3, insertionSort_L1_int, insertionSort_L2_int, insertionSort_int, siftDown_L1_int, siftDown_int, heapSort_L1_int, heapSort_L2_int, heapSort_int, order2_int, median_int, medianAdjacent_int, choosePivot_int, reverseRange_L1_int, reverseRange_int, partialInsertionSort_L1_int, partialInsertionSort_L2_int, c0_int, less_int, dlt_int, qb]
theorem partialInsertionSort_L4_int (a : Int) (b : Int) : zq99_L4 a b = Pdq.partialInsertionSort_L4 a b c0_int := by
 funext ⟨s0, s1, s2⟩
 simp only [zq99_L4, Pdq.partialInsertionSort_L4, insertionSort_L1_int, insertionSort_L2_int, insertionSort_int, siftDown_L1_int, siftDown_int, heapSort_L1_int, heapSort_L2_int, heapSort_int, order2_int, median_int, medianAdjacent_int, choosePivot_int, reverseRange_L1_int, reverseRange_int, partialInsertionSort_L1_int, partialInsertionSort_L2_int, partialInsertionSort_L3_int, c0_int, less_int, dlt_int, qb]
theorem partialInsertionSort_int (data : List Int) (a : Int) (b : Int) : zq99 data a b = Pdq.partialInsertionSort data a b c0_int := by
 simp only [zq99, Pdq.partialInsertionSort, insertionSort_L1_int, insertionSort_L2_int, insertionSort_int, siftDown_L1_int, siftDown_int, heapSort_L1_int, heapSort_L2_int, heapSort_int, order2_int, median_int, medianAdjacent_int, choosePivot_int, reverseRange_L1_int, reverseRange_int, partialInsertionSort_L1_int, partialInsertionSort_L2_int, partialInsertionSort_L3_int, partialInsertionSort_L4_int, c0_int, less_int, dlt_int, qb]
theorem partitionEqual_L1_int (a : Int) (v1 : Int) (data1 : List Int) : zq100_L1 a v1 data1 = Pdq.partitionEqual_L1 a c0_int v1 data1 := by
 funext s0
 simp only [zq100_L1, Pdq.partitionEqual_L1, insertionSort_L1_int, insertionSort_L2_int, insertionSort_int, siftDown_L1_int, siftDown_int, heapSort_L1_int, heapSort_L2_int, heapSort_int, order2_int, median_int, medianAdjacent_int, choosePivot_int, reverseRange_L1_int, reverseRange_int, partialInsertionSort_L1_int, partialInsertionSort_L2_int, partialInsertionSort_L3_int, partialInsertionSort_L4_int, partialInsertionSort_int, c0_int, less_int, dlt_int, qb]
theorem partitionEqual_L2_int (a : Int) (data1 : List Int) (v4 : Int) : zq100_L2 a data1 v4 = Pdq.partitionEqual_L2 a c0_int data1 v4 := by
 funext s0
 simp only [zq100_L2, Pdq.partitionEqual_L2, insertionSort_L1_int, insertionSort_L2_int, insertionSort_int, siftDown_L1_int, siftDown_int, heapSort_L1_int, heapSort_L2_int, heapSort_int, order2_int, median_int, medianAdjacent_int, choosePivot_int, reverseRange_L1_int, reverseRange_int, partialInsertionSort_L1_int, partialInsertionSort_L2_int, partialInsertionSort_L3_int, partialInsertionSort_L4_int, partialInsertionSort_int, partitionEqual_L1_int, c0_int, less_int, dlt_int, qb]
theorem partitionEqual_L3_int (a : Int) : zq100_L3 a = Pdq.partitionEqual_L3 a c0_int := by
 funext ⟨s0, s1, s2⟩
 simp only [zq100_L3, Pdq.partitionEqual_L3, insertionSort_L1_int, insertionSort_L2_int, insertionSort_int, siftDown_L1_int, siftDown_int, heapSort_L1_int, heapSort_L2_int, heapSort_int, order2_int, median_int, medianAdjacent_int, choosePivot_int, reverseRange_L1_int, reverseRange_int, partialInsertionSort_L1_int, partialInsertionSort_L2_int, partialInsertionSort_L3_int, partialInsertionSort_L4_int, partialInsertionSort_int, partitionEqual_L1_int, partitionEqual_L2_int, c0_int, less_int, dlt_int, qb]
theorem partitionEqual_int (data : List Int) (a : Int) (b : Int) (pivot : Int) : zq100 data a b pivot = Pdq.partitionEqual data a b pivot c0_int := by
 simp only [zq100, Pdq.partitionEqual, insertionSort_L1_int, insertionSort_L2_int, insertionSort_int, siftDown_L1_int, siftDown_int, heapSort_L1_int, heapSort_L2_int, heapSort_int, order2_int, median_int, medianAdjacent_int, choosePivot_int, reverseRange_L1_int, reverseRange_int, partialInsertionSort_L1_int, partialInsertionSort_L2_int, partialInsertionSort_L3_int, partialInsertionSort_L4_int, partialInsertionSort_int, partitionEqual_L1_int, partitionEqual_L2_int, partitionEqual_L3_int, c0_int, less_int, dlt_int, qb]
theorem partition_L1_int (data : List Int) (a : Int) (b : Int) (pivot : Int) (e4 : Int) (e5 : Int) : zq101_L1 data a b pivot e4 e5 = Pdq.partition_L1 data a b pivot c0_int e4 e5 := by
 funext s0
 simp only [zq101_L1, Pdq.partition_L1, insertionSort_L1_int, insertionSort_L2_int, insertionSort_int, siftDown_L1_int, siftDown_int, heapSort_L1_int, heapSort_L2_int, heapSort_int, order2_int, median_int, medianAdjacent_int, choosePivot_int, reverseRange_L1_int, reverseRange_int, partialInsertionSort_L1_int, partialInsertionSort_L2_int, partialInsertionSort_L3_int, partialInsertionSort_L4_int, partialInsertionSort_int, partitionEqual_L1_int, partitionEqual_L2_int, partitionEqual_L3_int, partitionEqual_int, c0_int, less_int, dlt_int, qb]
theorem partition_L2_int (data : List Int) (a : Int) (pivot : Int) (e4 : Int) (e5 : Int) (v2 : Int) : zq101_L2 data a pivot e4 e5 v2 = Pdq.partition_L2 data a pivot c0_int e4 e5 v2 := by
 funext s0
 simp only [zq101_L2, Pdq.partition_L2, insertionSort_L1_int, insertionSort_L2_int, insertionSort_int, siftDown_L1_int, siftDown_int, heapSort_L1_int, heapSort_L2_int, heapSort_int, order2_int, median_int, medianAdjacent_int, choosePivot_int, reverseRange_L1_int, reverseRange_int, partialInsertionSort_L1_int, partialInsertionSort_L2_int, partialInsertionSort_L3_int, partialInsertionSort_L4_int, partialInsertionSort_int, partitionEqual_L1_int, partitionEqual_L2_int, partitionEqual_L3_int, partitionEqual_int, partition_L1_int, c0_int, less_int, dlt_int, qb]
theorem partition_L3_int (a : Int) (v7 : Int) (data1 : List Int) : zq101_L3 a v7 data1 = Pdq.partition_L3 a c0_int v7 data1 := by
 funext s0
 simp only [zq101_L3, Pdq.partition_L3, insertionSort_L1_int, insertionSort_L2_int, insertionSort_int, siftDown_L1_int, siftDown_int, heapSort_L1_int, heapSort_L2_int, heapSort_int, order2_int, median_int, medianAdjacent_int, choosePivot_int, reverseRange_L1_int, reverseRange_int, partialInsertionSort_L1_int, partialInsertionSort_L2_int, partialInsertionSort_L3_int, partialInsertionSort_L4_int, partialInsertionSort_int, partitionEqual_L1_int, partitionEqual_L2_int, partitionEqual_L3_int, partitionEqual_int, partition_L1_int, partition_L2_int, c0_int, less_int, dlt_int, qb]
theorem partition_L4_int (a : Int) (data1 : List Int) (v10 : Int) : zq101_L4 a data1 v10 = Pdq.partition_L4 a c0_int data1 v10 := by
 funext s0
 simp only [zq101_L4, Pdq.partition_L4, insertionSort_L1_int, insertionSort_L2_int, insertionSort_int, siftDown_L1_int, siftDown_int, heapSort_L1_int, heapSort_L2_int, heapSort_int, order2_int, median_int, medianAdjacent_int, choosePivot_int, reverseRange_L1_int, reverseRange_int, partialInsertionSort_L1_int, partialInsertionSort_L2_int, partialInsertionSort_L3_int, partialInsertionSort_L4_int, partialInsertionSort_int, partitionEqual_L1_int, partitionEqual_L2_int, partitionEqual_L3_int, partitionEqual_int, partition_L1_int, partition_L2_int, partition_L3_int, c0_int, less_int, dlt_int, qb]
theorem partition_L5_int (a : Int) : zq101_L5 a = Pdq.partition_L5 a c0_int := by
 funext ⟨s0, s1, s2⟩
 simp only [zq101_L5, Pdq.partition_L5, insertionSort_L1_int, insertionSort_L2_int, insertionSort_int, siftDown_L1_int, siftDown_int, heapSort_L1_int, heapSort_L2_int, heapSort_int, order2_int, median_int, medianAdjacent_int, choosePivot_int, reverseRange_L1_int, reverseRange_int, partialInsertionSort_L1_int, partialInsertionSort_L2_int, partialInsertionSort_L3_int, partialInsertionSort_L4_int, partialInsertionSort_int, partitionEqual_L1_int, partitionEqual_L2_int, partitionEqual_L3_int, partitionEqual_int, partition_L1_int, partition_L2_int, partition_L3_int, partition_L4_int, c0_int, less_int, dlt_int, qb]
theorem partition_int (data : List Int) (a : Int) (b : Int) (pivot : Int) : zq101 data a b pivot = Pdq.partition data a b pivot c0_int := by
 simp only [zq101, Pdq.partition, insertionSort_L1_int, insertionSort_L2_int, insertionSort_int, siftDown_L1_int, siftDown_int, heapSort_L1_int, heapSort_L2_int, heapSort_int, order2_int, median_int, medianAdjacent_int, choosePivot_int, reverseRange_L1_int, reverseRange_int, partialInsertionSort_L1_int, partialInsertionSort_L2_int, partialInsertionSort_L3_int, partialInsertionSort_L4_int, partialInsertionSort_int, partitionEqual_L1_int, partitionEqual_L2_int, partitionEqual_L3_int, partitionEqual_int, partition_L1_int, partition_L2_int, partition_L3_int, partition_L4_int, partition_L5_int, c0_int, less_int, dlt_int, qb]
theorem breakPatterns_L1_int (a : Int) (b : Int) (r : (IK .u64)) : zq91_L1 a b r = Pdq.breakPatterns_L1 zq105 a b r := by
 funext ⟨s0, s1, s2⟩
 simp only [zq91_L1, Pdq.breakPatterns_L1, insertionSort_L1_int, insertionSort_L2_int, insertionSort_int, siftDown_L1_int, siftDown_int, heapSort_L1_int, heapSort_L2_int, heapSort_int, order2_int, median_int, medianAdjacent_int, choosePivot_int, reverseRange_L1_int, reverseRange_int, partialInsertionSort_L1_int, partialInsertionSort_L2_int, partialInsertionSort_L3_int, partialInsertionSort_L4_int, partialInsertionSort_int, partitionEqual_L1_int, partitionEqual_L2_int, partitionEqual_L3_int, partitionEqual_int, partition_L1_int, partition_L2_int, partition_L3_int, partition_L4_int, partition_L5_int, partition_int, c0_int, less_int, dlt_int, qb]
theorem breakPatterns_int (data : List Int) (a : Int) (b : Int) : zq91 data a b = Pdq.breakPatterns zq97 zq105 data a b c0_int := by
 simp only [zq91, Pdq.breakPatterns, insertionSort_L1_int, insertionSort_L2_int, insertionSort_int, siftDown_L1_int, siftDown_int, heapSort_L1_int, heapSort_L2_int, heapSort_int, order2_int, median_int, medianAdjacent_int, choosePivot_int, reverseRange_L1_int, reverseRange_int, partialInsertionSort_L1_int, partialInsertionSort_L2_int, partialInsertionSort_L3_int, partialInsertionSort_L4_int, partialInsertionSort_int, partitionEqual_L1_int, partitionEqual_L2_int, partitionEqual_L3_int, partitionEqual_int, partition_L1_int, partition_L2_int, partition_L3_int, partition_L4_int, partition_L5_int, partition_int, breakPatterns_L1_int, c0_int, less_int, dlt_int, qb]
theorem pdq_L1_int (rec_ : List Int → Int → Int → Int → Option (List Int)) : zq102_L1 rec_ = Pdq.pdq_L1 zq97 zq105 c0_int rec_ := by
 funext ⟨s0, s1, s2, s3, s4, s5⟩
 simp only [zq102_L1, Pdq.pdq_L1, insertionSort_L1_int, insertionSort_L2_int, insertionSort_int, siftDown_L1_int, siftDown_int, heapSort_L1_int, heapSort_L2_int, heapSort_int, order2_int, median_int, medianAdjacent_int, choosePivot_int, reverseRange_L1_int, reverseRange_int, partialInsertionSort_L1_int, partialInsertionSort_L2_int, partialInsertionSort_L3_int, partialInsertionSort_L4_int, partialInsertionSort_int, partitionEqual_L1_int, partitionEqual_L2_int, partitionEqual_L3_int, partitionEqual_int, partition_L1_int, partition_L2_int, partition_L3_int, partition_L4_int, partition_L5_int, partition_int, breakPatterns_L1_int, breakPatterns_int, c0_int, less_int, dlt_int, qb]
theorem pdq_F_int (rec_ : List Int → Int → Int → Int → Option (List Int)) (l : List Int) (a b k : Int) : zq102_F rec_ l a b k = Pdq.pdq_F zq97 zq105 c0_int rec_ l a b k := by
 unfold zq102_F Pdq.pdq_F
 rw [pdq_L1_int]
theorem pdqk_int : ∀ n, zq102_k n = Pdq.pdq_k zq97 zq105 c0_int n
 | 0 => rfl
 | n + 1 => by
  funext l a b k
  show zq102_F (zq102_k n) l a b k = Pdq.pdq_F zq97 zq105 c0_int (Pdq.pdq_k zq97 zq105 c0_int n) l a b k
  rw [pdqk_int n, pdq_F_int]
theorem lt_int : Pdq.Lt c0_int (· ≤ ·) := by
 refine ⟨fun x y => by omega, fun a b => by omega, fun x y => ⟨_, rfl, ?_⟩⟩
 by_cases h : x < y <;> simp [h] <;> omega
theorem sort_int (l : List Int) (h : l.length < 4294967296) : Tot (zq90 l) fun l' => l'.Perm l ∧ l'.Pairwise (· ≤ ·) := by
 unfold zq90
 refine Tot.call (len_ok _ (by dsimp only; rw [u64_id' (by omega) (by omega)]; omega) (by dsimp only; rw [u64_id' (by omega) (by omega)]; omega)) fun r _ => ?_
 unfold zq102
 rw [pdqk_int]
 refine Tot.call (Pdq.pdq_ok lt_int hlp (limit := r) h) fun l' hl' => .ok hl'
theorem within_eq (n lo hi : Int) : zq30 n lo hi = some (decide (lo ≤ n ∧ n ≤ hi)) := by
 unfold zq30
 by_cases h : lo ≤ n <;> simp [h]
theorem l1In_eq (n lo hi : Int) : zq53 n lo hi = some (decide (lo ≤ n ∧ n ≤ hi)) := by
 unfold zq53
 by_cases h : lo ≤ n <;> simp [h]
def ChOK (i : Nat) (c : UInt8) : Prop := (97 ≤ (c.toNat : Int) ∧ (c.toNat : Int) ≤ 122) ∨ (i ≠ 0 ∧ 48 ≤ (c.toNat : Int) ∧ (c.toNat : Int) ≤ 57)
def NameOK (s : ByteArray) : Prop := (1 ≤ s.size ∧ s.size ≤ 8) ∧ ∀ (i : Nat) c, s.data.toList[i]? = some c → ChOK i c
open Classical in
noncomputable instance (s : ByteArray) : Decidable (NameOK s) := Classical.propDecidable _
theorem size_list (s : ByteArray) : s.data.toList.length = s.size := by simp
theorem getD_of {α : Type} {l : List α} {i : Nat} {x d : α} (h : l[i]? = some x) : l.getD i d = x := by rw [List.getD_eq_getElem?_getD, h]; rfl
theorem isName_eq (s : ByteArray) : zq18 s = some (decide (NameOK s)) := by
 unfold zq18
 by_cases h1 : 1 ≤ s.size ∧ s.size ≤ 8
 ·have e1 : decide ((s.size : Int) < 1) = false := by simp; omega
  have e2 : decide (8 < (s.size : Int)) = false := by simp; omega
  simp only [e1, e2, Bool.false_eq_true, if_false, qb]
  have hsz := size_list s
  have key := Go.Ab.all_loop s.data.toList ChOK (step := zq18_L1 s) ?_ ?_ 0 0 rfl (by omega)
  ·rcases key with ⟨g1, g2⟩ | ⟨g1, g2⟩
   ·rw [g1, flb_go]
    have : NameOK s := ⟨h1, fun i c hc => g2 i c (by omega) hc⟩
    simp [this]
   ·rw [g1, flb_ret]
    have : ¬ NameOK s := fun hn => g2 fun i c _ hc => hn.2 i c hc
    simp [this]
  ·intro i x hx
   have hi := (List.getElem?_eq_some_iff.1 hx).1
   have hg : s.data.toList.getD (i : Int).toNat 0 = x := by rw [Int.toNat_natCast]; exact getD_of hx
   have hc : chk ((0 : Int) ≤ (i : Int) ∧ (i : Int) < (s.size : Int)) = some () := chk_of (by omega)
   have hlt : decide ((i : Int) < (s.size : Int)) = true := by simp; omega
   unfold zq18_L1
   simp only [hlt, if_true, hc, hg, qb, w64_succ (n := i) (by omega)]
   unfold ChOK
   by_cases a1 : (97 : Int) ≤ (x.toNat : Int)
   ·by_cases a2 : (x.toNat : Int) ≤ 122
    ·left; refine ⟨by simp [a1, a2], .inl ⟨a1, a2⟩⟩
    ·right
     refine ⟨?_, by omega⟩
     have b1 : decide ((x.toNat : Int) < 48) = false := by simp; omega
     have b2 : decide ((57 : Int) < (x.toNat : Int)) = true := by simp; omega
     have c1 : ¬ (x.toNat : Int) < 48 := by omega
     have c2 : (57 : Int) < (x.toNat : Int) := by omega
     by_cases hi0 : i = 0
     ·simp [a1, a2, hi0]
     ·have hi0' : ((i : Int) == 0) = false := by simp; omega
      simp [a1, a2, hi0', c1, c2]
   ·by_cases hi0 : i = 0
    ·right
     refine ⟨by simp [a1, hi0], by omega⟩
    ·have hi0' : ((i : Int) == 0) = false := by simp; omega
     by_cases b1 : (x.toNat : Int) < 48
     ·right
      refine ⟨by simp [a1, hi0', b1], by omega⟩
     ·by_cases b2 : (57 : Int) < (x.toNat : Int)
      ·right
       refine ⟨by simp [a1, hi0', b1, b2], by omega⟩
      ·left
       refine ⟨by simp [a1, hi0', b1, b2], .inr ⟨hi0, by omega, by omega⟩⟩
  ·unfold zq18_L1
   rw [hsz]
   simp
 ·have : ¬ NameOK s := fun h => h1 h.1
  have e : (if (decide ((s.size : Int) < 1)) = true then some true else some (decide (8 < (s.size : Int)))) = some true := by
   by_cases h2 : s.size < 1
   ·have : decide ((s.size : Int) < 1) = true := by simp; omega
    simp [this]
   ·have e1 : decide ((s.size : Int) < 1) = false := by simp; omega
    have e2 : decide (8 < (s.size : Int)) = true := by simp; omega
    simp [e1, e2]
  rw [e]
  simp [this]
theorem l2Name_eq (s : ByteArray) : zq65 s = some (decide (NameOK s)) := by
 unfold zq65
 rw [l1In_eq]
 simp only [qb]
 by_cases h1 : 1 ≤ s.size ∧ s.size ≤ 8
 ·have e1 : decide ((1 : Int) ≤ (s.size : Int) ∧ (s.size : Int) ≤ 8) = true := by simp; omega
  have hsz := size_list s
  obtain ⟨x0, hx0⟩ := get_ex (l := s.data.toList) (i := 0) (by omega)
  have hg0 : s.data.toList.getD (0 : Int).toNat 0 = x0 := getD_of hx0
  have hc0 : chk ((0 : Int) ≤ 0 ∧ 0 < (s.size : Int)) = some () := chk_of (by omega)
  simp only [e1, Bool.not_true, Bool.false_eq_true, if_false, hc0, hg0, qb]
  by_cases a0 : 97 ≤ (x0.toNat : Int) ∧ (x0.toNat : Int) ≤ 122
  ·have b1 : decide ((x0.toNat : Int) < 97) = false := by simp; omega
   have b2 : decide ((122 : Int) < (x0.toNat : Int)) = false := by simp; omega
   simp only [b1, b2, Bool.false_eq_true, if_false, qb]
   have key := Go.Ab.all_loop s.data.toList ChOK (step := zq65_L1 s) ?_ ?_ 0 0 rfl (by omega)
   ·rcases key with ⟨g1, g2⟩ | ⟨g1, g2⟩
    ·rw [g1, flb_go]
     have : NameOK s := ⟨h1, fun i c hc => g2 i c (by omega) hc⟩
     simp [this]
    ·rw [g1, flb_ret]
     have : ¬ NameOK s := fun hn => g2 fun i c _ hc => hn.2 i c hc
     simp [this]
   ·intro i x hx
    have hi := (List.getElem?_eq_some_iff.1 hx).1
    have hg : s.data.toList.getD (i : Int).toNat 0 = x := by rw [Int.toNat_natCast]; exact getD_of hx
    have hc : chk ((0 : Int) ≤ (i : Int) ∧ (i : Int) < (s.size : Int)) = some () := chk_of (by omega)
    have hlt : decide ((i : Int) < (s.size : Int)) = true := by simp; omega
    have h0 : i = 0 → x = x0 := fun h => by subst h; rw [hx0] at hx; cases hx; rfl
    unfold zq65_L1
    simp only [hlt, if_true, hc, hg, qb, w64_succ (n := i) (by omega)]
    unfold ChOK
    by_cases a1 : (x.toNat : Int) < 97
    ·have hi0 : i ≠ 0 := fun h => by have := h0 h; subst this; omega
     by_cases c1 : (x.toNat : Int) < 48
     ·right; refine ⟨by simp [a1, c1], by omega⟩
     ·by_cases c2 : (57 : Int) < (x.toNat : Int)
      ·right; refine ⟨by simp [a1, c1, c2], by omega⟩
      ·left; refine ⟨by simp [a1, c1, c2], .inr ⟨hi0, by omega, by omega⟩⟩
    ·by_cases a2 : (122 : Int) < (x.toNat : Int)
     ·right
      have c1 : ¬ (x.toNat : Int) < 48 := by omega
      have c2 : (57 : Int) < (x.toNat : Int) := by omega
      refine ⟨by simp [a1, a2, c1, c2], by omega⟩
     ·left; refine ⟨by simp [a1, a2], .inl ⟨by omega, by omega⟩⟩
   ·unfold zq65_L1
    rw [hsz]
    simp
  ·have : ¬ NameOK s := fun hn => by
    have := hn.2 0 x0 hx0
    unfold ChOK at this
    omega
   have e : (if (decide ((x0.toNat : Int) < 97)) = true then some true else some (decide ((122 : Int) < (x0.toNat : Int)))) = some true := by
    by_cases h2 : (x0.toNat : Int) < 97
    ·simp [h2]
    ·have : (122 : Int) < (x0.toNat : Int) := by omega
     simp [h2, this]
   rw [e]
   simp [this]
 ·have e1 : decide ((1 : Int) ≤ (s.size : Int) ∧ (s.size : Int) ≤ 8) = false := by simp; omega
  have : ¬ NameOK s := fun h => h1 h.1
  simp [e1, this]
theorem index_str_eq (l : List ByteArray) (hl : l.length ≤ 4000000000) (v : ByteArray) : zq89 l v = some (fixI (fun e => v.toList == e.toList) l) := by
 unfold zq89
 refine find_val l (fun e => v.toList == e.toList) (fun i x hx => ?_) (by unfold zq89_L1; simp)
 have hi := (List.getElem?_eq_some_iff.1 hx).1
 unfold zq89_L1
 have hlt : decide ((i : Int) < (l.length : Int)) = true := by simp; omega
 simp only [hlt, if_true, idx_nat, hx, qb, w64_succ (n := i) (by omega)]
 split <;> rfl
theorem index_int_eq (l : List Int) (hl : l.length ≤ 4000000000) (v : Int) : zq88 l v = some (fixI (fun e => v == e) l) := by
 unfold zq88
 refine find_val l (fun e => v == e) (fun i x hx => ?_) (by unfold zq88_L1; simp)
 have hi := (List.getElem?_eq_some_iff.1 hx).1
 unfold zq88_L1
 have hlt : decide ((i : Int) < (l.length : Int)) = true := by simp; omega
 simp only [hlt, if_true, idx_nat, hx, qb, w64_succ (n := i) (by omega)]
 split <;> rfl
theorem l2Place_eq (x : Line) (hl : x.Stops.length ≤ 4000000000) (v : Int) : zq68 x v = some (fixI (fun e => v == e) x.Stops) := by
 have hc : fixI (fun e => v == e) x.Stops = fixI (fun e => e == v) x.Stops := fixI_congr _ fun e => BEq.comm
 rw [hc]
 unfold zq68
 refine find_val x.Stops (fun e => e == v) (fun i y hx => ?_) (by unfold zq68_L1; simp)
 have hi := (List.getElem?_eq_some_iff.1 hx).1
 unfold zq68_L1
 have hlt : decide ((i : Int) < (x.Stops.length : Int)) = true := by simp; omega
 simp only [hlt, if_true, idx_nat, hx, qb, w64_succ (n := i) (by omega)]
 split <;> rfl
theorem bl_comm (a b : List UInt8) : (a == b) = (b == a) := BEq.comm
theorem l2Find_eq (l : List ByteArray) (hl : l.length ≤ 4000000000) (v : ByteArray) : zq61 l v = some (fixI (fun e => v.toList == e.toList) l) := by
 rw [fixI_congr l (q := fun e => e.toList == v.toList) fun e => bl_comm _ _]
 unfold zq61
 refine find_val l (fun e => e.toList == v.toList) (fun i x hx => ?_) (by unfold zq61_L1; simp)
 have hi := (List.getElem?_eq_some_iff.1 hx).1
 unfold zq61_L1
 have hlt : decide ((i : Int) < (l.length : Int)) = true := by simp; omega
 simp only [hlt, if_true, idx_nat, hx, qb, w64_succ (n := i) (by omega)]
 split <;> rfl
theorem l2LineNamed_eq (n : Network) (hl : n.Lines.length ≤ 4000000000) (v : ByteArray) : zq64 n v = some (fixI (fun e => v.toList == e.toList) (n.Lines.map (·.Name))) := by
 rw [fixI_map, fixI_congr n.Lines (q := fun e => e.Name.toList == v.toList) fun e => bl_comm _ _]
 unfold zq64
 refine find_val n.Lines (fun e => e.Name.toList == v.toList) (fun i x hx => ?_) (by unfold zq64_L1; simp)
 have hi := (List.getElem?_eq_some_iff.1 hx).1
 unfold zq64_L1
 have hlt : decide ((i : Int) < (n.Lines.length : Int)) = true := by simp; omega
 simp only [hlt, if_true, idx_nat, hx, qb, w64_succ (n := i) (by omega)]
 split <;> rfl
def NamesP (l : List ByteArray) : Prop := ∀ (i : Nat) x, l[i]? = some x → NameOK x ∧ fixI (fun e => x.toList == e.toList) l = (i : Int)
def LineP (st : Nat) (x : Line) : Prop := (2 ≤ x.Stops.length ∧ x.Stops.length ≤ 6) ∧ (x.Runs.length : Int) = (x.Stops.length : Int) - 1 ∧
 (∀ (i : Nat) e, x.Stops[i]? = some e → (0 ≤ e ∧ e < (st : Int)) ∧ fixI (fun y => e == y) x.Stops = (i : Int)) ∧ ∀ (i : Nat) r, x.Runs[i]? = some r → 1 ≤ r ∧ r ≤ 60
def Good (n : Network) : Prop := (2 ≤ n.Stops.length ∧ n.Stops.length ≤ 8) ∧ (1 ≤ n.Lines.length ∧ n.Lines.length ≤ 5) ∧ NamesP n.Stops ∧ NamesP (n.Lines.map (·.Name)) ∧ ∀ (i : Nat) x, n.Lines[i]? = some x → LineP n.Stops.length x
noncomputable instance (l : List ByteArray) : Decidable (NamesP l) := Classical.propDecidable _
noncomputable instance (st : Nat) (x : Line) : Decidable (LineP st x) := Classical.propDecidable _
noncomputable instance (n : Network) : Decidable (Good n) := Classical.propDecidable _
def Bd (n : Network) : Prop := n.Stops.length ≤ 1000 ∧ n.Lines.length ≤ 1000 ∧ ∀ x ∈ n.Lines, x.Stops.length ≤ 1000 ∧ x.Runs.length ≤ 1000
theorem areNames_eq (l : List ByteArray) (hl : l.length ≤ 1000) : zq8 l = some (decide (NamesP l)) := by
 unfold zq8
 rw [all_val (hd := Classical.propDecidable _) l (fun i x => NameOK x ∧ fixI (fun e => x.toList == e.toList) l = (i : Int)) (fun i x hx => ?_) (by unfold zq8_L1; simp)]
 ·by_cases h : NamesP l
  ·rw [if_pos (show ∀ (i : Nat) x, l[i]? = some x → NameOK x ∧ fixI (fun e => x.toList == e.toList) l = (i : Int) from h)]; simp [h]
  ·rw [if_neg (show ¬ ∀ (i : Nat) x, l[i]? = some x → NameOK x ∧ fixI (fun e => x.toList == e.toList) l = (i : Int) from h)]; simp [h]
 ·have hi := (List.getElem?_eq_some_iff.1 hx).1
  unfold zq8_L1
  have hlt : decide ((i : Int) < (l.length : Int)) = true := by simp; omega
  simp only [hlt, if_true, idx_nat, hx, qb, isName_eq, index_str_eq l (by omega), w64_succ (n := i) (by omega)]
  by_cases h1 : NameOK x
  ·by_cases h2 : fixI (fun e => x.toList == e.toList) l = (i : Int)
   ·left; simp [h1, h2]
   ·right; simp [h1, h2]
  ·right; simp [h1]
theorem lineNames_eq (n : Network) (hl : n.Lines.length ≤ 1000) : zq22 n = some (n.Lines.map (·.Name)) := by
 unfold zq22
 rw [chk_of (by omega)]
 simp only [qb]
 rw [fill_loop (fun x : Line => x.Name) n.Lines _ (by simp) (fun i a x y ha hy hx => ?_) (fun a ha => ?_)]
 ·rfl
 ·have hi := (List.getElem?_eq_some_iff.1 hx).1
  unfold zq22_L1
  have hlt : decide ((i : Int) < (n.Lines.length : Int)) = true := by simp; omega
  simp only [hlt, if_true, idx_nat, hx, hy, qb, w64_succ (n := i) (by omega), Int.toNat_natCast]
 ·unfold zq22_L1; simp
theorem isStop_eq (n : Network) (e : Int) : zq20 n e = some (decide (0 ≤ e ∧ e < (n.Stops.length : Int))) := by
 unfold zq20
 by_cases h : 0 ≤ e <;> simp [h]
theorem isLine_eq (n : Network) (e : Int) : zq17 n e = some (decide (0 ≤ e ∧ e < (n.Lines.length : Int))) := by
 unfold zq17
 by_cases h : 0 ≤ e <;> simp [h]
theorem isValidLine_eq (n : Network) (l : Line) (h1 : l.Stops.length ≤ 1000) (h2 : l.Runs.length ≤ 1000) : zq21 n l = some (decide (LineP n.Stops.length l)) := by
 unfold zq21
 rw [within_eq]
 have e0 : w64 ((l.Stops.length : Int) - 1) = (l.Stops.length : Int) - 1 := w64_id (by omega)
 simp only [qb, e0]
 by_cases a1 : 2 ≤ l.Stops.length ∧ l.Stops.length ≤ 6
 ·have d1 : decide ((2 : Int) ≤ (l.Stops.length : Int) ∧ (l.Stops.length : Int) ≤ 6) = true := by simp; omega
  simp only [d1, Bool.not_true, Bool.false_eq_true, if_false]
  by_cases a2 : (l.Runs.length : Int) = (l.Stops.length : Int) - 1
  ·have d2 : ((l.Runs.length : Int) != (l.Stops.length : Int) - 1) = false := by simp [a2]
   simp only [d2, qb, Bool.false_eq_true, if_false]
   rw [all_val (hd := Classical.propDecidable _) l.Stops (fun i e => (0 ≤ e ∧ e < (n.Stops.length : Int)) ∧ fixI (fun y => e == y) l.Stops = (i : Int)) (fun i x hx => ?_) (by unfold zq21_L1; simp)]
   ·rw [all_val (hd := Classical.propDecidable _) l.Runs (fun i r => 1 ≤ r ∧ r ≤ 60) (fun i x hx => ?_) (by unfold zq21_L2; simp)]
    ·by_cases b1 : ∀ (i : Nat) e, l.Stops[i]? = some e → (0 ≤ e ∧ e < (n.Stops.length : Int)) ∧ fixI (fun y => e == y) l.Stops = (i : Int)
     ·rw [if_pos b1]
      by_cases b2 : ∀ (i : Nat) r, l.Runs[i]? = some r → 1 ≤ r ∧ r ≤ 60
      ·rw [if_pos b2]
       have : LineP n.Stops.length l := ⟨a1, a2, b1, b2⟩
       simp [this]
      ·rw [if_neg b2]
       have : ¬ LineP n.Stops.length l := fun h => b2 h.2.2.2
       simp [this]
     ·rw [if_neg b1]
      have : ¬ LineP n.Stops.length l := fun h => b1 h.2.2.1
      simp [this]
    ·have hi := (List.getElem?_eq_some_iff.1 hx).1
     unfold zq21_L2
     have hlt : decide ((i : Int) < (l.Runs.length : Int)) = true := by simp; omega
     simp only [hlt, if_true, idx_nat, hx, qb, within_eq, w64_succ (n := i) (by omega)]
     by_cases b : 1 ≤ x ∧ x ≤ 60
     ·left; simp [b]
     ·right; simp [b]
   ·have hi := (List.getElem?_eq_some_iff.1 hx).1
    unfold zq21_L1
    have hlt : decide ((i : Int) < (l.Stops.length : Int)) = true := by simp; omega
    simp only [hlt, if_true, idx_nat, hx, qb, isStop_eq, index_int_eq l.Stops (by omega), w64_succ (n := i) (by omega)]
    by_cases b1 : 0 ≤ x ∧ x < (n.Stops.length : Int)
    ·by_cases b2 : fixI (fun y => x == y) l.Stops = (i : Int)
     ·left; simp [b1, b2]
     ·right; simp [b1, b2]
    ·right; simp [b1]
  ·have d2 : ((l.Runs.length : Int) != (l.Stops.length : Int) - 1) = true := by simp [a2]
   have : ¬ LineP n.Stops.length l := fun h => a2 h.2.1
   simp [d2, this]
 ·have d1 : decide ((2 : Int) ≤ (l.Stops.length : Int) ∧ (l.Stops.length : Int) ≤ 6) = false := by simp; omega
  have : ¬ LineP n.Stops.length l := fun h => a1 h.1
  simp [d1, this]
theorem l2Line_eq (l : Line) (st : Nat) (hst : st ≤ 1000) (h1 : l.Stops.length ≤ 1000) (h2 : l.Runs.length ≤ 1000) : zq63 l (st : Int) = some (decide (NameOK l.Name ∧ LineP st l)) := by
 unfold zq63
 rw [l2Name_eq]
 have e0 : w64 ((l.Stops.length : Int) - 1) = (l.Stops.length : Int) - 1 := w64_id (by omega)
 have e1 : w64 ((st : Int) - 1) = (st : Int) - 1 := w64_id (by omega)
 simp only [qb, e0, l1In_eq]
 by_cases a0 : NameOK l.Name
 ·simp only [a0, decide_true, Bool.not_true, Bool.false_eq_true, if_false, true_and]
  by_cases a1 : 2 ≤ l.Stops.length ∧ l.Stops.length ≤ 6
  ·have d1 : decide ((2 : Int) ≤ (l.Stops.length : Int) ∧ (l.Stops.length : Int) ≤ 6) = true := by simp; omega
   simp only [d1, Bool.not_true, Bool.false_eq_true, if_false]
   by_cases a2 : (l.Runs.length : Int) = (l.Stops.length : Int) - 1
   ·have d2 : ((l.Runs.length : Int) != (l.Stops.length : Int) - 1) = false := by simp [a2]
    simp only [d2, qb, Bool.false_eq_true, if_false]
    rw [all_val (hd := Classical.propDecidable _) l.Stops (fun i e => (0 ≤ e ∧ e < (st : Int)) ∧ fixI (fun y => e == y) l.Stops = (i : Int)) (fun i x hx => ?_) (by unfold zq63_L1; simp)]
    ·rw [all_val (hd := Classical.propDecidable _) l.Runs (fun i r => 1 ≤ r ∧ r ≤ 60) (fun i x hx => ?_) (by unfold zq63_L2; simp)]
     ·by_cases b1 : ∀ (i : Nat) e, l.Stops[i]? = some e → (0 ≤ e ∧ e < (st : Int)) ∧ fixI (fun y => e == y) l.Stops = (i : Int)
      ·rw [if_pos b1]
       by_cases b2 : ∀ (i : Nat) r, l.Runs[i]? = some r → 1 ≤ r ∧ r ≤ 60
       ·rw [if_pos b2]
        have : LineP st l := ⟨a1, a2, b1, b2⟩
        simp [this]
       ·rw [if_neg b2]
        have : ¬ LineP st l := fun h => b2 h.2.2.2
        simp [this]
      ·rw [if_neg b1]
       have : ¬ LineP st l := fun h => b1 h.2.2.1
       simp [this]
     ·have hi := (List.getElem?_eq_some_iff.1 hx).1
      unfold zq63_L2
      have hlt : decide ((i : Int) < (l.Runs.length : Int)) = true := by simp; omega
      simp only [hlt, if_true, idx_nat, hx, qb, l1In_eq, w64_succ (n := i) (by omega)]
      by_cases b : 1 ≤ x ∧ x ≤ 60
      ·left; simp [b]
      ·right; simp [b]
    ·have hi := (List.getElem?_eq_some_iff.1 hx).1
     unfold zq63_L1
     have hlt : decide ((i : Int) < (l.Stops.length : Int)) = true := by simp; omega
     simp only [hlt, if_true, idx_nat, hx, qb, l1In_eq, e1, l2Place_eq l (by omega), w64_succ (n := i) (by omega)]
     by_cases b1 : 0 ≤ x ∧ x < (st : Int)
     ·have d3 : decide (0 ≤ x ∧ x ≤ (st : Int) - 1) = true := by simp; omega
      by_cases b2 : fixI (fun y => x == y) l.Stops = (i : Int)
      ·left; simp only [d3]; simp [b1, b2]
      ·right; simp only [d3]; simp [b1, b2]
     ·have d3 : decide (0 ≤ x ∧ x ≤ (st : Int) - 1) = false := by simp; omega
      right; simp only [d3]; simp [b1]
   ·have d2 : ((l.Runs.length : Int) != (l.Stops.length : Int) - 1) = true := by simp [a2]
    have : ¬ LineP st l := fun h => a2 h.2.1
    simp [d2, this]
  ·have d1 : decide ((2 : Int) ≤ (l.Stops.length : Int) ∧ (l.Stops.length : Int) ≤ 6) = false := by simp; omega
   have : ¬ LineP st l := fun h => a1 h.1
   simp [d1, this]
 ·simp [a0]
theorem valid_eq (n : Network) (h : Bd n) : zq4 n = some (decide (Good n)) := by
 obtain ⟨h1, h2, h3⟩ := h
 unfold zq4
 simp only [within_eq, qb, areNames_eq n.Stops h1, lineNames_eq n h2, areNames_eq (n.Lines.map (·.Name)) (by simpa using h2)]
 by_cases a1 : 2 ≤ n.Stops.length ∧ n.Stops.length ≤ 8
 ·have d1 : decide ((2 : Int) ≤ (n.Stops.length : Int) ∧ (n.Stops.length : Int) ≤ 8) = true := by simp; omega
  simp only [d1, Bool.not_true, Bool.false_eq_true, if_false]
  by_cases a2 : 1 ≤ n.Lines.length ∧ n.Lines.length ≤ 5
  ·have d2 : decide ((1 : Int) ≤ (n.Lines.length : Int) ∧ (n.Lines.length : Int) ≤ 5) = true := by simp; omega
   simp only [d2, Bool.not_true, Bool.false_eq_true, if_false]
   by_cases a3 : NamesP n.Stops
   ·simp only [a3, decide_true, Bool.not_true, Bool.false_eq_true, if_false]
    by_cases a4 : NamesP (n.Lines.map (·.Name))
    ·simp only [a4, decide_true, Bool.not_true, qb, Bool.false_eq_true, if_false]
     rw [all_val (hd := Classical.propDecidable _) n.Lines (fun i x => LineP n.Stops.length x) (fun i x hx => ?_) (by unfold zq4_L1; simp)]
     ·by_cases b1 : ∀ (i : Nat) x, n.Lines[i]? = some x → LineP n.Stops.length x
      ·rw [if_pos b1]
       have : Good n := ⟨a1, a2, a3, a4, b1⟩
       simp [this]
      ·rw [if_neg b1]
       have : ¬ Good n := fun h => b1 h.2.2.2.2
       simp [this]
     ·have hi := (List.getElem?_eq_some_iff.1 hx).1
      obtain ⟨g1, g2⟩ := h3 x (List.mem_of_getElem? hx)
      unfold zq4_L1
      have hlt : decide ((i : Int) < (n.Lines.length : Int)) = true := by simp; omega
      simp only [hlt, if_true, idx_nat, hx, qb, isValidLine_eq n x g1 g2, w64_succ (n := i) (by omega)]
      by_cases b : LineP n.Stops.length x
      ·left; simp [b]
      ·right; simp [b]
    ·have : ¬ Good n := fun h => a4 h.2.2.2.1
     simp [a4, this]
   ·have : ¬ Good n := fun h => a3 h.2.2.1
    simp [a3, this]
  ·have d2 : decide ((1 : Int) ≤ (n.Lines.length : Int) ∧ (n.Lines.length : Int) ≤ 5) = false := by simp; omega
   have : ¬ Good n := fun h => a2 h.2.1
   simp [d2, this]
 ·have d1 : decide ((2 : Int) ≤ (n.Stops.length : Int) ∧ (n.Stops.length : Int) ≤ 8) = false := by simp; omega
  have : ¬ Good n := fun h => a1 h.1
  simp [d1, this]
theorem good_eq (n : Network) (h : Bd n) : zq62 n = some (decide (Good n)) := by
 obtain ⟨h1, h2, h3⟩ := h
 unfold zq62
 simp only [l1In_eq, qb]
 by_cases a1 : 2 ≤ n.Stops.length ∧ n.Stops.length ≤ 8
 ·have d1 : decide ((2 : Int) ≤ (n.Stops.length : Int) ∧ (n.Stops.length : Int) ≤ 8) = true := by simp; omega
  simp only [d1, Bool.not_true, Bool.false_eq_true, if_false]
  by_cases a2 : 1 ≤ n.Lines.length ∧ n.Lines.length ≤ 5
  ·have d2 : decide ((1 : Int) ≤ (n.Lines.length : Int) ∧ (n.Lines.length : Int) ≤ 5) = true := by simp; omega
   simp only [d2, Bool.not_true, qb, Bool.false_eq_true, if_false]
   rw [all_val (hd := Classical.propDecidable _) n.Stops (fun i x => NameOK x ∧ fixI (fun e => x.toList == e.toList) n.Stops = (i : Int)) (fun i x hx => ?_) (by unfold zq62_L1; simp)]
   ·rw [all_val (hd := Classical.propDecidable _) n.Lines (fun i x => (NameOK x.Name ∧ LineP n.Stops.length x) ∧ fixI (fun e => x.Name.toList == e.toList) (n.Lines.map (·.Name)) = (i : Int)) (fun i x hx => ?_) (by unfold zq62_L2; simp)]
    ·by_cases b1 : NamesP n.Stops
     ·rw [if_pos (show ∀ (i : Nat) x, n.Stops[i]? = some x → NameOK x ∧ fixI (fun e => x.toList == e.toList) n.Stops = (i : Int) from b1)]
      by_cases b2 : ∀ (i : Nat) x, n.Lines[i]? = some x → (NameOK x.Name ∧ LineP n.Stops.length x) ∧ fixI (fun e => x.Name.toList == e.toList) (n.Lines.map (·.Name)) = (i : Int)
      ·rw [if_pos b2]
       have : Good n := ⟨a1, a2, b1, fun i y hy => by
        rw [List.getElem?_map] at hy
        obtain ⟨x, hx, rfl⟩ := Option.map_eq_some_iff.1 hy
        exact ⟨(b2 i x hx).1.1, (b2 i x hx).2⟩, fun i x hx => (b2 i x hx).1.2⟩
       simp [this]
      ·rw [if_neg b2]
       have : ¬ Good n := fun h => b2 fun i x hx => by
        have h4 := h.2.2.2.1 i x.Name (by rw [List.getElem?_map, hx]; rfl)
        exact ⟨⟨h4.1, h.2.2.2.2 i x hx⟩, h4.2⟩
       simp [this]
     ·rw [if_neg (show ¬ ∀ (i : Nat) x, n.Stops[i]? = some x → NameOK x ∧ fixI (fun e => x.toList == e.toList) n.Stops = (i : Int) from b1)]
      have : ¬ Good n := fun h => b1 h.2.2.1
      simp [this]
    ·have hi := (List.getElem?_eq_some_iff.1 hx).1
     obtain ⟨g1, g2⟩ := h3 x (List.mem_of_getElem? hx)
     unfold zq62_L2
     have hlt : decide ((i : Int) < (n.Lines.length : Int)) = true := by simp; omega
     simp only [hlt, if_true, idx_nat, hx, qb, l2Line_eq x n.Stops.length h1 g1 g2, l2LineNamed_eq n (by omega), w64_succ (n := i) (by omega)]
     by_cases b1 : NameOK x.Name ∧ LineP n.Stops.length x
     ·by_cases b2 : fixI (fun e => x.Name.toList == e.toList) (n.Lines.map (·.Name)) = (i : Int)
      ·left; simp [b1, b2]
      ·right; simp [b1, b2]
     ·right; simp [b1]
   ·have hi := (List.getElem?_eq_some_iff.1 hx).1
    unfold zq62_L1
    have hlt : decide ((i : Int) < (n.Stops.length : Int)) = true := by simp; omega
    simp only [hlt, if_true, idx_nat, hx, qb, l2Name_eq, l2Find_eq n.Stops (by omega), w64_succ (n := i) (by omega)]
    by_cases b1 : NameOK x
    ·by_cases b2 : fixI (fun e => x.toList == e.toList) n.Stops = (i : Int)
     ·left; simp [b1, b2]
     ·right; simp [b1, b2]
    ·right; simp [b1]
  ·have d2 : decide ((1 : Int) ≤ (n.Lines.length : Int) ∧ (n.Lines.length : Int) ≤ 5) = false := by simp; omega
   have : ¬ Good n := fun h => a2 h.2.1
   simp [d2, this]
 ·have d1 : decide ((2 : Int) ≤ (n.Stops.length : Int) ∧ (n.Stops.length : Int) ≤ 8) = false := by simp; omega
  have : ¬ Good n := fun h => a1 h.1
  simp [d1, this]
theorem l1Own_eq (l : List Int) (h : l.length ≤ 1000) : zq57 l = some l := by
 unfold zq57
 rw [chk_of (by simp; omega)]; rfl
theorem l2Own_eq (n : Network) (h : Bd n) : zq66 n = some n := by
 obtain ⟨h1, h2, h3⟩ := h
 unfold zq66
 rw [chk_of (by simp; omega)]
 simp only [qb]
 rw [app_loop (fun x : Line => x) n.Lines (fun i a x ha hx => ?_) (fun a ha => ?_)]
 ·simp only [qb, List.map_id', List.nil_append]
 ·have hi := (List.getElem?_eq_some_iff.1 hx).1
  obtain ⟨g1, g2⟩ := h3 x (List.mem_of_getElem? hx)
  unfold zq66_L1
  have hlt : decide ((i : Int) < (n.Lines.length : Int)) = true := by simp; omega
  have hch : ∀ y : Line, chk (a.length + ([y] : List Line).length ≤ 4294967296) = some () := fun y => chk_of (by simp; omega)
  simp only [hlt, if_true, idx_nat, hx, qb, l1Own_eq _ g1, l1Own_eq _ g2, hch, w64_succ (n := i) (by omega)]
 ·unfold zq66_L1; simp
theorem l2Own_t_eq (n : Network) (h : Bd n) : zq67 n = some n := by
 have : zq67 n = zq66 n := rfl
 rw [this]; exact l2Own_eq n h
theorem l2Back_eq (s : List Int) (hs : s.length ≤ 1000) : zq59 s = some s.reverse := by
 unfold zq59
 have e0 : w64 ((s.length : Int) - 1) = (s.length : Int) - 1 := w64_id (by omega)
 rw [e0]
 have h := iter_rule (step := zq59_L1 s) (fun m a => ∃ j : Nat, a.1 = (s.length : Int) - 1 - j ∧ m + j = s.length ∧ a.2 = s.reverse.take j) (fun b => b = s.reverse) ?_ (k := s.length) (a := ((s.length : Int) - 1, [])) ⟨0, by simp, by omega, by simp⟩
 ·obtain ⟨b, hb, rfl⟩ := h
  rw [hb]; rfl
 rintro m ⟨v, i⟩ ⟨j, hv, hm, hi⟩
 simp only at hv hi
 subst hv
 by_cases hlt : j < s.length
 ·left
  have ev : (s.length : Int) - 1 - j = ((s.length - 1 - j : Nat) : Int) := by omega
  rw [ev]
  obtain ⟨e, he⟩ := get_ex (l := s) (i := s.length - 1 - j) (by omega)
  have hd : decide ((0 : Int) ≤ ((s.length - 1 - j : Nat) : Int)) = true := by simp
  have hlen : i.length = j := by rw [hi]; simp; omega
  have hch : chk (i.length + ([e] : List Int).length ≤ 4294967296) = some () := chk_of (by simp; omega)
  have ev2 : w64 (((s.length - 1 - j : Nat) : Int) - 1) = (s.length : Int) - 1 - ((j + 1 : Nat) : Int) := by rw [w64_id (by omega)]; omega
  refine ⟨((s.length : Int) - 1 - ((j + 1 : Nat) : Int), i ++ [e]), m - 1, ?_, by omega, j + 1, rfl, by omega, ?_⟩
  ·unfold zq59_L1
   simp only [hd, if_true, idx_nat, he, hch, qb, ev2]
  ·show i ++ [e] = _
   rw [take_succ (x := e) (by rw [List.getElem?_reverse hlt]; exact he), hi]
 ·right
  have ej : j = s.length := by omega
  subst ej
  have hd : decide ((0 : Int) ≤ (s.length : Int) - 1 - (s.length : Int)) = false := by simp; omega
  refine ⟨i, by unfold zq59_L1; simp only [hd, Bool.false_eq_true, if_false], ?_⟩
  rw [hi, List.take_of_length_le (by simp)]
theorem l2BackF_eq (s : List Int) (hs : s.length ≤ 1000) : zq60 s = some s.reverse := l2Back_eq s hs
def LB (x : Line) : Prop := (2 ≤ x.Stops.length ∧ x.Stops.length ≤ 10) ∧ 1 ≤ x.Runs.length ∧ x.Runs.length ≤ 10
def NB (n : Network) : Prop := (2 ≤ n.Stops.length ∧ n.Stops.length ≤ 6) ∧ (1 ≤ n.Lines.length ∧ n.Lines.length ≤ 8) ∧ ∀ x ∈ n.Lines, LB x
theorem NB.bd {n : Network} (h : NB n) : Bd n := ⟨by have := h.1; omega, by have := h.2.1; omega, fun x hx => by have := h.2.2 x hx; unfold LB at this; omega⟩
theorem l1Num_ok (n : Int) (h0 : 0 ≤ n) (h1 : n < 10) : ∃ r, zq55 n = some r ∧ r.size ≤ 10 := by
 have e : zq55 n = zq55_F (zq55_k 4294967295) n := rfl
 rw [e]
 unfold zq55_F
 have d1 : decide (n < 0) = false := by simp; omega
 have d2 : decide (n < 10) = true := by simp; omega
 have e1 : w64 (n + 1) = n + 1 := w64_id (by omega)
 have hs : (str [48, 49, 50, 51, 52, 53, 54, 55, 56, 57]).size = 10 := rfl
 simp only [d1, d2, Bool.false_eq_true, if_false, if_true, e1, hs]
 rw [chk_of (by omega)]
 refine ⟨_, rfl, ?_⟩
 rw [ByteArray.size_extract, hs]
 omega
theorem line_ok {k : Nat} {c : l1Cur} (name : ByteArray) (stops : Int) (hs : 2 ≤ stops ∧ stops ≤ 1000) (h : Cur k c) (hk : k ≤ 1000000000) : ∃ r, zq40 c name stops = some r ∧ Cur (k + 40) r.2 ∧ LB r.1 := by
 unfold zq40
 obtain ⟨r, hr, hc, h0, h1⟩ := pick_ok stops h (by omega)
 obtain ⟨r1, hr1, hc1, h10, h11⟩ := pick_ok 3 hc (by omega)
 simp only [hr, hr1, qb]
 have e1 : w64 (2 + r1.1) = ((2 + r1.1.toNat : Nat) : Int) := by rw [w64_id (by omega)]; omega
 rw [e1]
 have loop : ∃ b, iter (zq40_L1 name stops) (r.1, ((2 + r1.1.toNat : Nat) : Int), r1.2.code_, r1.2.at_, r1.2.seed_.v, []) = some b ∧ (Cur (k + 4 + 2 * 4) ⟨b.1, b.2.1, ⟨b.2.2.1⟩⟩ ∧ 1 ≤ b.2.2.2.length ∧ b.2.2.2.length ≤ 4) := by
  refine iter_rule (fun m a => (0 ≤ a.1 ∧ a.1 < stops) ∧ a.2.1 = (m : Int) ∧ m + a.2.2.2.2.2.length ≤ 4 ∧ (1 ≤ m ∨ 1 ≤ a.2.2.2.2.2.length) ∧ Cur (k + 4 + 2 * (4 - m)) ⟨a.2.2.1, a.2.2.2.1, ⟨a.2.2.2.2.1⟩⟩) _ ?_ (k := 2 + r1.1.toNat) ⟨⟨h0, by show r.1 < stops; omega⟩, rfl, by simp; omega, .inl (by omega), hc1.mono (by omega)⟩
  rintro m ⟨v, v1, v2, v3, v4, v5⟩ ⟨hv, hv1, hl, hne, hcur⟩
  simp only at hv hv1 hl hne hcur
  subst hv1
  unfold zq40_L1
  cases m with
  | zero => right; exact ⟨_, by simp; rfl, hcur, by show 1 ≤ v5.length; omega, by show v5.length ≤ 4; omega⟩
  | succ m =>
   left
   have hpos : decide ((0 : Int) < ((m + 1 : Nat) : Int)) = true := by simp
   obtain ⟨r3, hr3, hc3, h30, h31⟩ := pick_ok 2 hcur (by omega)
   have hpl := l2Place_eq (⟨name, v5, []⟩ : Line) (by show v5.length ≤ _; omega) v
   have hch : chk (v5.length + ([v] : List Int).length ≤ 4294967296) = some () := chk_of (by simp; omega)
   have hne0 : chk (stops ≠ 0) = some () := chk_of (by omega)
   have w1 : w64 (v + 1) = v + 1 := w64_id (by omega)
   have w2 : w64 (v + 1 + r3.1) = v + 1 + r3.1 := w64_id (by omega)
   have ht := tmod_rng (a := v + 1 + r3.1) (b := stops) (by omega) (by omega)
   simp only [hpos, if_true, hpl, hch, hr3, hne0, w1, w2, qb]
   have w3 : w64 (((m + 1 : Nat) : Int) - 1) = (m : Int) := w64_pred (by omega)
   split
   ·refine ⟨_, m, by simp only [qb]; rfl, by omega, ht, w3, ?_, .inr ?_, ?_⟩
    ·simp; omega
    ·simp
    ·exact hc3.mono (by omega)
   ·rename_i hn
    refine ⟨_, m, by simp only [qb]; rfl, by omega, ht, w3, ?_, .inr ?_, ?_⟩
    ·show m + v5.length ≤ 4; omega
    ·show 1 ≤ v5.length
     cases v5 with
     | nil => simp [fixI] at hn
     | cons a l => simp
    ·exact hc3.mono (by omega)
 obtain ⟨⟨v7, v8, v9, v10⟩, hb, hcb, hlb⟩ := loop
 simp only at hcb hlb
 rw [hb]
 simp only [qb]
 -- at least two stops
 have two : ∃ v11 : List Int, (if decide ((v10.length : Int) < 2) = true then (idx v10 0).bind fun e1 => (chk ((stops : Int) ≠ 0)).bind fun u4 => (chk (v10.length + ([((w64 (e1 + 1)).tmod stops)] : List Int).length ≤ 4294967296)).bind fun u5 => some (v10 ++ ([((w64 (e1 + 1)).tmod stops)] : List Int)) else some v10) = some v11 ∧ 2 ≤ v11.length ∧ v11.length ≤ 5 := by
  by_cases h2 : (v10.length : Int) < 2
  ·obtain ⟨e, he, _⟩ := idx_lt (l := v10) (i := 0) (by omega) (by omega)
   have hch : ∀ y : Int, chk (v10.length + ([y] : List Int).length ≤ 4294967296) = some () := fun y => chk_of (by simp; omega)
   have hne0 : chk (stops ≠ 0) = some () := chk_of (by omega)
   refine ⟨v10 ++ [(w64 (e + 1)).tmod stops], by simp only [h2, decide_true, if_true, he, hne0, hch, qb], ?_, ?_⟩
   ·simp; omega
   ·simp; omega
  ·exact ⟨v10, by simp [h2], by omega, by omega⟩
 obtain ⟨v11, hv11, l1, l2⟩ := two
 rw [hv11]
 simp only [qb]
 have loop2 : ∃ b, iter (zq40_L2 v11) (1, v7, v8, v9, []) = some b ∧ (Cur (k + 40) ⟨b.1, b.2.1, ⟨b.2.2.1⟩⟩ ∧ b.2.2.2.length + 1 = v11.length) := by
  refine iter_rule (fun m a => ∃ i : Nat, a.1 = (i : Int) ∧ m + i = v11.length ∧ a.2.2.2.2.length + 1 = i ∧ Cur (k + 12 + 2 * i) ⟨a.2.1, a.2.2.1, ⟨a.2.2.2.1⟩⟩) _ ?_ (k := v11.length - 1) ⟨1, rfl, by omega, rfl, hcb.mono (by omega)⟩
  rintro m ⟨v12, v13, v14, v15, v16⟩ ⟨i, hi, hm, hl, hcur⟩
  simp only at hi hl hcur
  subst hi
  unfold zq40_L2
  by_cases hlt : i < v11.length
  ·left
   have hd : decide ((i : Int) < (v11.length : Int)) = true := by simp; omega
   obtain ⟨r5, hr5, hc5, _⟩ := pick_ok 12 hcur (by omega)
   have hch : ∀ y : Int, chk (v16.length + ([y] : List Int).length ≤ 4294967296) = some () := fun y => chk_of (by simp; omega)
   refine ⟨_, m - 1, by simp only [hd, if_true, hr5, hch, qb, w64_succ (n := i) (by omega)]; rfl, by omega, i + 1, rfl, by omega, ?_, ?_⟩
   ·simp; omega
   ·exact hc5.mono (by omega)
  ·right
   have hd : decide ((i : Int) < (v11.length : Int)) = false := by simp; omega
   refine ⟨_, by simp only [hd, Bool.false_eq_true, if_false]; rfl, ?_, ?_⟩
   ·exact hcur.mono (by omega)
   ·show v16.length + 1 = _; omega
 obtain ⟨⟨v17, v18, v19, v20⟩, hb2, hcb2, hl2⟩ := loop2
 simp only at hcb2 hl2
 rw [hb2]
 simp only [qb]
 exact ⟨_, rfl, hcb2, ⟨l1, by show v11.length ≤ 10; omega⟩, by show 1 ≤ v20.length; omega, by show v20.length ≤ 10; omega⟩
theorem lineF_ok {k : Nat} {c : l1Cur} (name : ByteArray) (stops : Int) (hs : 2 ≤ stops ∧ stops ≤ 1000) (h : Cur k c) (hk : k ≤ 1000000000) : ∃ r, zq41 c name stops = some r ∧ Cur (k + 40) r.2 ∧ LB r.1 := line_ok name stops hs h hk
theorem six_len (i : Nat) (h2 : 2 ≤ i) (h6 : i ≤ 6) (l : List ByteArray) (hl : l.length = 6) : 2 ≤ ((l.take i).drop (0 : Int).toNat).length ∧ ((l.take i).drop (0 : Int).toNat).length ≤ 6 := by
 simp; omega
theorem networkT_ok {k : Nat} {c : l1Cur} (h : Cur k c) (hk : k ≤ 500000000) : ∃ r, zq43 c = some r ∧ Cur (k + 300) r.2 ∧ NB r.1 := by
 unfold zq43
 obtain ⟨r, hr, hc, h0, h1⟩ := pick_ok 5 h (by omega)
 have e1 : w64 (2 + r.1) = 2 + r.1 := w64_id (by omega)
 have hsix : ([(str [112, 111, 114, 116]), (str [109, 105, 108, 108]), (str [112, 97, 114, 107]), (str [104, 97, 108, 108]), (str [100, 111, 99, 107]), (str [102, 97, 105, 114])] : List ByteArray).length = 6 := rfl
 simp only [hr, qb, e1, hsix]
 rw [chk_of (by omega)]
 obtain ⟨r1, hr1, hc1, h10, h11⟩ := pick_ok 3 hc (by omega)
 have e2 : w64 (1 + r1.1) = ((1 + r1.1.toNat : Nat) : Int) := by rw [w64_id (by omega)]; omega
 simp only [hr1, qb, e2]
 have loop : ∃ b, iter (zq43_L1 r) (((1 + r1.1.toNat : Nat) : Int), r1.2.code_, r1.2.at_, r1.2.seed_.v, []) = some b ∧ (Cur (k + 4 + 40 * 3) ⟨b.1, b.2.1, ⟨b.2.2.1⟩⟩ ∧ (1 ≤ b.2.2.2.length ∧ b.2.2.2.length ≤ 3) ∧ ∀ x ∈ b.2.2.2, LB x) := by
  refine iter_rule (fun m a => a.1 = (m : Int) ∧ m + a.2.2.2.2.length ≤ 3 ∧ 1 ≤ m + a.2.2.2.2.length ∧ (∀ x ∈ a.2.2.2.2, LB x) ∧ Cur (k + 4 + 40 * (3 - m)) ⟨a.2.1, a.2.2.1, ⟨a.2.2.2.1⟩⟩) _ ?_ (k := 1 + r1.1.toNat) ⟨rfl, by simp; omega, by simp, by simp, hc1.mono (by omega)⟩
  rintro m ⟨x, v, v1, v2, v3⟩ ⟨hx, hl, hl1, hlb, hcur⟩
  simp only at hx hl hl1 hlb hcur
  subst hx
  unfold zq43_L1
  cases m with
  | zero => right; exact ⟨_, by simp; rfl, hcur, ⟨by show 1 ≤ v3.length; omega, by show v3.length ≤ 3; omega⟩, hlb⟩
  | succ m =>
   left
   have hpos : decide ((0 : Int) < ((m + 1 : Nat) : Int)) = true := by simp
   obtain ⟨r4, hr4, hs4⟩ := l1Num_ok ((m + 1 : Nat) : Int) (by omega) (by omega)
   have hs : (str [108]).size = 1 := rfl
   have hch : chk ((str [108]).size + r4.size ≤ 4294967296) = some () := chk_of (by omega)
   obtain ⟨r5, hr5, hc5, hb5⟩ := lineF_ok (str [108] ++ r4) (2 + r.1) (by omega) hcur (by omega)
   have hch2 : ∀ y : Line, chk (v3.length + ([y] : List Line).length ≤ 4294967296) = some () := fun y => chk_of (by simp; omega)
   refine ⟨_, m, by simp only [hpos, if_true, hr4, hch, e1, hr5, hch2, qb]; rfl, by omega, ?_, ?_, ?_, ?_, ?_⟩
   ·exact w64_pred (by omega)
   ·simp; omega
   ·simp; omega
   ·intro y hy
    rcases List.mem_append.1 hy with hy | hy
    ·exact hlb y hy
    ·simp at hy; subst hy; exact hb5
   ·exact hc5.mono (by omega)
 obtain ⟨⟨v4, v5, v6, v7⟩, hb, hcb, hlb, hall⟩ := loop
 simp only at hcb hlb hall
 rw [hb]
 simp only [qb]
 obtain ⟨r6, hr6, hc6⟩ := one_ok 2 hcb (by omega)
 simp only [hr6, qb]
 have fin : ∀ (v8 : List UInt8) (v9 v10 : Int) (v11 : List Line), Cur (k + 200) ⟨v8, v9, ⟨v10⟩⟩ → (1 ≤ v11.length ∧ v11.length ≤ 8) → (∀ x ∈ v11, LB x) →
   ∃ r', ((zq67 (⟨((([(str [112, 111, 114, 116]), (str [109, 105, 108, 108]), (str [112, 97, 114, 107]), (str [104, 97, 108, 108]), (str [100, 111, 99, 107]), (str [102, 97, 105, 114])] : List ByteArray).take (2 + r.1).toNat).drop (0 : Int).toNat), v11⟩ : Network)).bind fun r11 => some ((⟨r11.Stops, r11.Lines⟩ : Network), (⟨v8, v9, (⟨v10⟩ : IK .u64)⟩ : l1Cur))) = some r' ∧ Cur (k + 300) r'.2 ∧ NB r'.1 := by
  intro v8 v9 v10 v11 g1 g2 g3
  have hst := six_len (2 + r.1).toNat (by omega) (by omega) _ hsix
  have hnb : NB (⟨((([(str [112, 111, 114, 116]), (str [109, 105, 108, 108]), (str [112, 97, 114, 107]), (str [104, 97, 108, 108]), (str [100, 111, 99, 107]), (str [102, 97, 105, 114])] : List ByteArray).take (2 + r.1).toNat).drop (0 : Int).toNat), v11⟩ : Network) := ⟨hst, g2, g3⟩
  rw [l2Own_t_eq _ hnb.bd]
  exact ⟨_, rfl, g1.mono (by omega), hnb⟩
 split
 ·obtain ⟨e, he, _, hem⟩ := idx_lt (l := v7) (i := 0) (by omega) (by omega)
  obtain ⟨g1, g2⟩ := hall e hem
  have hch2 : ∀ y : Line, chk (v7.length + ([y] : List Line).length ≤ 4294967296) = some () := fun y => chk_of (by simp; omega)
  simp only [he, l2BackF_eq e.Stops (by omega), l2BackF_eq e.Runs (by omega), hch2, qb]
  refine fin _ _ _ _ (hc6.mono (by omega)) (by simp; omega) fun y hy => ?_
  rcases List.mem_append.1 hy with hy | hy
  ·exact hall y hy
  ·simp at hy; subst hy
   exact ⟨by simpa using g1, by simpa using g2⟩
 ·simp only [qb]
  exact fin _ _ _ _ (hc6.mono (by omega)) (by omega) hall
theorem anyNetwork_ok {k : Nat} {c : l1Cur} (h : Cur k c) (hk : k ≤ 200000000) : ∃ r, zq37 c = some r ∧ Cur (k + 1000) r.2 ∧ Bd r.1 := by
 unfold zq37
 obtain ⟨r, hr, hc, hnb⟩ := networkT_ok h (by omega)
 obtain ⟨n1, n2, n3⟩ := hnb
 obtain ⟨r1, hr1, hc1, h10, h11⟩ := pick_ok (r.1.Lines.length : Int) hc (by omega)
 obtain ⟨e, he, he2, hem⟩ := idx_lt (l := r.1.Lines) (i := r1.1) h10 (by omega)
 obtain ⟨g1, g2⟩ := n3 e hem
 obtain ⟨r2, hr2, hc2, _⟩ := pick_ok 24 hc1 (by omega)
 simp only [hr, hr1, he, hr2, qb]
 have fin : ∀ (v : List UInt8) (v1 v2 : Int) (v3 : ByteArray) (v4 : List ByteArray) (v5 : List Line) (v6 : List Int), Cur (k + 900) ⟨v, v1, ⟨v2⟩⟩ → v4.length ≤ 6 → v5.length = r.1.Lines.length → (∀ x ∈ v5, LB x) → v6.length ≤ 11 →
   ∃ r', ((idx v5 r1.1).bind fun e9 => some ((⟨v4, (v5.set r1.1.toNat (⟨v3, e9.Stops, v6⟩ : Line))⟩ : Network), (⟨v, v1, (⟨v2⟩ : IK .u64)⟩ : l1Cur))) = some r' ∧ Cur (k + 1000) r'.2 ∧ Bd r'.1 := by
  intro v v1 v2 v3 v4 v5 v6 q1 q2 q3 q4 q5
  obtain ⟨e9, he9, _, hm9⟩ := idx_lt (l := v5) (i := r1.1) h10 (by omega)
  rw [he9]
  refine ⟨_, rfl, q1.mono (by omega), by show v4.length ≤ _; omega, by simp; omega, fun x hx => ?_⟩
  rcases List.mem_or_eq_of_mem_set hx with hx | hx
  ·have := q4 x hx
   unfold LB at this; omega
  ·subst hx
   have := q4 e9 hm9
   unfold LB at this
   exact ⟨by show e9.Stops.length ≤ _; omega, by show v6.length ≤ _; omega⟩
 split
 ·obtain ⟨r4, hr4, hc4, _⟩ := ofw_ok ([(str [109, 105, 108, 108]), (str []), (str [65]), (str [97, 98, 99, 100, 101, 102, 103, 104]), (str [97, 98, 99, 100, 101, 102, 103, 104, 105])] : List ByteArray) (by simp) hc2 (by omega)
  obtain ⟨e2, he2', _⟩ := idx_lt (l := r.1.Stops) (i := 0) (by omega) (by omega)
  simp only [hr4, he2', qb, flb_go]
  exact fin _ _ _ _ _ _ _ (hc4.mono (by omega)) (by simp; omega) rfl n3 (by omega)
 split
 ·obtain ⟨r5, hr5, hc5, _⟩ := ofw_ok ([(str [114, 49]), (str [108, 49]), (str []), (str [88])] : List ByteArray) (by simp) hc2 (by omega)
  simp only [hr5, qb, flb_go]
  exact fin _ _ _ _ _ _ _ (hc5.mono (by omega)) (by omega) rfl n3 (by omega)
 split
 ·obtain ⟨r8, hr8, hc8, h80, h81⟩ := pick_ok (e.Stops.length : Int) hc2 (by omega)
  obtain ⟨r9, hr9, hc9, _⟩ := pick_ok 10 hc8 (by omega)
  obtain ⟨e4, he4, _⟩ := idx_lt (l := e.Stops) (i := r8.1) h80 (by omega)
  simp only [hr8, hr9, he4, qb, flb_go]
  refine fin _ _ _ _ _ _ _ (hc9.mono (by omega)) (by omega) (by simp) (fun x hx => ?_) (by show e.Runs.length ≤ 11; omega)
  rcases List.mem_or_eq_of_mem_set hx with hx | hx
  ·exact n3 x hx
  ·subst hx; exact ⟨by simpa using g1, g2⟩
 split
 ·obtain ⟨r12, hr12, hc12, h120, h121⟩ := pick_ok (e.Runs.length : Int) hc2 (by omega)
  obtain ⟨r13, hr13, hc13, _⟩ := amongw_ok ([0, 60, 61, (-1)] : List Int) (by simp) hc12 (by omega)
  obtain ⟨e6, he6, _⟩ := idx_lt (l := e.Runs) (i := r12.1) h120 (by omega)
  simp only [hr12, hr13, he6, qb, flb_go]
  refine fin _ _ _ _ _ _ _ (hc13.mono (by omega)) (by omega) (by simp) (fun x hx => ?_) (by simp; omega)
  rcases List.mem_or_eq_of_mem_set hx with hx | hx
  ·exact n3 x hx
  ·subst hx; exact ⟨g1, by simpa using g2⟩
 split
 ·have hch : chk (e.Runs.length + ([3] : List Int).length ≤ 4294967296) = some () := chk_of (by simp; omega)
  simp only [hch, qb, flb_go]
  exact fin _ _ _ _ _ _ _ (hc2.mono (by omega)) (by omega) rfl n3 (by simp; omega)
 split
 ·simp only [flb_ret]
  exact ⟨_, rfl, hc2.mono (by omega), by show r.1.Stops.length ≤ _; omega, by simp, by simp⟩
 split
 ·have loop : ∃ b, iter (zq37_L1 r) (0, r2.2.code_, r2.2.at_, r2.2.seed_.v, r.1.Lines) = some b ∧ (Cur (k + 900) ⟨b.1, b.2.1, ⟨b.2.2.1⟩⟩ ∧ b.2.2.2.length ≤ 20 ∧ ∀ x ∈ b.2.2.2, LB x) := by
   refine iter_rule (fun m a => ∃ i : Nat, a.1 = (i : Int) ∧ m + i = 8 ∧ i ≤ 7 ∧ a.2.2.2.2.length ≤ 8 + i ∧ (∀ x ∈ a.2.2.2.2, LB x) ∧ Cur (k + 310 + 50 * i) ⟨a.2.1, a.2.2.1, ⟨a.2.2.2.1⟩⟩) _ ?_ (k := 8) ⟨0, rfl, rfl, by omega, by simpa using n2.2, n3, hc2.mono (by omega)⟩
   rintro m ⟨v7, v8, v9, v10, v11⟩ ⟨i, hi, hm, hi7, hl, hlb, hcur⟩
   simp only at hi hl hlb hcur
   subst hi
   unfold zq37_L1
   obtain ⟨r16, hr16, hc16, h160, h161⟩ := pick_ok 2 hcur (by omega)
   have w1 : w64 (5 + r16.1) = 5 + r16.1 := w64_id (by omega)
   simp only [hr16, w1, qb]
   by_cases a1 : (v11.length : Int) < 5 + r16.1 ∧ (i : Int) < 7
   ·left
    have d1 : decide ((v11.length : Int) < 5 + r16.1) = true := by simp; omega
    have d2 : decide ((i : Int) < 7) = true := by simp; omega
    obtain ⟨r19, hr19, hs19⟩ := l1Num_ok (i : Int) (by omega) (by omega)
    have hs : (str [120]).size = 1 := rfl
    have hch : chk ((str [120]).size + r19.size ≤ 4294967296) = some () := chk_of (by omega)
    obtain ⟨r20, hr20, hc20, hb20⟩ := line_ok (str [120] ++ r19) (r.1.Stops.length : Int) (by omega) hc16 (by omega)
    have hch2 : ∀ y : Line, chk (v11.length + ([y] : List Line).length ≤ 4294967296) = some () := fun y => chk_of (by simp; omega)
    refine ⟨_, m - 1, by simp only [d1, d2, if_true, hr19, hch, hr20, hch2, qb, w64_succ (n := i) (by omega)]; rfl, by omega, i + 1, rfl, by omega, by omega, ?_, fun x hx => ?_, ?_⟩
    ·simp; omega
    ·rcases List.mem_append.1 hx with hx | hx
     ·exact hlb x hx
     ·simp at hx; subst hx; exact hb20
    ·exact hc20.mono (by omega)
   ·right
    have hcond : (if decide ((v11.length : Int) < 5 + r16.1) = true then some (decide ((i : Int) < 7)) else some false) = some false := by
     by_cases b1 : (v11.length : Int) < 5 + r16.1
     ·have : decide ((i : Int) < 7) = false := by simp; omega
      simp [b1, this]
     ·simp [b1]
    refine ⟨_, by simp only [hcond, qb, Bool.false_eq_true, if_false]; rfl, ?_, ?_, hlb⟩
    ·exact hc16.mono (by omega)
    ·show v11.length ≤ 20; omega
  obtain ⟨⟨v13, v14, v15, v16⟩, hb, hcb, hlb, hall⟩ := loop
  simp only at hcb hlb hall
  rw [hb]
  simp only [qb, flb_ret]
  refine ⟨_, rfl, hcb.mono (by omega), by show r.1.Stops.length ≤ _; omega, by show v16.length ≤ _; omega, fun x hx => ?_⟩
  have := hall x hx
  unfold LB at this; omega
 ·simp only [flb_go]
  exact fin _ _ _ _ _ _ _ (hc2.mono (by omega)) (by omega) rfl n3 (by omega)
def TB (t : Timetable) : Prop := Bd t.Network ∧ t.Trips.length ≤ 1000
def TripP (n : Network) (x : Trip) : Prop := (1 ≤ x.Id ∧ x.Id ≤ 999) ∧ ∃ l, idx n.Lines x.Line = some l ∧ (0 ≤ x.Start ∧ x.Start ≤ 1799) ∧ 0 ≤ x.Start + l.Runs.sum ∧ x.Start + l.Runs.sum ≤ 1799
def GoodT (t : Timetable) : Prop := Good t.Network ∧ t.Trips.length ≤ 12 ∧ (∀ (i : Nat) x, t.Trips[i]? = some x → TripP t.Network x) ∧ ∀ (i : Nat) a b, t.Trips[i]? = some a → t.Trips[i + 1]? = some b → a.Id < b.Id
noncomputable instance (t : Timetable) : Decidable (GoodT t) := Classical.propDecidable _
noncomputable instance (n : Network) (x : Trip) : Decidable (TripP n x) := Classical.propDecidable _
theorem time_eq (t : Int) : zq5 t = some (decide (0 ≤ t ∧ t ≤ 1799)) := by
 unfold zq5; rw [within_eq]; rfl
theorem l4Time_eq (t : Int) : zq70 t = some (decide (0 ≤ t ∧ t ≤ 1799)) := by
 unfold zq70; rw [l1In_eq]; rfl
theorem total_eq (l : List Int) (h1 : l.length ≤ 1000000) (h2 : ∀ x ∈ l, 0 ≤ x ∧ x ≤ 1000000) : zq27 l = some l.sum := by
 unfold zq27
 rw [sum_loop (fun x : Int => x) l h1 h2 (fun i s x hx => ?_) (fun s => ?_)]
 ·simp
 ·have := get_lt hx
  unfold zq27_L1
  simp (disch := omega) only [if_pos, if_neg, decide_eq_true_eq, decide_true, decide_false, Bool.not_true, Bool.not_false, Bool.false_eq_true, Bool.not_eq_true', decide_eq_false_iff_not, if_true, if_false, w64_id, chk_of, idx_nat, qb, Option.map_some, Int.toNat_natCast, not_true_eq_false, not_false_eq_true, true_and, and_true, and_self, false_and, and_false, reduceIte, flb_go, flb_ret, beq_self_eq_true, ne_eq, bne_self_eq_false, Int.ofNat_lt.2 this, hx]
 ·unfold zq27_L1; simp
theorem l2Run_eq (x : Line) (a b : Nat) (hab : a ≤ b) (hb : b ≤ x.Runs.length) (hl : x.Runs.length ≤ 1000) (h2 : ∀ r ∈ x.Runs, 0 ≤ r ∧ r ≤ 1000000) : zq69 x (a : Int) (b : Int) = some (((x.Runs.take b).drop a).sum) := by
 unfold zq69
 refine Tot.val (.call (P := fun v => v = ((x.Runs.take b).drop a).sum) ?_ fun v h => .ok h)
 refine .iter (fun m s => ∃ k : Nat, s.2 = ((a + k : Nat) : Int) ∧ m + k = b - a ∧ s.1 = (((x.Runs.take b).drop a).take k).sum) (n := b - a) ⟨0, by simp, by omega, by simp⟩ ?_
 rintro m ⟨s, v⟩ ⟨k, hk, hm, hs⟩
 simp only at hk hs
 subst hk
 unfold zq69_L1
 refine .iteP (fun hc => ?_) (fun hc => .dn ?_)
 ·obtain ⟨r, hr⟩ := get_ex (l := x.Runs) (i := a + k) (by omega)
  have hr2 : ((x.Runs.take b).drop a)[k]? = some r := by
   rw [List.getElem?_drop, List.getElem?_take_of_lt (by omega)]; exact hr
  have hb1 := h2 r (List.mem_of_getElem? hr)
  have hb2 := sum_bd (l := ((x.Runs.take b).drop a).take k) (M := 1000000) fun y hy => h2 y (List.mem_of_mem_take (List.mem_of_mem_drop (List.mem_of_mem_take hy)))
  have hlen : ((((x.Runs.take b).drop a).take k).length : Int) ≤ 1000 := by simp; omega
  rw [← hs] at hb2
  refine .eq (by rw [idx_nat]; exact hr) (.nx ⟨m - 1, by omega, k + 1, ?_, by omega, ?_⟩)
  ·show w64 (((a + k : Nat) : Int) + 1) = _
   rw [w64_id (by omega)]; omega
  ·show w64 (s + r) = _
   rw [w64_id (by omega), sum_take_succ hr2, hs]
 ·rw [hs, List.take_of_length_le (by rw [List.length_drop, List.length_take]; omega)]
theorem good_line {n : Network} (h : Good n) {k : Int} {l : Line} (hl : idx n.Lines k = some l) : LineP n.Stops.length l := h.2.2.2.2 _ l (idx_some hl).2.2
theorem line_stop {st : Nat} {l : Line} (h : LineP st l) {j : Nat} {s : Int} (hs : l.Stops[j]? = some s) : 0 ≤ s ∧ s < (st : Int) := (h.2.2.1 j s hs).1
theorem line_runs {st : Nat} {l : Line} (h : LineP st l) : (l.Runs.length + 1 = l.Stops.length ∧ 1 ≤ l.Runs.length ∧ l.Runs.length ≤ 5) ∧ ∀ r ∈ l.Runs, 1 ≤ r ∧ r ≤ 60 := by
 obtain ⟨h1, h2, h3, h4⟩ := h
 refine ⟨by omega, fun r hr => ?_⟩
 obtain ⟨i, hi⟩ := List.getElem?_of_mem hr
 exact h4 i r hi
theorem runs_sum {st : Nat} {l : Line} (h : LineP st l) (k : Nat) : 0 ≤ (l.Runs.take k).sum ∧ (l.Runs.take k).sum ≤ 300 := by
 obtain ⟨⟨h1, h2, h3⟩, h4⟩ := line_runs h
 have := sum_bd (l := l.Runs.take k) (M := 60) fun x hx => by have := h4 x (List.mem_of_mem_take hx); omega
 have hl : ((l.Runs.take k).length : Int) ≤ 5 := by simp; omega
 omega
theorem runs_sum' {st : Nat} {l : Line} (h : LineP st l) : 0 ≤ l.Runs.sum ∧ l.Runs.sum ≤ 300 := by
 have := runs_sum h l.Runs.length
 rwa [List.take_length] at this
theorem endOf_eq {t : Timetable} (hg : Good t.Network) {x : Trip} {l : Line} (hl : idx t.Network.Lines x.Line = some l) (hs : 0 ≤ x.Start ∧ x.Start ≤ 1799) : zq13 t x = some (x.Start + l.Runs.sum) := by
 have h := good_line hg hl
 obtain ⟨⟨h1, h2, h3⟩, h4⟩ := line_runs h
 have h5 := runs_sum' h
 unfold zq13
 rw [hl]
 simp only [qb]
 rw [total_eq l.Runs (by omega) (fun x hx => by have := h4 x hx; omega)]
 simp (disch := omega) only [if_pos, if_neg, decide_eq_true_eq, decide_true, decide_false, Bool.not_true, Bool.not_false, Bool.false_eq_true, Bool.not_eq_true', decide_eq_false_iff_not, if_true, if_false, w64_id, chk_of, idx_nat, qb, Option.map_some, Int.toNat_natCast, not_true_eq_false, not_false_eq_true, true_and, and_true, and_self, false_and, and_false, reduceIte, flb_go, flb_ret, beq_self_eq_true, ne_eq, bne_self_eq_false]
theorem l5Line_eq {t : Timetable} {i : Nat} {x : Trip} {l : Line} (hx : t.Trips[i]? = some x) (hl : idx t.Network.Lines x.Line = some l) : zq74 t (i : Int) = some l := by
 unfold zq74
 simp (disch := omega) only [if_pos, if_neg, decide_eq_true_eq, decide_true, decide_false, Bool.not_true, Bool.not_false, Bool.false_eq_true, Bool.not_eq_true', decide_eq_false_iff_not, if_true, if_false, w64_id, chk_of, idx_nat, qb, Option.map_some, Int.toNat_natCast, not_true_eq_false, not_false_eq_true, true_and, and_true, and_self, false_and, and_false, reduceIte, flb_go, flb_ret, beq_self_eq_true, ne_eq, bne_self_eq_false, hx, hl]
theorem l5Stops_eq {t : Timetable} {i : Nat} {x : Trip} {l : Line} (hx : t.Trips[i]? = some x) (hl : idx t.Network.Lines x.Line = some l) : zq75 t (i : Int) = some l.Stops := by
 unfold zq75
 rw [l5Line_eq hx hl]; rfl
theorem l5At_eq {t : Timetable} (hg : Good t.Network) {i : Nat} {x : Trip} {l : Line} (hx : t.Trips[i]? = some x) (hl : idx t.Network.Lines x.Line = some l) (hs : 0 ≤ x.Start ∧ x.Start ≤ 1799) {k : Nat} (hk : k ≤ l.Runs.length) : zq71 t (i : Int) (k : Int) = some (x.Start + (l.Runs.take k).sum) := by
 have h := good_line hg hl
 obtain ⟨⟨h1, h2, h3⟩, h4⟩ := line_runs h
 have h5 := runs_sum h k
 have e := l2Run_eq l 0 k (by omega) hk (by omega) (fun x hx => by have := h4 x hx; omega)
 rw [List.drop_zero] at e
 have e' : zq69 l 0 (k : Int) = some (l.Runs.take k).sum := e
 unfold zq71
 simp (disch := omega) only [if_pos, if_neg, decide_eq_true_eq, decide_true, decide_false, Bool.not_true, Bool.not_false, Bool.false_eq_true, Bool.not_eq_true', decide_eq_false_iff_not, if_true, if_false, w64_id, chk_of, idx_nat, qb, Option.map_some, Int.toNat_natCast, not_true_eq_false, not_false_eq_true, true_and, and_true, and_self, false_and, and_false, reduceIte, flb_go, flb_ret, beq_self_eq_true, ne_eq, bne_self_eq_false, hx, l5Line_eq hx hl, e']
theorem l5End_eq {t : Timetable} (hg : Good t.Network) {i : Nat} {x : Trip} {l : Line} (hx : t.Trips[i]? = some x) (hl : idx t.Network.Lines x.Line = some l) (hs : 0 ≤ x.Start ∧ x.Start ≤ 1799) : zq72 t (i : Int) = some (x.Start + l.Runs.sum) := by
 have h := good_line hg hl
 obtain ⟨⟨h1, h2, h3⟩, h4⟩ := line_runs h
 have e : w64 ((l.Stops.length : Int) - 1) = (l.Runs.length : Int) := by rw [w64_id (by omega)]; omega
 unfold zq72
 rw [l5Stops_eq hx hl]
 simp only [qb, e, l5At_eq hg hx hl hs (Nat.le_refl _), List.take_length]
def TripsP (t : Timetable) : Prop := (∀ (i : Nat) x, t.Trips[i]? = some x → TripP t.Network x) ∧ ∀ (i : Nat) a b, t.Trips[i]? = some a → t.Trips[i + 1]? = some b → a.Id < b.Id
noncomputable instance (t : Timetable) : Decidable (TripsP t) := Classical.propDecidable _
theorem trip_i {t : Timetable} (hb : TB t) (hg : Good t.Network) (x : Trip) (last : Int) (hlast : 0 ≤ last) : ((if (decide (x.Id ≤ last)) = true then some true else if (decide (999 < x.Id)) = true then some true else (zq17 t.Network x.Line).bind fun r =>
   if (!r) = true then some true else (zq5 x.Start).bind fun r1 =>
   if (!r1) = true then some true else (zq13 t x).bind fun r2 =>
   (zq5 r2).bind fun r3 =>
   some (!r3))) = some (!decide (last < x.Id ∧ TripP t.Network x)) := by
 by_cases c1 : x.Id ≤ last
 ·have : ¬ (last < x.Id ∧ TripP t.Network x) := fun h => by omega
  simp [c1, this]
 ·by_cases c2 : 999 < x.Id
  ·have : ¬ (last < x.Id ∧ TripP t.Network x) := fun h => by have := h.2.1; omega
   simp [c1, c2, this]
  ·simp only [isLine_eq, time_eq, qb, c1, c2, decide_false, Bool.false_eq_true, if_false]
   by_cases c3 : 0 ≤ x.Line ∧ x.Line < (t.Network.Lines.length : Int)
   ·obtain ⟨l, hl, _⟩ := idx_lt (l := t.Network.Lines) c3.1 c3.2
    by_cases c4 : 0 ≤ x.Start ∧ x.Start ≤ 1799
    ·have hT : (last < x.Id ∧ TripP t.Network x) ↔ (0 ≤ x.Start + l.Runs.sum ∧ x.Start + l.Runs.sum ≤ 1799) := by
      constructor
      ·rintro ⟨_, _, l', hl', _, h⟩
       rw [hl] at hl'; cases hl'; exact h
      ·intro h; exact ⟨by omega, ⟨by omega, by omega⟩, l, hl, c4, h⟩
     simp only [c3, c4, and_self, decide_true, Bool.not_true, Bool.false_eq_true, if_false, endOf_eq hg hl c4, time_eq, qb, hT]
    ·have : ¬ (last < x.Id ∧ TripP t.Network x) := fun h => by
      obtain ⟨_, _, l', _, h4, _⟩ := h
      exact c4 h4
     simp only [c3, c4, this, and_self, decide_true, decide_false, Bool.not_true, Bool.not_false, Bool.false_eq_true, if_false, if_true]
   ·have : ¬ (last < x.Id ∧ TripP t.Network x) := fun h => by
     obtain ⟨_, _, l', hl', _⟩ := h
     have := idx_some hl'
     exact c3 ⟨this.1, this.2.1⟩
    simp only [c3, this, decide_false, Bool.not_false, if_true]
theorem areTrips_eq {t : Timetable} (hb : TB t) (hg : Good t.Network) : zq9 t = some (decide (t.Trips.length ≤ 12 ∧ TripsP t)) := by
 unfold zq9
 by_cases h12 : t.Trips.length ≤ 12
 ·have d : decide ((12 : Int) < (t.Trips.length : Int)) = false := by simp; omega
  have e : decide (t.Trips.length ≤ 12 ∧ TripsP t) = decide (TripsP t) := by simp [h12]
  rw [d, e]
  simp only [Bool.false_eq_true, if_false]
  refine flb_dec (.iter (fun m a => ∃ i : Nat, a.2 = (i : Int) ∧ m + i = t.Trips.length ∧ 0 ≤ a.1 ∧ (∀ y, 0 < i → t.Trips[i - 1]? = some y → a.1 = y.Id) ∧ (i = 0 → a.1 = 0) ∧ (∀ (j : Nat) x, j < i → t.Trips[j]? = some x → TripP t.Network x) ∧ ∀ (j : Nat) a b, j + 1 < i → t.Trips[j]? = some a → t.Trips[j + 1]? = some b → a.Id < b.Id)
   (n := t.Trips.length) ⟨0, rfl, rfl, by simp, by simp, by simp, fun j x h => by omega, fun j a b h => by omega⟩ ?_)
  rintro m ⟨last, v⟩ ⟨i, hv, hm, h0, h1, h2, h3, h4⟩
  simp only at hv h0 h1 h2
  subst hv
  unfold zq9_L1
  refine .iteP (fun hc => ?_) (fun hc => .dn (.inl ⟨rfl, fun j x hx => h3 j x (by have := get_lt hx; omega) hx, fun j a b ha hb' => h4 j a b (by have := get_lt hb'; omega) ha hb'⟩))
  obtain ⟨x, hx⟩ := get_ex (l := t.Trips) (i := i) (by omega)
  refine .eq (by rw [idx_nat]; exact hx) (.eq (trip_i hb hg x last h0) (.iteN (fun hn => .dn (.inr ⟨rfl, fun hp => hn ⟨?_, hp.1 i x hx⟩⟩)) (fun hp => .nx ⟨m - 1, by omega, i + 1, w64_succ (by omega), by omega, ?_, ?_, by simp, ?_, ?_⟩)))
  ·by_cases hi : i = 0
   ·rw [h2 hi]; have := (hp.1 i x hx).1; omega
   ·obtain ⟨y, hy⟩ := get_ex (l := t.Trips) (i := i - 1) (by omega)
    rw [h1 y (by omega) hy]
    exact hp.2 (i - 1) y x hy (by rw [show i - 1 + 1 = i by omega]; exact hx)
  ·show 0 ≤ x.Id
   have := hp.2.1; omega
  ·intro y _ hy
   rw [show i + 1 - 1 = i by omega, hx] at hy; cases hy; rfl
  ·intro j y hj hy
   by_cases hji : j = i
   ·subst hji; rw [hx] at hy; cases hy; exact hp.2
   ·exact h3 j y (by omega) hy
  ·intro j a b hj ha hb'
   by_cases hji : j + 1 = i
   ·subst hji; rw [hx] at hb'; cases hb'
    have := h1 a (by omega) (by simpa using ha)
    omega
   ·exact h4 j a b (by omega) ha hb'
 ·have d : decide ((12 : Int) < (t.Trips.length : Int)) = true := by simp; omega
  simp [d, h12]
def TripQ (t : Timetable) (i : Nat) (x : Trip) : Prop := TripP t.Network x ∧ ∀ y, 0 < i → t.Trips[i - 1]? = some y → y.Id < x.Id
noncomputable instance (t : Timetable) (i : Nat) (x : Trip) : Decidable (TripQ t i x) := Classical.propDecidable _
theorem goodT_iff (t : Timetable) : GoodT t ↔ Good t.Network ∧ t.Trips.length ≤ 12 ∧ TripsP t := Iff.rfl
theorem validT_eq {t : Timetable} (hb : TB t) : zq6 t = some (decide (GoodT t)) := by
 unfold zq6
 rw [valid_eq _ hb.1]
 by_cases hg : Good t.Network
 ·simp only [hg, decide_true, if_true, qb, areTrips_eq hb hg, goodT_iff, true_and]
 ·have : ¬ GoodT t := fun h => hg h.1
  simp [hg, this]
theorem goodT_eq {t : Timetable} (hb : TB t) : zq73 t = some (decide (GoodT t)) := by
 unfold zq73
 rw [good_eq _ hb.1]
 by_cases hg : Good t.Network
 ·by_cases h12 : t.Trips.length ≤ 12
  ·have d : decide ((12 : Int) < (t.Trips.length : Int)) = false := by simp; omega
   have e : decide (GoodT t) = decide (TripsP t) := by rw [decide_eq_decide, goodT_iff]; simp [hg, h12]
   simp only [hg, decide_true, Bool.not_true, Bool.false_eq_true, if_false, qb, d, e]
   refine flb_dec (.iter (fun m a => ∃ i : Nat, a = (i : Int) ∧ m + i = t.Trips.length ∧ (∀ (j : Nat) x, j < i → t.Trips[j]? = some x → TripP t.Network x) ∧ ∀ (j : Nat) a b, j + 1 < i → t.Trips[j]? = some a → t.Trips[j + 1]? = some b → a.Id < b.Id)
    (n := t.Trips.length) ⟨0, rfl, rfl, fun j x h => by omega, fun j a b h => by omega⟩ ?_)
   rintro m v ⟨i, hv, hm, h3, h4⟩
   subst hv
   unfold zq73_L1
   refine .iteP (fun hc => ?_) (fun hc => .dn (.inl ⟨rfl, fun j x hx => h3 j x (by have := get_lt hx; omega) hx, fun j a b ha hb' => h4 j a b (by have := get_lt hb'; omega) ha hb'⟩))
   obtain ⟨x, hx⟩ := get_ex (l := t.Trips) (i := i) (by omega)
   refine .eq (by rw [idx_nat]; exact hx) ?_
   have hll := hg.2.1
   have ew : w64 ((t.Network.Lines.length : Int) - 1) = (t.Network.Lines.length : Int) - 1 := w64_id (by omega)
   have key : ((zq53 x.Id 1 999).bind fun r6 =>
   (if (!r6) = true then some true else (zq53 x.Line 0 (w64 ((t.Network.Lines.length : Int) - 1))).bind fun r7 =>
   if (!r7) = true then some true else (zq70 x.Start).bind fun r8 =>
   if (!r8) = true then some true else (zq72 t (i : Int)).bind fun r9 =>
   (zq70 r9).bind fun r10 =>
   if (!r10) = true then some true else if (decide (0 < (i : Int))) = true then (idx t.Trips (w64 ((i : Int) - 1))).bind fun e2 =>
   some (decide (x.Id ≤ e2.Id)) else some false)) = some (!decide (TripQ t i x)) := by
    have no : ¬ TripP t.Network x → (!decide (TripQ t i x)) = true := fun h => (by simp [show ¬ TripQ t i x from fun q => h q.1])
    simp only [l1In_eq, l4Time_eq, ew, qb]
    by_cases c1 : 1 ≤ x.Id ∧ x.Id ≤ 999
    ·by_cases c3 : 0 ≤ x.Line ∧ x.Line ≤ (t.Network.Lines.length : Int) - 1
     ·obtain ⟨l, hl, _⟩ := idx_lt (l := t.Network.Lines) c3.1 (by omega)
      by_cases c4 : 0 ≤ x.Start ∧ x.Start ≤ 1799
      ·simp only [c1, c3, c4, and_self, decide_true, Bool.not_true, Bool.false_eq_true, if_false, l5End_eq hg hx hl c4, l4Time_eq, qb]
       by_cases c5 : 0 ≤ x.Start + l.Runs.sum ∧ x.Start + l.Runs.sum ≤ 1799
       ·have hT : TripP t.Network x := ⟨c1, l, hl, c4, c5⟩
        simp only [c5, and_self, decide_true, Bool.not_true, Bool.false_eq_true, if_false, ]
        by_cases c6 : 0 < i
        ·obtain ⟨y, hy⟩ := get_ex (l := t.Trips) (i := i - 1) (by omega)
         have e1 : w64 ((i : Int) - 1) = ((i - 1 : Nat) : Int) := by rw [w64_id (by omega)]; omega
         have c6' : (0 : Int) < (i : Int) := by omega
         simp only [c6', decide_true, if_true, e1, idx_nat, hy, qb, Option.some.injEq]
         by_cases c7 : x.Id ≤ y.Id
         ·have : ¬ TripQ t i x := fun h => by have := h.2 y c6 hy; omega
          simp only [c7, decide_true, this, decide_false, Bool.not_false]
         ·have : TripQ t i x := ⟨hT, fun z _ hz => by rw [hy] at hz; cases hz; omega⟩
          simp only [c7, decide_false, this, decide_true, Bool.not_true]
        ·have c6' : ¬ (0 : Int) < (i : Int) := by omega
         have : TripQ t i x := ⟨hT, fun z h0 _ => absurd h0 c6⟩
         simp only [c6', decide_false, Bool.false_eq_true, if_false, this, decide_true, Bool.not_true]
       ·rw [no (fun hT => by
         obtain ⟨_, l', hl', _, h⟩ := hT
         rw [hl] at hl'; cases hl'; exact c5 h)]
        simp only [c5, decide_false, Bool.not_false, if_true]
      ·rw [no (fun hT => by obtain ⟨_, l', _, h, _⟩ := hT; exact c4 h)]
       simp only [c1, c3, c4, and_self, decide_true, decide_false, Bool.not_true, Bool.not_false, Bool.false_eq_true, if_false, if_true]
     ·rw [no (fun hT => by
       obtain ⟨_, l', hl', _⟩ := hT
       have := idx_some hl'
       exact c3 ⟨this.1, by omega⟩)]
      simp only [c1, c3, and_self, decide_true, decide_false, Bool.not_true, Bool.not_false, Bool.false_eq_true, if_false, if_true]
    ·rw [no (fun hT => c1 hT.1)]
     simp only [c1, decide_false, Bool.not_false, if_true]
   rw [bind_assoc', key]
   refine .iteN (fun hn => .dn (.inr ⟨rfl, fun hp => hn ⟨hp.1 i x hx, fun y hi hy => hp.2 (i - 1) y x hy (by rw [show i - 1 + 1 = i by omega]; exact hx)⟩⟩)) (fun hp => .nx ⟨m - 1, by omega, i + 1, w64_succ (by omega), by omega, ?_, ?_⟩)
   ·intro j y hj hy
    by_cases hji : j = i
    ·subst hji; rw [hx] at hy; cases hy; exact hp.1
    ·exact h3 j y (by omega) hy
   ·intro j a b hj ha hb'
    by_cases hji : j + 1 = i
    ·subst hji; rw [hx] at hb'; cases hb'
     exact hp.2 a (by omega) (by simpa using ha)
    ·exact h4 j a b (by omega) ha hb'
  ·have d : decide ((12 : Int) < (t.Trips.length : Int)) = true := by simp; omega
   have : ¬ GoodT t := fun h => h12 h.2.1
   simp [hg, d, this]
 ·have : ¬ GoodT t := fun h => hg h.1
  simp [hg, this]
theorem lineOf_eq {t : Timetable} {x : Trip} {l : Line} (hl : idx t.Network.Lines x.Line = some l) : zq23 t x = some l := by
 unfold zq23; rw [hl]; rfl
theorem trip_line {t : Timetable} (h : GoodT t) {i : Nat} {x : Trip} (hx : t.Trips[i]? = some x) : ∃ l, idx t.Network.Lines x.Line = some l ∧ LineP t.Network.Stops.length l ∧ (1 ≤ x.Id ∧ x.Id ≤ 999) ∧ (0 ≤ x.Start ∧ x.Start ≤ 1799) ∧ 0 ≤ x.Start + l.Runs.sum ∧ x.Start + l.Runs.sum ≤ 1799 := by
 obtain ⟨h1, l, hl, h2, h3⟩ := h.2.2.1 i x hx
 exact ⟨l, hl, good_line h.1 hl, h1, h2, h3⟩
def ST (l : Line) (s : Int) : List Int := (List.range (l.Runs.length + 1)).map fun k => s + (l.Runs.take k).sum
theorem ST_len (l : Line) (s : Int) : (ST l s).length = l.Runs.length + 1 := by simp [ST]
theorem ST_at {l : Line} {s : Int} {k : Nat} (hk : k ≤ l.Runs.length) : (ST l s)[k]? = some (s + (l.Runs.take k).sum) := by
 unfold ST; rw [List.getElem?_map, List.getElem?_range (by omega)]; rfl
theorem stopTimes_eq {t : Timetable} {x : Trip} {l : Line} {st : Nat} (hl : idx t.Network.Lines x.Line = some l) (hp : LineP st l) (hs : 0 ≤ x.Start ∧ x.Start ≤ 1799) : zq26 t x = some (ST l x.Start) := by
 obtain ⟨⟨h1, h2, h3⟩, h4⟩ := line_runs hp
 unfold zq26
 rw [lineOf_eq hl]
 simp only [qb]
 refine Tot.val (.call (P := fun v => v = ST l x.Start) ?_ fun v h => .ok h)
 refine .iter (fun m s => ∃ k : Nat, s.1 = (k : Int) ∧ m + k = l.Runs.length ∧ s.2 = (ST l x.Start).take (k + 1)) (n := l.Runs.length) ⟨0, rfl, rfl, ?_⟩ ?_
 ·rw [take_succ (x := x.Start) (by have := ST_at (l := l) (s := x.Start) (k := 0) (by omega); simpa using this)]; rfl
 ·rintro m ⟨v, r⟩ ⟨k, hk, hm, hr⟩
  simp only at hk hr
  subst hk
  unfold zq26_L1
  have hlen := ST_len l x.Start
  refine .iteP (fun hc => ?_) (fun hc => .dn (by rw [hr, List.take_of_length_le (by omega)]))
  obtain ⟨e, he⟩ := get_ex (l := l.Runs) (i := k) (by omega)
  have hk1 := ST_at (l := l) (s := x.Start) (k := k) (by omega)
  have hk2 := ST_at (l := l) (s := x.Start) (k := k + 1) (by omega)
  have b1 := runs_sum hp k
  have b2 := h4 e (List.mem_of_getElem? he)
  refine .eq (by rw [idx_nat]; exact he) (.eq (by rw [idx_nat, hr, List.getElem?_take_of_lt (by omega)]; exact hk1) (.chk (by rw [hr]; simp; omega) (.nx ⟨m - 1, by omega, k + 1, w64_succ (by omega), by omega, ?_⟩)))
  show r ++ [w64 (x.Start + (l.Runs.take k).sum + e)] = _
  rw [take_succ hk2, hr, w64_id (by omega), sum_take_succ he, Int.add_assoc]
theorem anyNet_ok {k : Nat} {c : l1Cur} (h : Cur k c) (hk : k ≤ 200000000) : Tot (zq37 c) fun r => Cur (k + 1000) r.2 ∧ Bd r.1 := anyNetwork_ok h hk
def DT (t : Timetable) : Prop := Bd t.Network ∧ t.Trips.length ≤ 30
theorem DT.tb {t : Timetable} (h : DT t) : TB t := ⟨h.1, by have := h.2; omega⟩
theorem timetable_ok {k : Nat} {c : l1Cur} (h : Cur k c) (hk : k ≤ 100000000) : Tot (zq51 c) fun r => Cur (k + 400) r.2 ∧ DT r.1 ∧ NB r.1.Network ∧ r.1.Trips.length ≤ 8 := by
 unfold zq51
 refine .call (networkT_ok h (by omega)) fun r ⟨hc, hn⟩ => .call (pick_ok 8 hc (by omega)) fun r1 ⟨hc1, h0, h1⟩ => ?_
 refine .call (P := fun o => Cur (k + 400) ⟨o.1, o.2.1, ⟨o.2.2.1⟩⟩ ∧ o.2.2.2.length ≤ 8) ?_ fun o ⟨ho1, ho2⟩ => .ok ⟨ho1, ⟨hn.bd, by show o.2.2.2.length ≤ 30; omega⟩, hn, ho2⟩
 refine .iter (fun m s => s.2.1 = (m : Int) ∧ m + s.2.2.2.2.2.length ≤ 8 ∧ Cur (k + 302 + 6 * (8 - m)) ⟨s.2.2.1, s.2.2.2.1, ⟨s.2.2.2.2.1⟩⟩) (n := r1.1.toNat) ⟨by show r1.1 = _; omega, by show r1.1.toNat + 0 ≤ 8; omega, hc1.mono (by omega)⟩ ?_
 rintro m ⟨n, v, v1, v2, v3, v4⟩ ⟨hv, hl, hcur⟩
 simp only at hv hl hcur
 subst hv
 unfold zq51_L1
 refine .iteP (fun hc => ?_) (fun hc => .dn ⟨hcur.mono (by omega), by show v4.length ≤ 8; omega⟩)
 refine .call (pick_ok 3 hcur (by omega)) fun r2 ⟨hc2, _⟩ => .call (pick_ok _ hc2 (by omega)) fun r5 ⟨hc5, _⟩ => .call (pick_ok 24 hc5 (by omega)) fun r6 ⟨hc6, _⟩ => .chk (by simp; omega) (.nx ⟨m - 1, by omega, ?_, ?_, ?_⟩)
 ·show w64 ((m : Int) - 1) = _; rw [w64_id (by omega)]; omega
 ·show m - 1 + (v4 ++ [_]).length ≤ 8; simp; omega
 ·exact hc6.mono (by omega)
theorem anyTimetable_ok {k : Nat} {c : l1Cur} (h : Cur k c) (hk : k ≤ 50000000) : Tot (zq38 c) fun r => Cur (k + 2000) r.2 ∧ DT r.1 := by
 unfold zq38
 refine .call (timetable_ok h (by omega)) fun r ⟨hc, hd, hn, hl⟩ => ?_
 refine .ite (fun _ => .ok ⟨hc.mono (by omega), hd⟩) fun he => ?_
 have hpos : 0 < r.1.Trips.length := by
  have : (r.1.Trips.length : Int) ≠ 0 := by simpa using he
  omega
 refine .call (pick_ok _ hc (by omega)) fun r1 ⟨hc1, h10, h11⟩ => ?_
 have h12 : r1.1 < (r.1.Trips.length : Int) := by omega
 refine .idx h10 h12 fun e _ => ?_
 have fin : ∀ (v : List UInt8) (v1 v2 : Int) (v3 : List Line) (v4 v5 v6 : Int) (v7 : List ByteArray), Cur (k + 2000) ⟨v, v1, ⟨v2⟩⟩ → Bd ⟨v7, v3⟩ → Tot ((idx r.1.Trips r1.1).bind fun e2 => some ((⟨(⟨v7, v3⟩ : Network), (r.1.Trips.set r1.1.toNat (⟨v4, v5, v6⟩ : Trip))⟩ : Timetable), (⟨v, v1, (⟨v2⟩ : IK .u64)⟩ : l1Cur))) fun r => Cur (k + 2000) r.2 ∧ DT r.1 := fun v v1 v2 v3 v4 v5 v6 v7 q1 q2 =>
  .idx h10 h12 fun e2 _ => .ok ⟨q1, q2, by show (r.1.Trips.set _ _).length ≤ 30; rw [List.length_set]; omega⟩
 refine .flb (.call (pick_ok 24 hc1 (by omega)) fun r2 ⟨hc2, _⟩ => ?_)
 refine .ite (fun _ => .call (among_ok _ (by simp) hc2 (by omega)) fun r3 ⟨hc3, _⟩ => .go (fin _ _ _ _ _ _ _ _ (hc3.mono (by omega)) hd.1)) fun _ => ?_
 refine .ite (fun _ => .call (pick_ok 7 hc2 (by omega)) fun r3 ⟨hc3, _⟩ => .go (fin _ _ _ _ _ _ _ _ (hc3.mono (by omega)) hd.1)) fun _ => ?_
 refine .ite (fun _ => .call (among_ok _ (by simp) hc2 (by omega)) fun r3 ⟨hc3, _⟩ => .go (fin _ _ _ _ _ _ _ _ (hc3.mono (by omega)) hd.1)) fun _ => ?_
 refine .ite (fun _ => .call (anyNet_ok hc2 (by omega)) fun r3 ⟨hc3, hb⟩ => .go (fin _ _ _ _ _ _ _ _ (hc3.mono (by omega)) hb)) fun _ => ?_
 refine .ite (fun _ => ?_) fun _ => .go (fin _ _ _ _ _ _ _ _ (hc2.mono (by omega)) hd.1)
 refine .call (P := fun o => Cur (k + 2000) ⟨o.1, o.2.1, ⟨o.2.2.1⟩⟩ ∧ o.2.2.2.length ≤ 30) ?_ fun o ⟨ho1, ho2⟩ => .ret ⟨ho1, hd.1, ho2⟩
 refine .iter (fun m s => ∃ i : Nat, s.1 = (i : Int) ∧ m + i = 14 ∧ s.2.2.2.2.length ≤ 8 + i ∧ Cur (k + 500 + 2 * i) ⟨s.2.1, s.2.2.1, ⟨s.2.2.2.1⟩⟩) (n := 14) ⟨0, rfl, rfl, by simpa using hl, hc2.mono (by omega)⟩ ?_
 rintro m ⟨v8, v9, v10, v11, v12⟩ ⟨i, hv, hm, hl12, hcur⟩
 simp only at hv hl12 hcur
 subst hv
 unfold zq38_L1
 refine .call (pick_ok 2 hcur (by omega)) fun r8 ⟨hc8, _⟩ => ?_
 refine .call (P := fun b => b = true → i < 14) (.ite (fun _ => .ok fun hb => by simp at hb; omega) fun _ => .ok fun hb => by cases hb) fun b hb => ?_
 refine .ite (fun ht => .chk (by simp; omega) (.nx ⟨m - 1, by have := hb ht; omega, i + 1, w64_succ (by omega), by have := hb ht; omega, ?_, hc8.mono (by omega)⟩)) (fun _ => .dn ⟨hc8.mono (by omega), by show v12.length ≤ 30; omega⟩)
 show (v12 ++ [_]).length ≤ 8 + (i + 1); simp; omega
theorem trips_ok {k : Nat} {c : l1Cur} (h : Cur k c) (hk : k ≤ 40000000) : Tot (zq52 c) fun r => Cur (k + 3000) r.2 ∧ DT r.1 := by
 unfold zq52
 refine .call (one_ok 16 h (by omega)) fun r hc => ?_
 refine .ite (fun _ => .call (anyTimetable_ok hc (by omega)) fun r1 ⟨hc1, hd⟩ => .ok ⟨hc1.mono (by omega), hd⟩) fun _ => ?_
 refine .call (networkT_ok hc (by omega)) fun r2 ⟨hc2, hn⟩ => .call (pick_ok 6 hc2 (by omega)) fun r3 ⟨hc3, h30, h31⟩ => ?_
 refine .call (P := fun o => Cur (k + 3000) ⟨o.1, o.2.1, ⟨o.2.2.1⟩⟩ ∧ o.2.2.2.length ≤ 10) ?_ fun o ⟨ho1, ho2⟩ => ?_
 ·refine .iter (fun m s => s.1 = (m : Int) ∧ m + s.2.2.2.2.length ≤ 10 ∧ Cur (k + 310 + 6 * (10 - m)) ⟨s.2.1, s.2.2.1, ⟨s.2.2.2.1⟩⟩) (n := 3 + r3.1.toNat) ⟨by show w64 (3 + r3.1) = _; rw [w64_id (by omega)]; omega, by show 3 + r3.1.toNat + 0 ≤ 10; omega, hc3.mono (by omega)⟩ ?_
  rintro m ⟨i, v, v1, v2, v3⟩ ⟨hv, hl, hcur⟩
  simp only at hv hl hcur
  subst hv
  unfold zq52_L1
  refine .iteP (fun hc => ?_) (fun hc => .dn ⟨hcur.mono (by omega), by show v3.length ≤ 10; omega⟩)
  refine .call (pick_ok 2 hcur (by omega)) fun r7 ⟨hc7, _⟩ => .call (pick_ok _ hc7 (by omega)) fun r8 ⟨hc8, _⟩ => .call (pick_ok 16 hc8 (by omega)) fun r9 ⟨hc9, _⟩ => .chk (by simp; omega) (.nx ⟨m - 1, by omega, ?_, ?_, ?_⟩)
  ·show w64 ((m : Int) - 1) = _; rw [w64_id (by omega)]; omega
  ·show m - 1 + (v3 ++ [_]).length ≤ 10; simp; omega
  ·exact hc9.mono (by omega)
 ·refine .call (P := fun l => l.length ≤ 10) ?_ fun l hl => .ok ⟨ho1, hn.bd, by show l.length ≤ 30; omega⟩
  refine .iter (fun m s => ∃ i : Nat, s.1 = (i : Int) ∧ 1 ≤ i ∧ m + i = 11 ∧ s.2.length ≤ 10) (n := 10) ⟨1, rfl, by omega, by omega, ho2⟩ ?_
  rintro m ⟨x, v8⟩ ⟨i, hx, h1, hm, hl⟩
  simp only at hx hl
  subst hx
  unfold zq52_L2
  refine .iteP (fun hc => ?_) (fun hc => .dn hl)
  have e1 : w64 ((i : Int) - 1) = (i : Int) - 1 := w64_id (by omega)
  refine .idx (by omega) hc fun e _ => ?_
  rw [e1]
  refine .idx (by omega) (by omega) fun e2 _ => ?_
  refine .call (P := fun _ => True) ?_ fun r11 _ => .idx (by omega) hc fun e3 _ => .nx ⟨m - 1, by omega, i + 1, w64_succ (by omega), by omega, by omega, by show (v8.set _ _).length ≤ 10; rw [List.length_set]; exact hl⟩
  unfold zq54
  exact .ite (fun _ => .ok trivial) fun _ => .ok trivial
theorem t_pick {k : Nat} {c : l1Cur} (n : Int) (h : Cur k c) (hk : k ≤ 3000000000) : Tot (zq48 c n) fun r => Cur (k + 2) r.2 ∧ 0 ≤ r.1 ∧ (r.1 < n ∨ r.1 = 0) := pick_ok n h hk
theorem t_one {k : Nat} {c : l1Cur} (n : Int) (h : Cur k c) (hk : k ≤ 3000000000) : Tot (zq47 c n) fun r => Cur (k + 2) r.2 := one_ok n h hk
theorem t_among {k : Nat} {c : l1Cur} (l : List Int) (hl : l ≠ []) (h : Cur k c) (hk : k ≤ 3000000000) : Tot (zq35 c l) fun r => Cur (k + 2) r.2 ∧ r.1 ∈ l := among_ok l hl h hk
theorem asked_eq {t : Timetable} (hb : TB t) (change : Int) : zq77 t change = some (decide (GoodT t ∧ 0 ≤ change ∧ change ≤ 30)) := by
 unfold zq77
 simp only [goodT_eq hb, l1In_eq, qb]
 by_cases h : GoodT t <;> simp [h]
theorem change_ok {k : Nat} {c : l1Cur} (h : Cur k c) (hk : k ≤ 1000000) : Tot (zq39 c) fun r => Cur (k + 2) r.2 := by
 unfold zq39
 exact .call (t_among _ (by simp) h (by omega)) fun r hr => .ok hr.1
def Chn (R : Nat → Int → Int → Int → Int → Prop) (ch : Int) : Nat → Int → Int → Int → Int → Prop
 | 0, _, _, _, _ => False
 | n + 1, a, w, c, s => ∃ (i : Nat) (d b r : Int), R i a d b r ∧ w ≤ d ∧ ((n = 0 ∧ b = c ∧ r = s) ∨ Chn R ch n b (r + ch) c s)
def LegsOK (R : Nat → Int → Int → Int → Int → Prop) (N : Int) : Prop :=
 (∀ i a d b r, R i a d b r → (0 ≤ a ∧ a < N) ∧ (0 ≤ b ∧ b < N) ∧ 0 ≤ d ∧ d < r ∧ r ≤ 1799) ∧ (∀ i a d b r a' d' b' r', R i a d b r → R i a' d' b' r' → r ≤ d' → R i a d b' r') ∧ ∀ i a d b r d' r', R i a d b r → R i a d' b r' → d = d' ∧ r = r'
theorem chn_w {R : Nat → Int → Int → Int → Int → Prop} {ch : Int} {n : Nat} {a w w' c s : Int} (h : Chn R ch n a w c s) (hw : w' ≤ w) : Chn R ch n a w' c s := by
 cases n with
 | zero => exact h.elim
 | succ n =>
  obtain ⟨i, d, b, r, h1, h2, h3⟩ := h
  exact ⟨i, d, b, r, h1, by omega, h3⟩
theorem chn_one {R : Nat → Int → Int → Int → Int → Prop} {ch : Int} {i : Nat} {a d b r w : Int} (h : R i a d b r) (hw : w ≤ d) : Chn R ch 1 a w b r := ⟨i, d, b, r, h, hw, .inl ⟨rfl, rfl, rfl⟩⟩
theorem chn_cons {R : Nat → Int → Int → Int → Int → Prop} {ch : Int} {n i : Nat} {a d b r w c s : Int} (h : R i a d b r) (hw : w ≤ d) (h2 : Chn R ch n b (r + ch) c s) : Chn R ch (n + 1) a w c s := ⟨i, d, b, r, h, hw, .inr h2⟩
theorem chn_app {R : Nat → Int → Int → Int → Int → Prop} {ch : Int} : ∀ {n m : Nat} {a w b r c s : Int}, Chn R ch n a w b r → Chn R ch m b (r + ch) c s → Chn R ch (n + m) a w c s
 | 0, _, _, _, _, _, _, _, h, _ => h.elim
 | n + 1, m, a, w, b, r, c, s, ⟨i, d, b', r', h1, h2, h3⟩, h => by
  rw [show n + 1 + m = (n + m) + 1 by omega]
  rcases h3 with ⟨rfl, rfl, rfl⟩ | h3
  ·rw [show 0 + m = m by omega]; exact chn_cons h1 h2 h
  ·exact chn_cons h1 h2 (chn_app h3 h)
theorem chn_snoc {R : Nat → Int → Int → Int → Int → Prop} {ch : Int} {n i : Nat} {a w b r d c s : Int} (h : Chn R ch n a w b r) (h2 : R i b d c s) (hd : r + ch ≤ d) : Chn R ch (n + 1) a w c s := chn_app h (chn_one h2 hd)
theorem chn_last {R : Nat → Int → Int → Int → Int → Prop} {ch : Int} : ∀ {n : Nat} {a w c s : Int}, Chn R ch (n + 1) a w c s → (n = 0 ∧ ∃ (i : Nat) (d : Int), R i a d c s ∧ w ≤ d) ∨ ∃ (i : Nat) (b r d : Int), Chn R ch n a w b r ∧ R i b d c s ∧ r + ch ≤ d
 | 0, a, w, c, s, ⟨i, d, b, r, h1, h2, h3⟩ => by
  rcases h3 with ⟨_, rfl, rfl⟩ | h3
  ·exact .inl ⟨rfl, i, d, h1, h2⟩
  ·exact h3.elim
 | n + 1, a, w, c, s, ⟨i, d, b, r, h1, h2, h3⟩ => by
  rcases h3 with ⟨h0, _⟩ | h3
  ·omega
  right
  rcases chn_last h3 with ⟨rfl, i', d', h4, h5⟩ | ⟨i', b', r', d', h4, h5, h6⟩
  ·exact ⟨i', b, r, d', chn_one h1 h2, h4, h5⟩
  ·exact ⟨i', b', r', d', chn_cons h1 h2 h4, h5, h6⟩
theorem chn_lt {R : Nat → Int → Int → Int → Int → Prop} {ch N : Int} (hR : LegsOK R N) (hc : 0 ≤ ch) : ∀ {n : Nat} {a w c s : Int}, Chn R ch n a w c s → w < s ∧ s ≤ 1799 ∧ 0 ≤ s ∧ (0 ≤ a ∧ a < N) ∧ 0 ≤ c ∧ c < N
 | 0, _, _, _, _, h => h.elim
 | n + 1, a, w, c, s, ⟨i, d, b, r, h1, h2, h3⟩ => by
  have := hR.1 _ _ _ _ _ h1
  rcases h3 with ⟨_, rfl, rfl⟩ | h3
  ·omega
  ·have := chn_lt hR hc h3
   omega
def MinA (R : Nat → Int → Int → Int → Int → Prop) (ch : Int) (n : Nat) (a w c s : Int) : Prop := (∃ k, k ≤ n ∧ Chn R ch k a w c s) ∧ ∀ k τ, k ≤ n → Chn R ch k a w c τ → s ≤ τ
def NoA (R : Nat → Int → Int → Int → Int → Prop) (ch : Int) (n : Nat) (a w c : Int) : Prop := ∀ k τ, k ≤ n → ¬ Chn R ch k a w c τ
def AB (R : Nat → Int → Int → Int → Int → Prop) (ch : Int) (n : Nat) (a w c s : Int) : Prop := (s = 1073741824 ∧ NoA R ch n a w c) ∨ MinA R ch n a w c s
theorem ab_uniq {R : Nat → Int → Int → Int → Int → Prop} {ch : Int} {n : Nat} {a w c s s' : Int} (h : AB R ch n a w c s) (h' : AB R ch n a w c s') : s = s' := by
 rcases h with ⟨h1, h2⟩ | ⟨⟨k, h1, h2⟩, h3⟩ <;> rcases h' with ⟨g1, g2⟩ | ⟨⟨k', g1, g2⟩, g3⟩
 ·omega
 ·exact absurd g2 (h2 _ _ g1)
 ·exact absurd h2 (g2 _ _ h1)
 ·have := h3 _ _ g1 g2; have := g3 _ _ h1 h2; omega
theorem ab_lt {R : Nat → Int → Int → Int → Int → Prop} {ch N : Int} (hR : LegsOK R N) (hc : 0 ≤ ch) {n : Nat} {a w c s : Int} (h : AB R ch n a w c s) : s = 1073741824 ∨ (w < s ∧ s ≤ 1799 ∧ 0 ≤ s) := by
 rcases h with ⟨h1, _⟩ | ⟨⟨k, h1, h2⟩, h3⟩
 ·exact .inl h1
 ·have := chn_lt hR hc h2; exact .inr ⟨this.1, this.2.1, this.2.2.1⟩
def RideP (R : Nat → Int → Int → Int → Int → Prop) (N : Int) (rd out : Int → Int) : Prop := ∀ s, 0 ≤ s → s < N → (out s = 1073741824 ∧ ∀ i u d r, R i u d s r → ¬ rd u ≤ d) ∨ ((∃ (i : Nat) (u d : Int), R i u d s (out s) ∧ rd u ≤ d) ∧ ∀ i u d r, R i u d s r → rd u ≤ d → out s ≤ r)
def ArrI (R : Nat → Int → Int → Int → Int → Prop) (ch N : Int) (n : Nat) (a w : Int) (best rd : Int → Int) : Prop := (∀ s, 0 ≤ s → s < N → AB R ch n a w s (best s)) ∧
 ∀ s, 0 ≤ s → s < N → (n = 0 ∧ rd s = if s = a then w else 1073741824) ∨ (0 < n ∧ ((rd s = 1073741824 ∧ AB R ch (n - 1) a w s (best s)) ∨ (rd s = best s + ch ∧ Chn R ch n a w s (best s))))
theorem arr_zero {R : Nat → Int → Int → Int → Int → Prop} {ch N : Int} {a w : Int} {best rd : Int → Int} (hb : ∀ s, 0 ≤ s → s < N → best s = 1073741824) (hr : ∀ s, 0 ≤ s → s < N → rd s = if s = a then w else 1073741824) : ArrI R ch N 0 a w best rd := by
 refine ⟨fun s h0 h1 => .inl ⟨hb s h0 h1, fun k τ hk h => ?_⟩, fun s h0 h1 => .inl ⟨rfl, hr s h0 h1⟩⟩
 have : k = 0 := by omega
 subst this
 exact h
theorem arr_step {R : Nat → Int → Int → Int → Int → Prop} {ch N : Int} (hR : LegsOK R N) (hc : 0 ≤ ch) {n : Nat} {a w : Int} (ha : 0 ≤ a ∧ a < N) {best rd next best' rd' : Int → Int} (h : ArrI R ch N n a w best rd) (hn : RideP R N rd next)
  (hb' : ∀ s, 0 ≤ s → s < N → best' s = if next s < best s then next s else best s) (hr' : ∀ s, 0 ≤ s → s < N → rd' s = if next s < best s then next s + ch else 1073741824) : ArrI R ch N (n + 1) a w best' rd' := by
 obtain ⟨h1, h2⟩ := h
 -- what is ridden is a chain
 have snd : ∀ s, 0 ≤ s → s < N → next s = 1073741824 ∨ Chn R ch (n + 1) a w s (next s) := by
  intro s s0 s1
  rcases hn s s0 s1 with ⟨g, _⟩ | ⟨⟨i, u, d, g1, g2⟩, _⟩
  ·exact .inl g
  ·right
   have hl := hR.1 _ _ _ _ _ g1
   rcases h2 u hl.1.1 hl.1.2 with ⟨q1, q2⟩ | ⟨q1, ⟨q2, _⟩ | ⟨q2, q3⟩⟩
   ·subst q1
    by_cases hu : u = a
    ·subst hu
     rw [if_pos rfl] at q2
     exact chn_one g1 (by omega)
    ·rw [if_neg hu] at q2; omega
   ·omega
   ·exact chn_snoc q3 g1 (by omega)
 -- no chain is earlier
 have low : ∀ s, 0 ≤ s → s < N → ∀ k τ, k ≤ n + 1 → Chn R ch k a w s τ → best s ≤ τ ∨ next s ≤ τ := by
  intro s s0 s1 k τ hk hch
  have old : ∀ k', k' ≤ n → Chn R ch k' a w s τ → best s ≤ τ := by
   intro k' hk' hch'
   rcases h1 s s0 s1 with ⟨_, g⟩ | ⟨_, g⟩
   ·exact absurd hch' (g _ _ hk')
   ·exact g _ _ hk' hch'
  have new : ∀ i u d, R i u d s τ → rd u ≤ d → next s ≤ τ := by
   intro i u d g1 g2
   rcases hn s s0 s1 with ⟨_, g⟩ | ⟨_, g⟩
   ·exact absurd g2 (g _ _ _ _ g1)
   ·exact g _ _ _ _ g1 g2
  by_cases hkn : k ≤ n
  ·exact .inl (old k hkn hch)
  have : k = n + 1 := by omega
  subst this
  rcases chn_last hch with ⟨rfl, i, d, g1, g2⟩ | ⟨i, u, r, d, g1, g2, g3⟩
  ·right
   refine new i a d g1 ?_
   rcases h2 a ha.1 ha.2 with ⟨_, q2⟩ | ⟨q1, _⟩
   ·rw [q2, if_pos rfl]; exact g2
   ·omega
  ·have hl := hR.1 _ _ _ _ _ g2
   rcases h2 u hl.1.1 hl.1.2 with ⟨q1, _⟩ | ⟨q1, ⟨_, q2⟩ | ⟨q2, q3⟩⟩
   ·subst q1; exact g1.elim
   ·left
    rcases h1 u hl.1.1 hl.1.2 with ⟨_, g⟩ | ⟨_, g⟩
    ·exact absurd g1 (g _ _ (Nat.le_refl _))
    ·have hle := g _ _ (Nat.le_refl _) g1
     rcases q2 with ⟨e1, e2⟩ | ⟨⟨k', e1, e2⟩, _⟩
     ·have := chn_lt hR hc g1; omega
     ·exact old (k' + 1) (by omega) (chn_snoc e2 g2 (by omega))
   ·right
    refine new i u d g2 ?_
    rcases h1 u hl.1.1 hl.1.2 with ⟨_, g⟩ | ⟨_, g⟩
    ·exact absurd g1 (g _ _ (Nat.le_refl _))
    ·have hle := g _ _ (Nat.le_refl _) g1
     omega
 refine ⟨fun s s0 s1 => ?_, fun s s0 s1 => .inr ⟨by omega, ?_⟩⟩
 ·rw [hb' s s0 s1]
  have hl := low s s0 s1
  by_cases hlt : next s < best s
  ·rw [if_pos hlt]
   rcases snd s s0 s1 with e | e
   ·have := ab_lt hR hc (h1 s s0 s1); omega
   ·exact .inr ⟨⟨n + 1, Nat.le_refl _, e⟩, fun k τ hk hch => by have := hl k τ hk hch; omega⟩
  ·rw [if_neg hlt]
   rcases h1 s s0 s1 with ⟨e1, e2⟩ | ⟨⟨k, e1, e2⟩, e3⟩
   ·refine .inl ⟨e1, fun k τ hk hch => ?_⟩
    have := hl k τ hk hch
    have := chn_lt hR hc hch
    omega
   ·exact .inr ⟨⟨k, by omega, e2⟩, fun k τ hk hch => by have := hl k τ hk hch; omega⟩
 ·rw [hr' s s0 s1, hb' s s0 s1]
  by_cases hlt : next s < best s
  ·rw [if_pos hlt, if_pos hlt]
   rcases snd s s0 s1 with e | e
   ·have := ab_lt hR hc (h1 s s0 s1); omega
   ·exact .inr ⟨rfl, e⟩
  ·rw [if_neg hlt, if_neg hlt]
   exact .inl ⟨rfl, h1 s s0 s1⟩
def SAB (R : Nat → Int → Int → Int → Int → Prop) (ch N : Int) (n : Nat) (a w : Int) (best : Int → Int) : Prop := best a = w ∧ ∀ s, 0 ≤ s → s < N → s ≠ a → (best s = -1 ∧ NoA R ch n a w s) ∨ MinA R ch n a w s (best s)
def SRd (ch a w : Int) (n : Nat) (best : Int → Int) (u d : Int) : Prop := 0 ≤ best u ∧ (if u = a then w else best u + (if n = 0 then 0 else ch)) ≤ d
def SNext (R : Nat → Int → Int → Int → Int → Prop) (ch N a w : Int) (n : Nat) (best next : Int → Int) : Prop := ∀ s, 0 ≤ s → s < N → (next s = -1 ∧ best s = -1 ∧ ∀ i u d r, R i u d s r → ¬ SRd ch a w n best u d) ∨
 (0 ≤ next s ∧ (next s = best s ∨ ∃ (i : Nat) (u d : Int), R i u d s (next s) ∧ SRd ch a w n best u d) ∧ (0 ≤ best s → next s ≤ best s) ∧ ∀ i u d r, R i u d s r → SRd ch a w n best u d → next s ≤ r)
theorem sab_zero {R : Nat → Int → Int → Int → Int → Prop} {ch N : Int} {a w : Int} {best : Int → Int} (h : ∀ s, 0 ≤ s → s < N → best s = if s = a then w else -1) (ha : 0 ≤ a ∧ a < N) : SAB R ch N 0 a w best := by
 refine ⟨by rw [h a ha.1 ha.2, if_pos rfl], fun s s0 s1 hs => .inl ⟨by rw [h s s0 s1, if_neg hs], fun k τ hk h => ?_⟩⟩
 have : k = 0 := by omega
 subst this
 exact h
theorem sab_rng {R : Nat → Int → Int → Int → Int → Prop} {ch N : Int} (hR : LegsOK R N) (hc : 0 ≤ ch) {n : Nat} {a w : Int} {best : Int → Int} (h : SAB R ch N n a w best) {s : Int} (s0 : 0 ≤ s) (s1 : s < N) : best s = -1 ∨ (w ≤ best s ∧ (best s = w ∨ best s ≤ 1799)) := by
 by_cases hs : s = a
 ·subst hs; have := h.1; omega
 ·rcases h.2 s s0 s1 hs with ⟨e, _⟩ | ⟨⟨k, e1, e2⟩, _⟩
  ·exact .inl e
  ·have := chn_lt hR hc e2; omega
theorem sab_step {R : Nat → Int → Int → Int → Int → Prop} {ch N : Int} (hR : LegsOK R N) (hc : 0 ≤ ch) {n : Nat} {a w : Int} (ha : 0 ≤ a ∧ a < N) (hw : 0 ≤ w) {best next : Int → Int} (h : SAB R ch N n a w best) (hn : SNext R ch N a w n best next) : SAB R ch N (n + 1) a w next := by
 obtain ⟨h1, h2⟩ := h
 have snd : ∀ i u d s r, R i u d s r → SRd ch a w n best u d → ∃ k, k ≤ n + 1 ∧ Chn R ch k a w s r := by
  intro i u d s r g1 ⟨g2, g3⟩
  have hl := hR.1 _ _ _ _ _ g1
  by_cases hu : u = a
  ·subst hu
   rw [if_pos rfl] at g3
   exact ⟨1, by omega, chn_one g1 g3⟩
  ·rw [if_neg hu] at g3
   rcases h2 u hl.1.1 hl.1.2 hu with ⟨e, _⟩ | ⟨⟨k, e1, e2⟩, _⟩
   ·omega
   ·by_cases hn0 : n = 0
    ·subst hn0
     have : k = 0 := by omega
     subst this
     exact e2.elim
    ·rw [if_neg hn0] at g3
     exact ⟨k + 1, by omega, chn_snoc e2 g1 g3⟩
 have cpl : ∀ k s τ, k ≤ n + 1 → Chn R ch k a w s τ → ∃ (i : Nat) (u d : Int), R i u d s τ ∧ SRd ch a w n best u d := by
  intro k s τ hk hch
  cases k with
  | zero => exact hch.elim
  | succ k =>
   rcases chn_last hch with ⟨rfl, i, d, g1, g2⟩ | ⟨i, u, r, d, g1, g2, g3⟩
   ·exact ⟨i, a, d, g1, by rw [h1]; exact hw, by rw [if_pos rfl]; exact g2⟩
   ·have hl := hR.1 _ _ _ _ _ g2
    have hlt := chn_lt hR hc g1
    refine ⟨i, u, d, g2, ?_⟩
    by_cases hu : u = a
    ·subst hu
     exact ⟨by rw [h1]; exact hw, by rw [if_pos rfl]; omega⟩
    ·have hn0 : n ≠ 0 := fun e => by
      have : k = 0 := by omega
      subst this; exact g1.elim
     rcases h2 u hl.1.1 hl.1.2 hu with ⟨_, e⟩ | ⟨⟨k', e1, e2⟩, e3⟩
     ·exact absurd g1 (e _ _ (by omega))
     ·have := e3 _ _ (by omega) g1
      have := chn_lt hR hc e2
      exact ⟨by omega, by rw [if_neg hu, if_neg hn0]; omega⟩
 refine ⟨?_, fun s s0 s1 hs => ?_⟩
 ·rcases hn a ha.1 ha.2 with ⟨e1, e2, _⟩ | ⟨e1, e2, e3, e4⟩
  ·omega
  ·rcases e2 with e2 | ⟨i, u, d, g1, g2⟩
   ·omega
   ·obtain ⟨k, k1, k2⟩ := snd i u d a _ g1 g2
    have := chn_lt hR hc k2
    have := e3 (by omega)
    omega
 ·rcases hn s s0 s1 with ⟨e1, e2, e3⟩ | ⟨e1, e2, e3, e4⟩
  ·refine .inl ⟨e1, fun k τ hk hch => ?_⟩
   obtain ⟨i, u, d, g1, g2⟩ := cpl k s τ hk hch
   exact e3 _ _ _ _ g1 g2
  ·right
   refine ⟨?_, fun k τ hk hch => ?_⟩
   ·rcases e2 with e2 | ⟨i, u, d, g1, g2⟩
    ·rw [e2]
     rcases h2 s s0 s1 hs with ⟨e, _⟩ | ⟨⟨k, k1, k2⟩, _⟩
     ·omega
     ·exact ⟨k, by omega, k2⟩
    ·exact snd i u d s _ g1 g2
   ·obtain ⟨i, u, d, g1, g2⟩ := cpl k s τ hk hch
    exact e4 _ _ _ _ g1 g2
theorem sab_ab {R : Nat → Int → Int → Int → Int → Prop} {ch N : Int} (hR : LegsOK R N) (hc : 0 ≤ ch) {n : Nat} {a w : Int} {best : Int → Int} (h : SAB R ch N n a w best) {s b : Int} (s0 : 0 ≤ s) (s1 : s < N) (hs : s ≠ a) (hb : AB R ch n a w s b) : best s = if b = 1073741824 then -1 else b := by
 rcases h.2 s s0 s1 hs with ⟨e1, e2⟩ | ⟨⟨k, e1, e2⟩, e3⟩ <;> rcases hb with ⟨g1, g2⟩ | ⟨⟨k', g1, g2⟩, g3⟩
 ·rw [if_pos g1]; exact e1
 ·exact absurd g2 (e2 _ _ g1)
 ·exact absurd e2 (g2 _ _ e1)
 ·have := e3 _ _ g1 g2
  have := g3 _ _ e1 e2
  have := chn_lt hR hc g2
  rw [if_neg (by have := g3 _ _ g1 g2; omega)]
  omega
def gv (l : List Int) (s : Int) : Int := l.getD s.toNat 0
theorem gv_idx {l : List Int} {s : Int} (h0 : 0 ≤ s) (h1 : s < l.length) : idx l s = some (gv l s) := by
 obtain ⟨x, hx, h2, _⟩ := idx_lt h0 h1
 rw [hx]; unfold gv; rw [List.getD_eq_getElem?_getD, h2]; rfl
theorem gv_set {l : List Int} {s : Int} (h0 : 0 ≤ s) (h1 : s < l.length) (x u : Int) (hu : 0 ≤ u) : gv (l.set s.toNat x) u = if u = s then x else gv l u := by
 unfold gv
 rw [List.getD_eq_getElem?_getD, List.getD_eq_getElem?_getD]
 by_cases h : u = s
 ·subst h; rw [if_pos rfl, List.getElem?_set_self (by omega)]; rfl
 ·rw [if_neg h, List.getElem?_set_ne (by omega)]
theorem gv_rep {n : Nat} {c s : Int} (h0 : 0 ≤ s) (h1 : s < n) : gv (List.replicate n c) s = c := by
 unfold gv; rw [List.getD_eq_getElem?_getD, List.getElem?_replicate, if_pos (by omega)]; rfl
def LR (t : Timetable) (i : Nat) (a d b r : Int) : Prop := ∃ (x : Trip) (l : Line) (p q : Nat), t.Trips[i]? = some x ∧ idx t.Network.Lines x.Line = some l ∧ p < q ∧ l.Stops[p]? = some a ∧ l.Stops[q]? = some b ∧ d = x.Start + (l.Runs.take p).sum ∧ r = x.Start + (l.Runs.take q).sum
theorem runs_lt {st : Nat} {l : Line} (hp : LineP st l) : ∀ {p q : Nat}, p < q → q ≤ l.Runs.length → (l.Runs.take p).sum < (l.Runs.take q).sum := by
 obtain ⟨⟨r1, r2, r3⟩, r4⟩ := line_runs hp
 intro p q
 induction q with
 | zero => omega
 | succ q ih =>
  intro h1 h2
  obtain ⟨e, he⟩ := get_ex (l := l.Runs) (i := q) (by omega)
  have := r4 e (List.mem_of_getElem? he)
  rw [sum_take_succ he]
  by_cases hpq : p = q
  ·subst hpq; omega
  ·have := ih (by omega) (by omega); omega
theorem runs_le {st : Nat} {l : Line} (hp : LineP st l) {p q : Nat} (h : p ≤ q) (h2 : q ≤ l.Runs.length) : (l.Runs.take p).sum ≤ (l.Runs.take q).sum := by
 by_cases h3 : p = q
 ·subst h3; omega
 ·have := runs_lt hp (p := p) (q := q) (by omega) h2; omega
theorem stop_uniq {st : Nat} {l : Line} (hp : LineP st l) {p q : Nat} {s : Int} (h : l.Stops[p]? = some s) (h2 : l.Stops[q]? = some s) : p = q := by
 have := (hp.2.2.1 p s h).2
 have := (hp.2.2.1 q s h2).2
 omega
theorem lr_ok {t : Timetable} (hT : GoodT t) : LegsOK (LR t) (t.Network.Stops.length : Int) := by
 refine ⟨?_, ?_, ?_⟩
 ·rintro i a d b r ⟨x, l, p, q, hx, hl, hpq, hp, hq, rfl, rfl⟩
  obtain ⟨l', hl', hP, _, hs, he⟩ := trip_line hT hx
  rw [hl] at hl'; cases hl'
  obtain ⟨⟨r1, r2, r3⟩, _⟩ := line_runs hP
  have := line_stop hP hp
  have := line_stop hP hq
  have := get_lt hq
  have h1 := runs_lt hP hpq (by omega)
  have h2 := runs_le hP (p := q) (q := l.Runs.length) (by omega) (Nat.le_refl _)
  have h3 := runs_sum hP p
  rw [List.take_length] at h2
  omega
 ·rintro i a d b r a' d' b' r' ⟨x, l, p, q, hx, hl, hpq, hp, hq, rfl, rfl⟩ ⟨x', l', p', q', hx', hl', hpq', hp', hq', rfl, rfl⟩ hle
  rw [hx] at hx'; cases hx'
  rw [hl] at hl'; cases hl'
  obtain ⟨l', hl', hP, _⟩ := trip_line hT hx
  rw [hl] at hl'; cases hl'
  obtain ⟨⟨r1, r2, r3⟩, _⟩ := line_runs hP
  have := get_lt hq
  have : q ≤ p' := by
   rcases Nat.lt_or_ge p' q with h | h
   ·have := runs_lt hP h (by omega); omega
   ·exact h
  exact ⟨x, l, p, q', hx, hl, by omega, hp, hq', rfl, rfl⟩
 ·rintro i a d b r d' r' ⟨x, l, p, q, hx, hl, hpq, hp, hq, rfl, rfl⟩ ⟨x', l', p', q', hx', hl', hpq', hp', hq', rfl, rfl⟩
  rw [hx] at hx'; cases hx'
  rw [hl] at hl'; cases hl'
  obtain ⟨l', hl', hP, _⟩ := trip_line hT hx
  rw [hl] at hl'; cases hl'
  have := stop_uniq hP hp hp'
  have := stop_uniq hP hq hq'
  subst_vars
  exact ⟨rfl, rfl⟩
theorem fillc {N : Nat} (c : Int) {step : Int × List Int → Option (Lp (Int × List Int) (List Int))} (hstep : ∀ (v : Nat) (a : List Int) (y : Int), a.length = N → a[v]? = some y → v < N → step ((v : Int), a) = some (.nx (((v + 1 : Nat) : Int), a.set v c)))
  (hend : ∀ a, a.length = N → step ((N : Int), a) = some (.dn a)) (l0 : List Int) (h0 : l0.length = N) : iter step (0, l0) = some (List.replicate N c) := by
 have h := fill_loop (fun _ : Int => c) (List.replicate N (0 : Int)) l0 (by simp [h0]) (step := step) (fun i a x y ha hy hx => by
  have := get_lt hx
  simp at this ha
  exact hstep i a y ha hy this) (fun a ha => by simp at ha ⊢; exact hend a ha)
 rw [h, List.map_replicate]
theorem readyAt_eq {t : Timetable} (hN : t.Network.Stops.length ≤ 1000) {stop : Int} (h0 : 0 ≤ stop ∧ stop < (t.Network.Stops.length : Int)) (at_ : Int) : zq24 t stop at_ = some ((List.replicate t.Network.Stops.length 1073741824).set stop.toNat at_) := by
 unfold zq24
 rw [chk_of (by omega), qb, fillc (N := t.Network.Stops.length) 1073741824 (fun v a y ha hy hv => ?_) (fun a ha => ?_) _ (by simp)]
 ·rw [qb, gv_idx h0.1 (by simp; omega)]; rfl
 ·exact Tot.val (by unfold zq24_L1; exact .iteP (fun _ => .eq (ixs hy) (.dn' (by rw [w64_succ (by omega)]; rfl))) (fun h => absurd (by simp; omega) h))
 ·exact Tot.val (by unfold zq24_L1; exact .iteP (fun h => absurd h (by simp; try omega)) (fun _ => .dn' rfl))
def RBj (t : Timetable) (i j : Nat) (k : Nat) (a d b r : Int) : Prop := ∃ (x : Trip) (l : Line) (p q : Nat), (k < i ∨ k = i ∧ q < j) ∧ t.Trips[k]? = some x ∧ idx t.Network.Lines x.Line = some l ∧ p < q ∧ l.Stops[p]? = some a ∧ l.Stops[q]? = some b ∧ d = x.Start + (l.Runs.take p).sum ∧ r = x.Start + (l.Runs.take q).sum
theorem rideP_congr {R R' : Nat → Int → Int → Int → Int → Prop} {N : Int} {rd out : Int → Int} (h : ∀ k a d b r, R k a d b r ↔ R' k a d b r) (hr : RideP R N rd out) : RideP R' N rd out := by
 have : R = R' := by funext k a d b r; exact propext (h k a d b r)
 rw [← this]; exact hr
theorem ride_in {t : Timetable} (hT : GoodT t) {ready : List Int} (hr : ready.length = t.Network.Stops.length) {i : Nat} {x : Trip} {l : Line} (hx : t.Trips[i]? = some x) (hl : idx t.Network.Lines x.Line = some l) (out : List Int) (ho : out.length = t.Network.Stops.length) (hR : RideP (RBj t i 0) (t.Network.Stops.length : Int) (gv ready) (gv out)) :
  Tot (iter (zq25_L2 ready (ST l x.Start) l) (false, (0 : Int), out)) fun o => o.length = t.Network.Stops.length ∧ RideP (RBj t (i + 1) 0) (t.Network.Stops.length : Int) (gv ready) (gv o) := by
 obtain ⟨l', hl', hP, _, hs, he⟩ := trip_line hT hx
 rw [hl] at hl'; cases hl'
 obtain ⟨⟨r1, r2, r3⟩, _⟩ := line_runs hP
 refine .iter (fun m s => ∃ j : Nat, s.2.1 = (j : Int) ∧ m + j = l.Stops.length ∧ s.2.2.length = t.Network.Stops.length ∧ RideP (RBj t i j) (t.Network.Stops.length : Int) (gv ready) (gv s.2.2) ∧
  (s.1 = true ↔ ∃ (p : Nat) (sp : Int), p < j ∧ l.Stops[p]? = some sp ∧ gv ready sp ≤ x.Start + (l.Runs.take p).sum)) (n := l.Stops.length) ⟨0, rfl, by omega, ho, hR, by simp⟩ ?_
 rintro m ⟨on, v, o⟩ ⟨j, hv, hm, hlen, hI, hon⟩
 dsimp only at hv hlen hI hon
 subst hv
 unfold zq25_L2
 dsimp only
 refine .iteP (fun hc => ?_) (fun hc => .dn ⟨hlen, rideP_congr (fun k a d b r => ?_) hI⟩)
 ·obtain ⟨s, hsj⟩ := get_ex (l := l.Stops) (i := j) (by omega)
  have hb := line_stop hP hsj
  have hT2 := ST_at (l := l) (s := x.Start) (k := j) (by omega)
  -- legs to other places, to this one
  have key : ∀ o' : List Int, o'.length = t.Network.Stops.length → (∀ u, 0 ≤ u → u ≠ s → gv o' u = gv o u) → (gv o' s = if on = true then (if x.Start + (l.Runs.take j).sum < gv o s then x.Start + (l.Runs.take j).sum else gv o s) else gv o s) → RideP (RBj t i (j + 1)) (t.Network.Stops.length : Int) (gv ready) (gv o') := by
   intro o' _ h1 h2 u u0 u1
   by_cases hu : u = s
   ·subst hu
    have toS : ∀ k a d r, RBj t i (j + 1) k a d u r → RBj t i j k a d u r ∨ (k = i ∧ r = x.Start + (l.Runs.take j).sum ∧ ∃ p, p < j ∧ l.Stops[p]? = some a ∧ d = x.Start + (l.Runs.take p).sum) := by
     rintro k a d r ⟨x', l', p, q, hk, hx', hl', hpq, hp, hq, rfl, rfl⟩
     rcases hk with hk | ⟨rfl, hk⟩
     ·exact .inl ⟨x', l', p, q, .inl hk, hx', hl', hpq, hp, hq, rfl, rfl⟩
     ·rw [hx] at hx'; cases hx'
      rw [hl] at hl'; cases hl'
      have := stop_uniq hP hq hsj
      subst this
      exact .inr ⟨rfl, rfl, p, hpq, hp, rfl⟩
    have frS : ∀ k a d r, RBj t i j k a d u r → RBj t i (j + 1) k a d u r := by
     rintro k a d r ⟨x', l', p, q, hk, h⟩
     exact ⟨x', l', p, q, by omega, h⟩
    rcases Bool.eq_false_or_eq_true on with ht | hf
    ·subst ht
     rw [if_pos rfl] at h2
     obtain ⟨p, sp, p1, p2, p3⟩ := hon.1 rfl
     have leg : RBj t i (j + 1) i sp (x.Start + (l.Runs.take p).sum) u (x.Start + (l.Runs.take j).sum) := ⟨x, l, p, j, .inr ⟨rfl, by omega⟩, hx, hl, p1, p2, hsj, rfl, rfl⟩
     have hTb := runs_sum hP j
     by_cases hlt : x.Start + (l.Runs.take j).sum < gv o u
     ·rw [if_pos hlt] at h2
      right
      rw [h2]
      refine ⟨⟨i, sp, _, leg, p3⟩, fun k a d r hr hd => ?_⟩
      rcases toS _ _ _ _ hr with h | ⟨_, h, _⟩
      ·rcases hI u u0 u1 with ⟨_, g⟩ | ⟨_, g⟩
       ·exact absurd hd (g _ _ _ _ h)
       ·have := g _ _ _ _ h hd; omega
      ·omega
     ·rw [if_neg hlt] at h2
      rcases hI u u0 u1 with ⟨g, _⟩ | ⟨⟨k, a, d, g1, g2⟩, g3⟩
      ·omega
      ·right
       rw [h2]
       refine ⟨⟨k, a, d, frS _ _ _ _ g1, g2⟩, fun k a d r hr hd => ?_⟩
       rcases toS _ _ _ _ hr with h | ⟨_, h, _⟩
       ·exact g3 _ _ _ _ h hd
       ·omega
    ·subst hf
     rw [if_neg (by simp)] at h2
     have nor : ∀ k a d r, RBj t i (j + 1) k a d u r → gv ready a ≤ d → RBj t i j k a d u r := by
      intro k a d r hr hd
      rcases toS _ _ _ _ hr with h | ⟨_, _, p, p1, p2, p3⟩
      ·exact h
      ·exact absurd (hon.2 ⟨p, a, p1, p2, by rw [← p3]; exact hd⟩) (by simp)
     rw [h2]
     rcases hI u u0 u1 with ⟨g, g'⟩ | ⟨⟨k, a, d, g1, g2⟩, g3⟩
     ·exact .inl ⟨g, fun k a d r hr hd => g' _ _ _ _ (nor _ _ _ _ hr hd) hd⟩
     ·exact .inr ⟨⟨k, a, d, frS _ _ _ _ g1, g2⟩, fun k a d r hr hd => g3 _ _ _ _ (nor _ _ _ _ hr hd) hd⟩
   ·have e : ∀ k a d r, RBj t i (j + 1) k a d u r ↔ RBj t i j k a d u r := by
     intro k a d r
     constructor
     ·rintro ⟨x', l', p, q, hk, hx', hl', hpq, hp, hq, h1, h2⟩
      refine ⟨x', l', p, q, ?_, hx', hl', hpq, hp, hq, h1, h2⟩
      rcases hk with hk | ⟨rfl, hk⟩
      ·exact .inl hk
      ·rw [hx] at hx'; cases hx'
       rw [hl] at hl'; cases hl'
       have : q ≠ j := fun e => by subst e; rw [hsj] at hq; cases hq; exact hu rfl
       exact .inr ⟨rfl, by omega⟩
     ·rintro ⟨x', l', p, q, hk, h⟩
      exact ⟨x', l', p, q, by omega, h⟩
    have h3 := h1 u u0 hu
    rw [h3]
    rcases hI u u0 u1 with ⟨g, g'⟩ | ⟨⟨k, a, d, g1, g2⟩, g3⟩
    ·exact .inl ⟨g, fun k a d r hr => g' _ _ _ _ ((e _ _ _ _).1 hr)⟩
    ·exact .inr ⟨⟨k, a, d, (e _ _ _ _).2 g1, g2⟩, fun k a d r hr => g3 _ _ _ _ ((e _ _ _ _).1 hr)⟩
  refine .eq (ixs hsj) (.call (P := fun o' => o'.length = t.Network.Stops.length ∧ RideP (RBj t i (j + 1)) (t.Network.Stops.length : Int) (gv ready) (gv o')) ?_ fun o' ⟨ho', hI'⟩ => ?_)
  ·refine .ite (fun h => ?_) fun h => .ok ⟨hlen, key o hlen (fun _ _ _ => rfl) (by rw [h]; rfl)⟩
   refine .eq (gv_idx hb.1 (by omega)) (.eq (ixs hT2) (.eq (gv_idx hb.1 (by omega)) (.ok ⟨by rw [List.length_set]; exact hlen, key _ (by rw [List.length_set]; exact hlen) (fun u u0 hu => by rw [gv_set hb.1 (by omega) _ _ u0, if_neg hu]) ?_⟩)))
   rw [gv_set hb.1 (by omega) _ _ hb.1, if_pos rfl, h, if_pos rfl]
  ·refine .ite (fun h => .nx ⟨m - 1, by omega, j + 1, w64_succ (by omega), by omega, ho', hI', ?_⟩) fun h => .eq (gv_idx hb.1 (by omega)) (.eq (ixs hT2) (.nx ⟨m - 1, by omega, j + 1, w64_succ (by omega), by omega, ho', hI', ?_⟩))
   ·obtain ⟨p, sp, p1, p2, p3⟩ := hon.1 h
    exact ⟨fun _ => ⟨p, sp, by omega, p2, p3⟩, fun _ => rfl⟩
   ·dsimp only
    rw [decide_eq_true_eq]
    constructor
    ·intro h3; exact ⟨j, s, by omega, hsj, h3⟩
    ·rintro ⟨p, sp, p1, p2, p3⟩
     by_cases hpj : p = j
     ·subst hpj; rw [hsj] at p2; cases p2; exact p3
     ·have := hon.2 ⟨p, sp, by omega, p2, p3⟩
      rw [h] at this; cases this
 ·constructor
  ·rintro ⟨x', l', p, q, hk, h⟩; exact ⟨x', l', p, q, by omega, h⟩
  ·rintro ⟨x', l', p, q, hk, hx', hl', hpq, hp, hq, h⟩
   refine ⟨x', l', p, q, ?_, hx', hl', hpq, hp, hq, h⟩
   by_cases hki : k < i
   ·exact .inl hki
   ·have hke : k = i := by omega
    subst hke
    rw [hx] at hx'; cases hx'
    rw [hl] at hl'; cases hl'
    have := get_lt hq
    exact .inr ⟨rfl, by omega⟩
theorem ride_ok {t : Timetable} (hT : GoodT t) {ready : List Int} (hr : ready.length = t.Network.Stops.length) : Tot (zq25 t ready) fun o => o.length = t.Network.Stops.length ∧ RideP (LR t) (t.Network.Stops.length : Int) (gv ready) (gv o) := by
 have h8 := hT.1.1
 have h12 := hT.2.1
 unfold zq25
 rw [chk_of (by omega), qb, hr, fillc (N := t.Network.Stops.length) 1073741824 (fun v a y ha hy hv => ?_) (fun a ha => ?_) _ (by simp), qb]
 ·refine .call (P := fun o => o.length = t.Network.Stops.length ∧ RideP (LR t) (t.Network.Stops.length : Int) (gv ready) (gv o)) ?_ fun o ho => .ok ho
  refine .iter (fun m s => ∃ i : Nat, s.1 = (i : Int) ∧ m + i = t.Trips.length ∧ s.2.length = t.Network.Stops.length ∧ RideP (RBj t i 0) (t.Network.Stops.length : Int) (gv ready) (gv s.2)) (n := t.Trips.length) ⟨0, rfl, by omega, by simp, fun s s0 s1 => .inl ⟨gv_rep s0 s1, ?_⟩⟩ ?_
  ·rintro k a d r ⟨x, l, p, q, hk, _⟩; omega
  rintro m ⟨v, o⟩ ⟨i, hv, hm, hlen, hI⟩
  dsimp only at hv hlen hI
  subst hv
  unfold zq25_L3
  dsimp only
  refine .iteP (fun hc => ?_) (fun hc => .dn ⟨hlen, rideP_congr (fun k a d b r => ?_) hI⟩)
  ·obtain ⟨x, hx⟩ := get_ex (l := t.Trips) (i := i) (by omega)
   obtain ⟨l, hl, hP, _, hs, he⟩ := trip_line hT hx
   refine .eq (ixs hx) (.eq (stopTimes_eq hl hP hs) (.eq (lineOf_eq hl) (.call (ride_in hT hr hx hl o hlen hI) fun o' ⟨g1, g2⟩ => .nx ⟨m - 1, by omega, i + 1, w64_succ (by omega), by omega, g1, g2⟩)))
  ·constructor
   ·rintro ⟨x', l', p, q, hk, h⟩; exact ⟨x', l', p, q, h⟩
   ·rintro ⟨x', l', p, q, hx', h⟩
    have := get_lt hx'
    exact ⟨x', l', p, q, .inl (by omega), hx', h⟩
 ·exact Tot.val (by unfold zq25_L1; exact .iteP (fun _ => .eq (ixs hy) (.dn' (by rw [w64_succ (by omega)]; rfl))) (fun h => absurd (by simp; omega) h))
 ·exact Tot.val (by unfold zq25_L1; exact .iteP (fun h => absurd h (by simp; try omega)) (fun _ => .dn' rfl))
theorem arr_ok {t : Timetable} (hT : GoodT t) {change : Int} (hc : 0 ≤ change ∧ change ≤ 30) {a w : Int} (ha : 0 ≤ a ∧ a < (t.Network.Stops.length : Int)) (n : Nat) (hn : n ≤ 1000) :
  Tot (zq10 t change ((List.replicate t.Network.Stops.length 1073741824).set a.toNat w) (n : Int)) fun o => o.length = t.Network.Stops.length ∧ ∀ s, 0 ≤ s → s < (t.Network.Stops.length : Int) → AB (LR t) change n a w s (gv o s) := by
 have h8 := hT.1.1
 have hR := lr_ok hT
 unfold zq10
 have hlen0 : ((List.replicate t.Network.Stops.length (1073741824 : Int)).set a.toNat w).length = t.Network.Stops.length := by simp
 rw [chk_of (by rw [hlen0]; omega), qb, hlen0, fillc (N := t.Network.Stops.length) 1073741824 (fun v a y ha hy hv => ?_) (fun a ha => ?_) _ (by simp), qb]
 ·refine .call (P := fun o => o.length = t.Network.Stops.length ∧ ∀ s, 0 ≤ s → s < (t.Network.Stops.length : Int) → AB (LR t) change n a w s (gv o s)) ?_ fun o ho => .ok ho
  refine .iter (fun m s => ∃ i : Nat, s.2.1 = (i : Int) ∧ m + i = n ∧ s.1.length = t.Network.Stops.length ∧ s.2.2.length = t.Network.Stops.length ∧ ArrI (LR t) change (t.Network.Stops.length : Int) i a w (gv s.2.2) (gv s.1)) (n := n) ⟨0, rfl, by omega, hlen0, by simp, ?_⟩ ?_
  ·exact arr_zero (fun s s0 s1 => gv_rep s0 s1) fun s s0 s1 => by rw [gv_set ha.1 (by simp; omega) _ _ s0, gv_rep s0 s1]
  rintro m ⟨rdy, v, bst⟩ ⟨i, hv, hm, g1, g2, hI⟩
  dsimp only at hv g1 g2 hI
  subst hv
  unfold zq10_L3
  dsimp only
  refine .iteP (fun hlt => ?_) (fun hge => .dn ⟨g2, by rw [show n = i by omega]; exact hI.1⟩)
  refine .call (ride_ok hT g1) fun nx ⟨n1, n2⟩ => .chk (by omega) ?_
  refine .call (P := fun o => o.1.length = t.Network.Stops.length ∧ o.2.length = t.Network.Stops.length ∧ ArrI (LR t) change (t.Network.Stops.length : Int) (i + 1) a w (gv o.2) (gv o.1)) ?_ fun ⟨r4, a5⟩ ⟨q1, q2, q3⟩ => .nx ⟨m - 1, by omega, i + 1, w64_succ (by omega), by omega, q1, q2, q3⟩
  refine .iter (fun m s => ∃ j : Nat, s.1 = (j : Int) ∧ m + j = t.Network.Stops.length ∧ s.2.1.length = t.Network.Stops.length ∧ s.2.2.length = t.Network.Stops.length ∧ (∀ u, 0 ≤ u → u < (t.Network.Stops.length : Int) → gv s.2.2 u = if u < j ∧ gv nx u < gv bst u then gv nx u else gv bst u) ∧
   ∀ u, 0 ≤ u → u < (j : Int) → gv s.2.1 u = if gv nx u < gv bst u then gv nx u + change else 1073741824) (n := t.Network.Stops.length) ⟨0, rfl, by omega, by simp [g2], g2, fun u u0 _ => by rw [if_neg (by omega)], fun u u0 h => by omega⟩ ?_
  rintro m' ⟨v, rd2, a3⟩ ⟨j, hv, hm', p1, p2, p3, p4⟩
  dsimp only at hv p1 p2 p3 p4
  subst hv
  unfold zq10_L2
  dsimp only
  refine .iteP (fun hlt2 => ?_) (fun hge2 => .dn ⟨p1, p2, arr_step hR hc.1 ha hI n2 (fun s s0 s1 => ?_) (fun s s0 s1 => ?_)⟩)
  ·have hj0 : (0 : Int) ≤ (j : Int) := by omega
   have hj1 : (j : Int) < (t.Network.Stops.length : Int) := by omega
   have e3 := p3 j hj0 hj1
   rw [if_neg (by omega)] at e3
   refine .eq (gv_idx hj0 (by omega)) (.eq (gv_idx hj0 (by omega)) (.eq (gv_idx hj0 (by omega)) ?_)) |> fun h => .call (P := fun o => o.1.length = t.Network.Stops.length ∧ o.2.length = t.Network.Stops.length ∧ (∀ u, 0 ≤ u → u < (t.Network.Stops.length : Int) → gv o.2 u = if u < ((j + 1 : Nat) : Int) ∧ gv nx u < gv bst u then gv nx u else gv bst u) ∧
    ∀ u, 0 ≤ u → u < ((j + 1 : Nat) : Int) → gv o.1 u = if gv nx u < gv bst u then gv nx u + change else 1073741824) h fun ⟨r3, a4⟩ ⟨z1, z2, z3, z4⟩ => .nx ⟨m' - 1, by omega, j + 1, w64_succ (by omega), by omega, z1, z2, z3, z4⟩
   rw [e3]
   refine .iteP (fun hb => ?_) fun hb => .ok ⟨by simp [p1], p2, fun u u0 u1 => ?_, fun u u0 u1 => ?_⟩
   ·have hnx : gv nx j ≤ 1799 := by
     rcases n2 j hj0 hj1 with ⟨g, _⟩ | ⟨⟨k, u, d, g, _⟩, _⟩
     ·have := ab_lt hR hc.1 (hI.1 j hj0 hj1); omega
     ·exact (hR.1 _ _ _ _ _ g).2.2.2.2
    have hnx0 : 0 ≤ gv nx j := by
     rcases n2 j hj0 hj1 with ⟨g, _⟩ | ⟨⟨k, u, d, g, _⟩, _⟩
     ·omega
     ·have := (hR.1 _ _ _ _ _ g).2.2; omega
    refine .eq (gv_idx hj0 (by omega)) (.eq (gv_idx hj0 (by simp; omega)) (.ok ⟨by simp [p1], by simp [p2], fun u u0 u1 => ?_, fun u u0 u1 => ?_⟩))
    ·dsimp only
     rw [gv_set hj0 (by omega) _ _ u0, p3 u u0 u1]
     by_cases hu : u = j
     ·subst hu; rw [if_pos rfl, if_pos ⟨by omega, hb⟩]
     ·rw [if_neg hu]
      by_cases h2 : u < (j : Int) ∧ gv nx u < gv bst u
      ·rw [if_pos h2, if_pos ⟨by omega, h2.2⟩]
      ·rw [if_neg h2, if_neg (by omega)]
    ·dsimp only
     rw [gv_set hj0 (by simp; omega) _ _ u0, gv_set hj0 (by omega) _ _ u0]
     by_cases hu : u = j
     ·subst hu; rw [if_pos rfl, if_pos hb, w64_id (by omega)]
     ·rw [if_neg hu, if_neg hu]; exact p4 u u0 (by omega)
   ·dsimp only
    rw [p3 u u0 u1]
    by_cases h2 : u < (j : Int) ∧ gv nx u < gv bst u
    ·rw [if_pos h2, if_pos ⟨by omega, h2.2⟩]
    ·rw [if_neg h2, if_neg (fun h3 => by
      by_cases hu : u = j
      ·subst hu; exact hb h3.2
      ·exact h2 ⟨by omega, h3.2⟩)]
   ·dsimp only
    rw [gv_set hj0 (by omega) _ _ u0]
    by_cases hu : u = j
    ·subst hu; rw [if_pos rfl, if_neg hb]
    ·rw [if_neg hu]; exact p4 u u0 (by omega)
  ·dsimp only
   rw [p3 s s0 s1]
   by_cases h2 : gv nx s < gv bst s
   ·rw [if_pos ⟨by omega, h2⟩, if_pos h2]
   ·rw [if_neg (fun h3 => h2 h3.2), if_neg h2]
  ·exact p4 s s0 (by omega)
 ·exact Tot.val (by unfold zq10_L1; exact .iteP (fun _ => .eq (ixs hy) (.dn' (by rw [w64_succ (by omega)]; rfl))) (fun h => absurd (by simp; omega) h))
 ·exact Tot.val (by unfold zq10_L1; exact .iteP (fun h => absurd h (by simp; try omega)) (fun _ => .dn' rfl))
theorem ra_ok {t : Timetable} (hT : GoodT t) {change : Int} (hc : 0 ≤ change ∧ change ≤ 30) {a : Int} (ha : 0 ≤ a ∧ a < (t.Network.Stops.length : Int)) (w : Int) {n : Int} (h0 : 0 ≤ n ∧ n ≤ 1000) {β : Type} {k : List Int → Option β} {Q : β → Prop}
  (hk : ∀ o : List Int, o.length = t.Network.Stops.length → (∀ s, 0 ≤ s → s < (t.Network.Stops.length : Int) → AB (LR t) change n.toNat a w s (gv o s)) → Tot (k o) Q) : Tot ((zq24 t a w).bind fun r => (zq10 t change r n).bind k) Q := by
 have h8 := hT.1.1
 refine .eq (readyAt_eq (by omega) ha w) ?_
 obtain ⟨m, rfl⟩ : ∃ m : Nat, n = m := ⟨n.toNat, by omega⟩
 exact .call (arr_ok hT hc ha m (by omega)) fun o ⟨h1, h2⟩ => hk o h1 (by rw [Int.toNat_natCast]; exact h2)
theorem snext_congr {R R' : Nat → Int → Int → Int → Int → Prop} {ch N a w : Int} {n : Nat} {best out : Int → Int} (h : ∀ k a d b r, R k a d b r ↔ R' k a d b r) (hr : SNext R ch N a w n best out) : SNext R' ch N a w n best out := by
 have : R = R' := by funext k a d b r; exact propext (h k a d b r)
 rw [← this]; exact hr
theorem sarr_in {t : Timetable} (hT : GoodT t) {change a w : Int} (hw : 0 ≤ w ∧ w ≤ 10000) (hc : 0 ≤ change ∧ change ≤ 30) {n : Nat} {best : List Int} (hbl : best.length = t.Network.Stops.length) (hbr : ∀ u, 0 ≤ u → u < (t.Network.Stops.length : Int) → -1 ≤ gv best u ∧ gv best u ≤ 10000) {i : Nat} {x : Trip} {l : Line} (hx : t.Trips[i]? = some x) (hl : idx t.Network.Lines x.Line = some l) (out : List Int) (ho : out.length = t.Network.Stops.length)
  (hR : SNext (RBj t i 0) change (t.Network.Stops.length : Int) a w n (gv best) (gv out)) {s1 : Int} (hs1 : s1 = if n = 0 then 0 else change) :
  Tot (iter (zq76_L2 t a w best s1 (i : Int) l.Stops) (false, (0 : Int), out)) fun o => o.length = t.Network.Stops.length ∧ SNext (RBj t (i + 1) 0) change (t.Network.Stops.length : Int) a w n (gv best) (gv o) := by
 obtain ⟨l', hl', hP, _, hs, he⟩ := trip_line hT hx
 rw [hl] at hl'; cases hl'
 obtain ⟨⟨r1, r2, r3⟩, _⟩ := line_runs hP
 refine .iter (fun m s => ∃ j : Nat, s.2.1 = (j : Int) ∧ m + j = l.Stops.length ∧ s.2.2.length = t.Network.Stops.length ∧ SNext (RBj t i j) change (t.Network.Stops.length : Int) a w n (gv best) (gv s.2.2) ∧
  (s.1 = true ↔ ∃ (p : Nat) (sp : Int), p < j ∧ l.Stops[p]? = some sp ∧ SRd change a w n (gv best) sp (x.Start + (l.Runs.take p).sum))) (n := l.Stops.length) ⟨0, rfl, by omega, ho, hR, by simp⟩ ?_
 rintro m ⟨on, v, o⟩ ⟨j, hv, hm, hlen, hI, hon⟩
 dsimp only at hv hlen hI hon
 subst hv
 unfold zq76_L2
 dsimp only
 refine .iteP (fun hc2 => ?_) (fun hc2 => .dn ⟨hlen, snext_congr (fun k a d b r => ?_) hI⟩)
 ·obtain ⟨s, hsj⟩ := get_ex (l := l.Stops) (i := j) (by omega)
  have hb := line_stop hP hsj
  have hTb := runs_sum hP j
  have key : ∀ o' : List Int, (∀ u, 0 ≤ u → u ≠ s → gv o' u = gv o u) → (gv o' s = if on = true ∧ (gv o s < 0 ∨ x.Start + (l.Runs.take j).sum < gv o s) then x.Start + (l.Runs.take j).sum else gv o s) → SNext (RBj t i (j + 1)) change (t.Network.Stops.length : Int) a w n (gv best) (gv o') := by
   intro o' h1 h2 u u0 u1
   by_cases hu : u = s
   ·subst hu
    have toS : ∀ k a d r, RBj t i (j + 1) k a d u r → RBj t i j k a d u r ∨ (k = i ∧ r = x.Start + (l.Runs.take j).sum ∧ ∃ p, p < j ∧ l.Stops[p]? = some a ∧ d = x.Start + (l.Runs.take p).sum) := by
     rintro k a d r ⟨x', l', p, q, hk, hx', hl', hpq, hp, hq, rfl, rfl⟩
     rcases hk with hk | ⟨rfl, hk⟩
     ·exact .inl ⟨x', l', p, q, .inl hk, hx', hl', hpq, hp, hq, rfl, rfl⟩
     ·rw [hx] at hx'; cases hx'
      rw [hl] at hl'; cases hl'
      have := stop_uniq hP hq hsj
      subst this
      exact .inr ⟨rfl, rfl, p, hpq, hp, rfl⟩
    have frS : ∀ k a d r, RBj t i j k a d u r → RBj t i (j + 1) k a d u r := by
     rintro k a d r ⟨x', l', p, q, hk, h⟩
     exact ⟨x', l', p, q, by omega, h⟩
    rcases Bool.eq_false_or_eq_true on with ht | hf
    ·subst ht
     obtain ⟨p, sp, p1, p2, p3⟩ := hon.1 rfl
     have leg : RBj t i (j + 1) i sp (x.Start + (l.Runs.take p).sum) u (x.Start + (l.Runs.take j).sum) := ⟨x, l, p, j, .inr ⟨rfl, by omega⟩, hx, hl, p1, p2, hsj, rfl, rfl⟩
     by_cases hlt : gv o u < 0 ∨ x.Start + (l.Runs.take j).sum < gv o u
     ·rw [if_pos ⟨rfl, hlt⟩] at h2
      right
      rw [h2]
      refine ⟨by omega, .inr ⟨i, sp, _, leg, p3⟩, fun hb0 => ?_, fun k a d r hr hd => ?_⟩
      ·rcases hI u u0 u1 with ⟨_, g, _⟩ | ⟨g0, _, g, _⟩
       ·omega
       ·have := g hb0; omega
      ·rcases toS _ _ _ _ hr with h | ⟨_, h, _⟩
       ·rcases hI u u0 u1 with ⟨_, _, g⟩ | ⟨g0, _, _, g⟩
        ·exact absurd hd (g _ _ _ _ h)
        ·have := g _ _ _ _ h hd; omega
       ·omega
     ·rw [if_neg (fun h => hlt h.2)] at h2
      rcases hI u u0 u1 with ⟨g, _⟩ | ⟨g0, g1, g2, g3⟩
      ·omega
      ·right
       rw [h2]
       refine ⟨g0, ?_, g2, fun k a d r hr hd => ?_⟩
       ·rcases g1 with g1 | ⟨k, a, d, q1, q2⟩
        ·exact .inl g1
        ·exact .inr ⟨k, a, d, frS _ _ _ _ q1, q2⟩
       ·rcases toS _ _ _ _ hr with h | ⟨_, h, _⟩
        ·exact g3 _ _ _ _ h hd
        ·omega
    ·subst hf
     rw [if_neg (by simp)] at h2
     have nor : ∀ k b d r, RBj t i (j + 1) k b d u r → SRd change a w n (gv best) b d → RBj t i j k b d u r := by
      intro k b d r hr hd
      rcases toS _ _ _ _ hr with h | ⟨_, _, p, p1, p2, p3⟩
      ·exact h
      ·exact absurd (hon.2 ⟨p, b, p1, p2, by rw [← p3]; exact hd⟩) (by simp)
     rw [h2]
     rcases hI u u0 u1 with ⟨g, g', g''⟩ | ⟨g0, g1, g2, g3⟩
     ·exact .inl ⟨g, g', fun k a d r hr hd => g'' _ _ _ _ (nor _ _ _ _ hr hd) hd⟩
     ·refine .inr ⟨g0, ?_, g2, fun k a d r hr hd => g3 _ _ _ _ (nor _ _ _ _ hr hd) hd⟩
      rcases g1 with g1 | ⟨k, a, d, q1, q2⟩
      ·exact .inl g1
      ·exact .inr ⟨k, a, d, frS _ _ _ _ q1, q2⟩
   ·have e : ∀ k a d r, RBj t i (j + 1) k a d u r ↔ RBj t i j k a d u r := by
     intro k a d r
     constructor
     ·rintro ⟨x', l', p, q, hk, hx', hl', hpq, hp, hq, h1, h2⟩
      refine ⟨x', l', p, q, ?_, hx', hl', hpq, hp, hq, h1, h2⟩
      rcases hk with hk | ⟨rfl, hk⟩
      ·exact .inl hk
      ·rw [hx] at hx'; cases hx'
       rw [hl] at hl'; cases hl'
       have : q ≠ j := fun e => by subst e; rw [hsj] at hq; cases hq; exact hu rfl
       exact .inr ⟨rfl, by omega⟩
     ·rintro ⟨x', l', p, q, hk, h⟩
      exact ⟨x', l', p, q, by omega, h⟩
    have h3 := h1 u u0 hu
    rw [h3]
    rcases hI u u0 u1 with ⟨g, g', g''⟩ | ⟨g0, g1, g2, g3⟩
    ·exact .inl ⟨g, g', fun k a d r hr => g'' _ _ _ _ ((e _ _ _ _).1 hr)⟩
    ·refine .inr ⟨g0, ?_, g2, fun k a d r hr => g3 _ _ _ _ ((e _ _ _ _).1 hr)⟩
     rcases g1 with g1 | ⟨k, a, d, q1, q2⟩
     ·exact .inl g1
     ·exact .inr ⟨k, a, d, (e _ _ _ _).2 q1, q2⟩
  have hbs := hbr s hb.1 hb.2
  refine .eq (ixs hsj) (.eq (l5At_eq hT.1 hx hl hs (k := j) (by omega)) ?_)
  refine .call (P := fun o' => o'.length = t.Network.Stops.length ∧ SNext (RBj t i (j + 1)) change (t.Network.Stops.length : Int) a w n (gv best) (gv o')) ?_ fun o' ⟨ho', hI'⟩ => ?_
  ·refine .call (P := fun b => b = decide (on = true ∧ (gv o s < 0 ∨ x.Start + (l.Runs.take j).sum < gv o s))) ?_ fun b hB => ?_
   ·refine .ite (fun h => .eq (gv_idx hb.1 (by omega)) (.iteP (fun h0 => .ok ?_) fun h0 => .eq (gv_idx hb.1 (by omega)) (.ok ?_))) fun h => .ok ?_
    ·simp [h, h0]
    ·rw [decide_eq_decide]; simp [h, h0]
    ·simp [h]
   ·subst hB
    refine .iteP (fun h => .eq (gv_idx hb.1 (by omega)) (.ok ⟨by rw [List.length_set]; exact hlen, key _ (fun u u0 hu => by rw [gv_set hb.1 (by omega) _ _ u0, if_neg hu]) (by rw [gv_set hb.1 (by omega) _ _ hb.1, if_pos rfl, if_pos h])⟩)) fun h => .ok ⟨hlen, key o (fun _ _ _ => rfl) (by rw [if_neg h])⟩
  ·refine .eq (gv_idx hb.1 (by omega)) (.call (P := fun v2 => v2 = if s = a then w else gv best s + (if n = 0 then 0 else change)) ?_ fun v2 hv2 => ?_)
   ·refine .ite (fun h => .ok ?_) fun h => .ok ?_
    ·have : s = a := by simpa using h
     rw [if_pos this]
    ·have : s ≠ a := by simpa using h
     rw [if_neg this, hs1]
     split <;> rw [w64_id (by omega)]
   ·subst hv2
    have fin : ∀ b : Bool, (b = true ↔ (on = true ∨ SRd change a w n (gv best) s (x.Start + (l.Runs.take j).sum))) → (b = true ↔ ∃ (p : Nat) (sp : Int), p < j + 1 ∧ l.Stops[p]? = some sp ∧ SRd change a w n (gv best) sp (x.Start + (l.Runs.take p).sum)) := by
     intro b h
     rw [h]
     constructor
     ·rintro (h | h)
      ·obtain ⟨p, sp, p1, p2, p3⟩ := hon.1 h; exact ⟨p, sp, by omega, p2, p3⟩
      ·exact ⟨j, s, by omega, hsj, h⟩
     ·rintro ⟨p, sp, p1, p2, p3⟩
      by_cases hpj : p = j
      ·subst hpj; rw [hsj] at p2; cases p2; exact .inr p3
      ·exact .inl (hon.2 ⟨p, sp, by omega, p2, p3⟩)
    refine .ite (fun h => .nx ⟨m - 1, by omega, j + 1, w64_succ (by omega), by omega, ho', hI', fin _ (by simp [h])⟩) fun h => .eq (gv_idx hb.1 (by omega)) (.iteP (fun h0 => .nx ⟨m - 1, by omega, j + 1, w64_succ (by omega), by omega, ho', hI', fin _ ?_⟩) fun h0 => .nx ⟨m - 1, by omega, j + 1, w64_succ (by omega), by omega, ho', hI', fin _ ?_⟩)
    ·simp [h, SRd, h0]
    ·simp [h, SRd, h0]
 ·constructor
  ·rintro ⟨x', l', p, q, hk, h⟩; exact ⟨x', l', p, q, by omega, h⟩
  ·rintro ⟨x', l', p, q, hk, hx', hl', hpq, hp, hq, h⟩
   refine ⟨x', l', p, q, ?_, hx', hl', hpq, hp, hq, h⟩
   by_cases hki : k < i
   ·exact .inl hki
   ·have hke : k = i := by omega
    subst hke
    rw [hx] at hx'; cases hx'
    rw [hl] at hl'; cases hl'
    have := get_lt hq
    exact .inr ⟨rfl, by omega⟩
theorem sarr_ok {t : Timetable} (hT : GoodT t) {change : Int} (hc : 0 ≤ change ∧ change ≤ 30) {a w : Int} (ha : 0 ≤ a ∧ a < (t.Network.Stops.length : Int)) (hw : 0 ≤ w ∧ w ≤ 10000) (n : Nat) (hn : n ≤ 1000) :
  Tot (zq76 t change a w (n : Int)) fun o => o.length = t.Network.Stops.length ∧ SAB (LR t) change (t.Network.Stops.length : Int) n a w (gv o) := by
 have h8 := hT.1.1
 have h12 := hT.2.1
 have hR := lr_ok hT
 unfold zq76
 rw [chk_of (by omega), qb, fillc (N := t.Network.Stops.length) (-1) (fun v l y ha hy hv => ?_) (fun l ha => ?_) _ (by simp), qb]
 ·refine .eq (gv_idx ha.1 (by simp; omega)) (.call (P := fun o => o.length = t.Network.Stops.length ∧ SAB (LR t) change (t.Network.Stops.length : Int) n a w (gv o)) ?_ fun o ho => .ok ho)
  refine .iter (fun m s => ∃ i : Nat, s.1 = (i : Int) ∧ m + i = n ∧ s.2.length = t.Network.Stops.length ∧ SAB (LR t) change (t.Network.Stops.length : Int) i a w (gv s.2)) (n := n) ⟨0, rfl, by omega, by simp, sab_zero (fun s s0 s1 => by rw [gv_set ha.1 (by simp; omega) _ _ s0, gv_rep s0 s1]) ha⟩ ?_
  rintro m ⟨v, bst⟩ ⟨i, hv, hm, g1, hI⟩
  dsimp only at hv g1 hI
  subst hv
  unfold zq76_L4
  dsimp only
  refine .iteP (fun hlt => .chk (by simp; omega) (.call (P := fun s1 => s1 = if i = 0 then 0 else change) ?_ fun s1 hs1 => ?_)) (fun hge => .dn ⟨g1, by rw [show n = i by omega]; exact hI⟩)
  ·refine .ite (fun h => .ok ?_) fun h => .ok ?_
   ·have h0 : (i : Int) = 0 := by simpa using h
    have : i = 0 := by omega
    rw [if_pos this]
   ·have h0 : (i : Int) ≠ 0 := by simpa using h
    have : i ≠ 0 := by omega
    rw [if_neg this]
  ·refine .call (P := fun o => o.length = t.Network.Stops.length ∧ SNext (LR t) change (t.Network.Stops.length : Int) a w i (gv bst) (gv o)) ?_ fun o ⟨z1, z2⟩ => .nx ⟨m - 1, by omega, i + 1, w64_succ (by omega), by omega, z1, sab_step hR hc.1 ha hw.1 hI z2⟩
   refine .iter (fun m s => ∃ q : Nat, s.1 = (q : Int) ∧ m + q = t.Trips.length ∧ s.2.length = t.Network.Stops.length ∧ SNext (RBj t q 0) change (t.Network.Stops.length : Int) a w i (gv bst) (gv s.2)) (n := t.Trips.length) ⟨0, rfl, by omega, by simpa using g1, fun s s0 s1 => ?_⟩ ?_
   ·have no : ∀ k u d r, ¬ RBj t 0 0 k u d s r := by rintro k u d r ⟨x, l, p, q, hk, _⟩; omega
    show (gv ([] ++ bst) s = -1 ∧ _) ∨ _
    rw [List.nil_append]
    rcases sab_rng hR hc.1 hI s0 s1 with h | h
    ·exact .inl ⟨h, h, fun k u d r hr => absurd hr (no k u d r)⟩
    ·exact .inr ⟨by show 0 ≤ gv bst s; omega, .inl rfl, fun _ => Int.le_refl _, fun k u d r hr => absurd hr (no k u d r)⟩
   rintro m' ⟨v, o⟩ ⟨q, hv, hm', q1, q2⟩
   dsimp only at hv q1 q2
   subst hv
   unfold zq76_L3
   dsimp only
   refine .iteP (fun hlt2 => ?_) (fun hge2 => .dn ⟨q1, snext_congr (fun k a d b r => ?_) q2⟩)
   ·obtain ⟨x, hx⟩ := get_ex (l := t.Trips) (i := q) (by omega)
    obtain ⟨l, hl, hP, _, hs, he⟩ := trip_line hT hx
    refine .eq (l5Stops_eq hx hl) (.call (sarr_in hT hw hc g1 (fun u u0 u1 => ?_) hx hl o q1 q2 hs1) fun o' ⟨z1, z2⟩ => .nx ⟨m' - 1, by omega, q + 1, w64_succ (by omega), by omega, z1, z2⟩)
    rcases sab_rng hR hc.1 hI u0 u1 with h | h <;> omega
   ·constructor
    ·rintro ⟨x', l', p, q, hk, h⟩; exact ⟨x', l', p, q, h⟩
    ·rintro ⟨x', l', p, q', hx', h⟩
     have := get_lt hx'
     exact ⟨x', l', p, q', .inl (by omega), hx', h⟩
 ·exact Tot.val (by unfold zq76_L1; exact .iteP (fun _ => .eq (ixs hy) (.dn' (by rw [w64_succ (by omega)]; rfl))) (fun h => absurd (by omega) h))
 ·exact Tot.val (by unfold zq76_L1; exact .iteP (fun h => absurd h (by omega)) (fun _ => .dn' rfl))
theorem sarr_ab {t : Timetable} (hT : GoodT t) {change : Int} (hc : 0 ≤ change ∧ change ≤ 30) {n : Nat} {a w : Int} {o : List Int} (h : SAB (LR t) change (t.Network.Stops.length : Int) n a w (gv o)) {s b : Int} (s0 : 0 ≤ s) (s1 : s < (t.Network.Stops.length : Int)) (hs : s ≠ a) (hb : AB (LR t) change n a w s b) : gv o s = if b = 1073741824 then -1 else b := sab_ab (lr_ok hT) hc.1 h s0 s1 hs hb
theorem ab_ex {t : Timetable} (hT : GoodT t) {change : Int} (hc : 0 ≤ change ∧ change ≤ 30) {a c : Int} (ha : 0 ≤ a ∧ a < (t.Network.Stops.length : Int)) (h : 0 ≤ c ∧ c < (t.Network.Stops.length : Int)) (w : Int) {n : Nat} (hn : n ≤ 1000) : ∃ v, AB (LR t) change n a w c v := by
 obtain ⟨o, _, _, h2⟩ := arr_ok hT hc ha (w := w) n hn
 exact ⟨_, h2 c h.1 h.2⟩
noncomputable def bA (t : Timetable) (change a w c : Int) (n : Nat) : Int := Classical.epsilon fun v => AB (LR t) change n a w c v
theorem bA_ab {t : Timetable} (hT : GoodT t) {change : Int} (hc : 0 ≤ change ∧ change ≤ 30) {a c : Int} (ha : 0 ≤ a ∧ a < (t.Network.Stops.length : Int)) (h : 0 ≤ c ∧ c < (t.Network.Stops.length : Int)) (w : Int) {n : Nat} (hn : n ≤ 1000) : AB (LR t) change n a w c (bA t change a w c n) := Classical.epsilon_spec (ab_ex hT hc ha h w hn)
theorem ab_mono {R : Nat → Int → Int → Int → Int → Prop} {ch N : Int} (hR : LegsOK R N) (hc : 0 ≤ ch) {n m : Nat} {a w c s s' : Int} (h : AB R ch n a w c s) (h' : AB R ch m a w c s') (hnm : n ≤ m) : s' ≤ s := by
 rcases h with ⟨h1, h2⟩ | ⟨⟨k, h1, h2⟩, h3⟩
 ·have := ab_lt hR hc h'; omega
 ·rcases h' with ⟨g1, g2⟩ | ⟨g1, g2⟩
  ·exact absurd h2 (g2 _ _ (by omega))
  ·exact g2 _ _ (by omega) h2
theorem ab_zero {R : Nat → Int → Int → Int → Int → Prop} {ch : Int} {a w c s : Int} (h : AB R ch 0 a w c s) : s = 1073741824 := by
 rcases h with ⟨h1, _⟩ | ⟨⟨k, h1, h2⟩, _⟩
 ·exact h1
 ·have : k = 0 := by omega
  subst this; exact h2.elim
def PairP (t : Timetable) (change from_ to : Int) : Prop := (GoodT t ∧ 0 ≤ change ∧ change ≤ 30) ∧ (0 ≤ from_ ∧ from_ < (t.Network.Stops.length : Int)) ∧ (0 ≤ to ∧ to < (t.Network.Stops.length : Int)) ∧ from_ ≠ to
noncomputable instance (t : Timetable) (change from_ to : Int) : Decidable (PairP t change from_ to) := Classical.propDecidable _
theorem isPair_eq {t : Timetable} (hb : TB t) (change from_ to : Int) : zq19 t change from_ to = some (decide (PairP t change from_ to)) := by
 unfold zq19 zq15
 simp only [validT_eq hb, within_eq, isStop_eq, qb]
 by_cases h1 : GoodT t <;> by_cases h2 : 0 ≤ change ∧ change ≤ 30 <;> by_cases h3 : 0 ≤ from_ ∧ from_ < (t.Network.Stops.length : Int) <;> by_cases h4 : 0 ≤ to ∧ to < (t.Network.Stops.length : Int) <;> by_cases h5 : from_ = to <;> simp [PairP, h1, h2, h3, h4, h5]
def FromP (t : Timetable) (change from_ at_ : Int) : Prop := (GoodT t ∧ 0 ≤ change ∧ change ≤ 30) ∧ (0 ≤ from_ ∧ from_ < (t.Network.Stops.length : Int)) ∧ 0 ≤ at_ ∧ at_ ≤ 1799
noncomputable instance (t : Timetable) (change from_ at_ : Int) : Decidable (FromP t change from_ at_) := Classical.propDecidable _
theorem isFrom_eq {t : Timetable} (hb : TB t) (change from_ at_ : Int) : zq16 t change from_ at_ = some (decide (FromP t change from_ at_)) := by
 unfold zq16 zq15
 simp only [validT_eq hb, within_eq, isStop_eq, time_eq, qb]
 by_cases h1 : GoodT t <;> by_cases h2 : 0 ≤ change ∧ change ≤ 30 <;> by_cases h3 : 0 ≤ from_ ∧ from_ < (t.Network.Stops.length : Int) <;> by_cases h4 : 0 ≤ at_ ∧ at_ ≤ 1799 <;> simp [FromP, h1, h2, h3, h4]
theorem l8From_eq {t : Timetable} (hb : TB t) (change from_ at_ : Int) : zq79 t change from_ at_ = some (decide (FromP t change from_ at_)) := by
 have hl := hb.1.1
 have ew : w64 ((t.Network.Stops.length : Int) - 1) = (t.Network.Stops.length : Int) - 1 := w64_id (by omega)
 have e3 : (0 ≤ from_ ∧ from_ ≤ (t.Network.Stops.length : Int) - 1) ↔ (0 ≤ from_ ∧ from_ < (t.Network.Stops.length : Int)) := by omega
 unfold zq79
 simp only [asked_eq hb, l1In_eq, ew, l4Time_eq, qb, e3]
 by_cases h1 : GoodT t ∧ 0 ≤ change ∧ change ≤ 30 <;> by_cases h3 : 0 ≤ from_ ∧ from_ < (t.Network.Stops.length : Int) <;> by_cases h4 : 0 ≤ at_ ∧ at_ ≤ 1799 <;> simp [FromP, h1, h3, h4]
theorem l8Pair_eq {t : Timetable} (hb : TB t) (change from_ to at_ : Int) : zq80 t change from_ to at_ = some (decide (PairP t change from_ to ∧ 0 ≤ at_ ∧ at_ ≤ 1799)) := by
 have hl := hb.1.1
 have ew : w64 ((t.Network.Stops.length : Int) - 1) = (t.Network.Stops.length : Int) - 1 := w64_id (by omega)
 have e3 : (0 ≤ to ∧ to ≤ (t.Network.Stops.length : Int) - 1) ↔ (0 ≤ to ∧ to < (t.Network.Stops.length : Int)) := by omega
 unfold zq80
 simp only [l8From_eq hb, l1In_eq, ew, qb, e3]
 by_cases h1 : GoodT t ∧ 0 ≤ change ∧ change ≤ 30 <;> by_cases h3 : 0 ≤ from_ ∧ from_ < (t.Network.Stops.length : Int) <;> by_cases h4 : 0 ≤ at_ ∧ at_ ≤ 1799 <;> by_cases h5 : 0 ≤ to ∧ to < (t.Network.Stops.length : Int) <;> by_cases h6 : from_ = to <;> simp [FromP, PairP, h1, h3, h4, h5, h6]
theorem t_timeR {k : Nat} {c : l1Cur} (h : Cur k c) (hk : k ≤ 2000000000) : Tot (zq50 c) fun r => Cur (k + 4) r.2 ∧ -1000 ≤ r.1 ∧ r.1 ≤ 5000 := by
 unfold zq50
 refine Tot.call (t_one 16 h (by omega)) fun r hr => .ite (fun _ => ?_) (fun _ => ?_)
 ·refine Tot.call (t_among _ (by simp) hr (by omega)) fun r hr => .ok ⟨hr.1, ?_⟩
  have := hr.2
  simp at this
  dsimp only
  omega
 ·refine Tot.call (t_pick 240 hr (by omega)) fun r hr => .ok ⟨hr.1, ?_⟩
  dsimp only
  rw [w64_id (by omega)]; omega
theorem query_ok {k : Nat} {c : l1Cur} (h : Cur k c) (hk : k ≤ 100000) : Tot (zq49 c) fun r => TB r.1 ∧ (-1000 ≤ r.2.2.2.2.1 ∧ r.2.2.2.2.1 ≤ 5000) ∧ Cur (k + 4000) r.2.2.2.2.2 := by
 unfold zq49
 refine .call (trips_ok h (by omega)) fun r ⟨hc, hd⟩ => ?_
 have hN := hd.1.1
 refine .call (P := fun o => Cur (k + 3010) ⟨o.2.1, o.2.2.1, ⟨o.2.2.2⟩⟩ ∧ (o.1 = false → 2 ≤ r.1.Network.Stops.length)) (.iteP (fun _ => .ok ⟨hc.mono (by omega), fun h => by cases h⟩) fun h2 => .call (t_one 10 hc (by omega)) fun r1 h1 => .ok ⟨h1.mono (by omega), fun _ => by omega⟩) fun ⟨v, v1, v2, v3⟩ ⟨hc2, hz⟩ => ?_
 dsimp only at hc2 hz ⊢
 refine .ite (fun _ => ?_) fun hf => ?_
 ·refine .call (change_ok hc2 (by omega)) fun r6 h6 => .call (t_pick 8 h6 (by omega)) fun r7 ⟨h7, _⟩ => .call (t_pick 8 h7 (by omega)) fun r8 ⟨h8, _⟩ => .call (t_timeR h8 (by omega)) fun r9 ⟨h9, h10⟩ => .ok ⟨hd.tb, h10, h9.mono (by omega)⟩
 ·have h2 := hz hf
  refine .call (t_pick _ hc2 (by omega)) fun r10 ⟨h10, _⟩ => .call (change_ok h10 (by omega)) fun r14 h14 => .call (t_pick _ h14 (by omega)) fun r15 ⟨h15, _⟩ => .chk (by omega) (.call (t_pick 12 h15 (by omega)) fun r16 ⟨h16, a1, a2⟩ => .ok ⟨hd.tb, ?_, h16.mono (by omega)⟩)
  dsimp only
  rw [w64_id (x := 5 * r16.1) (by omega), w64_id (by omega)]
  omega
theorem eArr_ok {t : Timetable} (hb : TB t) {change from_ at_ : Int} (h : FromP t change from_ at_) : Tot (zq2 t change from_ at_) fun r => r.2 = true ∧ r.1.length = t.Network.Stops.length ∧ gv r.1 from_ = at_ ∧ ∀ s, 0 ≤ s → s < (t.Network.Stops.length : Int) → s ≠ from_ → gv r.1 s = if bA t change from_ at_ s 4 = 1073741824 then -1 else bA t change from_ at_ s 4 := by
 obtain ⟨⟨hT, hc⟩, hf, ha⟩ := h
 have h8 := hT.1.1
 unfold zq2 zq12
 rw [isFrom_eq hb, show decide (FromP t change from_ at_) = true from decide_eq_true ⟨⟨hT, hc⟩, hf, ha⟩]
 refine .eq rfl (.ite (fun h => (by cases h)) fun _ => .call (P := fun r => r.length = t.Network.Stops.length ∧ gv r from_ = at_ ∧ ∀ s, 0 ≤ s → s < (t.Network.Stops.length : Int) → s ≠ from_ → gv r s = if bA t change from_ at_ s 4 = 1073741824 then -1 else bA t change from_ at_ s 4) ?_ fun r hr => .ok ⟨rfl, hr⟩)
 refine ra_ok hT hc hf at_ (by omega) fun o ho1 ho2 => ?_
 have hbA : ∀ s, 0 ≤ s → s < (t.Network.Stops.length : Int) → gv o s = bA t change from_ at_ s 4 := fun s s0 s1 => ab_uniq (ho2 s s0 s1) (bA_ab hT hc hf ⟨s0, s1⟩ at_ (by omega))
 refine .call (P := fun v3 => v3.length = t.Network.Stops.length ∧ ∀ s, 0 ≤ s → s < (t.Network.Stops.length : Int) → gv v3 s = if gv o s = 1073741824 then -1 else gv o s) ?_ fun v3 ⟨h1, h2⟩ => .eq (gv_idx hf.1 (by omega)) (.ok ⟨by rw [List.length_set]; exact h1, by rw [gv_set hf.1 (by omega) _ _ hf.1, if_pos rfl], fun s s0 s1 hs => by rw [gv_set hf.1 (by omega) _ _ s0, if_neg hs, h2 s s0 s1, hbA s s0 s1]⟩)
 refine .iter (fun m s => ∃ j : Nat, s.1 = (j : Int) ∧ m + j = t.Network.Stops.length ∧ s.2.length = t.Network.Stops.length ∧ ∀ u, 0 ≤ u → u < (t.Network.Stops.length : Int) → gv s.2 u = if u < (j : Int) ∧ gv o u = 1073741824 then -1 else gv o u) (n := t.Network.Stops.length) ⟨0, rfl, by omega, ho1, fun u u0 _ => by rw [if_neg (by omega)]⟩ ?_
 rintro m ⟨v, l⟩ ⟨j, hv, hm, hlen, hI⟩
 dsimp only at hv hlen hI
 subst hv
 unfold zq12_L1
 dsimp only
 refine .iteP (fun hlt => ?_) (fun hge => .dn ⟨hlen, fun s s0 s1 => ?_⟩)
 ·have e := hI j (by omega) (by omega)
  rw [if_neg (by omega)] at e
  refine .call (P := fun l' => l'.length = t.Network.Stops.length ∧ ∀ u, 0 ≤ u → u < (t.Network.Stops.length : Int) → gv l' u = if u < ((j + 1 : Nat) : Int) ∧ gv o u = 1073741824 then -1 else gv o u) (.eq (gv_idx (by omega) (by omega)) ?_) fun l' ⟨z1, z2⟩ => .nx ⟨m - 1, by omega, j + 1, w64_succ (by omega), by omega, z1, z2⟩
  rw [e]
  refine .ite (fun h => .eq (gv_idx (by omega) (by omega)) (.ok ⟨by rw [List.length_set]; exact hlen, fun u u0 u1 => ?_⟩)) fun h => .ok ⟨hlen, fun u u0 u1 => ?_⟩
  ·have h : gv o j = 1073741824 := by simpa using h
   rw [gv_set (by omega) (by omega) _ _ u0, hI u u0 u1]
   by_cases hu : u = j
   ·subst hu; rw [if_pos rfl, if_pos ⟨by omega, h⟩]
   ·rw [if_neg hu]
    by_cases h3 : u < (j : Int) ∧ gv o u = 1073741824
    ·rw [if_pos h3, if_pos ⟨by omega, h3.2⟩]
    ·rw [if_neg h3, if_neg (by omega)]
  ·have h : gv o j ≠ 1073741824 := by simpa using h
   rw [hI u u0 u1]
   by_cases h3 : u < (j : Int) ∧ gv o u = 1073741824
   ·rw [if_pos h3, if_pos ⟨by omega, h3.2⟩]
   ·rw [if_neg h3, if_neg (fun h4 => by
     by_cases hu : u = j
     ·subst hu; exact h h4.2
     ·exact h3 ⟨by omega, h4.2⟩)]
 ·rw [hI s s0 s1]
  by_cases h3 : gv o s = 1073741824
  ·rw [if_pos ⟨by omega, h3⟩, if_pos h3]
  ·rw [if_neg (fun h => h3 h.2), if_neg h3]
theorem sarr_bA {t : Timetable} (hT : GoodT t) {change : Int} (hc : 0 ≤ change ∧ change ≤ 30) {a c : Int} (ha : 0 ≤ a ∧ a < (t.Network.Stops.length : Int)) (h : 0 ≤ c ∧ c < (t.Network.Stops.length : Int)) (hne : c ≠ a) {w : Int} (hw : 0 ≤ w ∧ w ≤ 10000) {n : Int} (hn : 0 ≤ n ∧ n ≤ 1000) {β : Type} {k : List Int → Option β} {Q : β → Prop}
  (hk : ∀ o : List Int, o.length = t.Network.Stops.length → idx o c = some (if bA t change a w c n.toNat = 1073741824 then -1 else bA t change a w c n.toNat) → Tot (k o) Q) : Tot ((zq76 t change a w n).bind k) Q := by
 obtain ⟨m, rfl⟩ : ∃ m : Nat, n = m := ⟨n.toNat, by omega⟩
 refine .call (sarr_ok hT hc ha hw m (by omega)) fun o ⟨h1, h2⟩ => hk o h1 ?_
 rw [gv_idx h.1 (by omega), sarr_ab hT hc h2 h.1 h.2 hne (bA_ab hT hc ha h w (by omega)), Int.toNat_natCast]
theorem bA_mono {t : Timetable} (hT : GoodT t) {change : Int} (hc : 0 ≤ change ∧ change ≤ 30) {a c : Int} (ha : 0 ≤ a ∧ a < (t.Network.Stops.length : Int)) (h : 0 ≤ c ∧ c < (t.Network.Stops.length : Int)) (w : Int) {n m : Nat} (hm : m ≤ 1000) (hnm : n ≤ m) : bA t change a w c m ≤ bA t change a w c n :=
 ab_mono (lr_ok hT) hc.1 (bA_ab hT hc ha h w (by omega)) (bA_ab hT hc ha h w hm) hnm
theorem bA_rng {t : Timetable} (hT : GoodT t) {change : Int} (hc : 0 ≤ change ∧ change ≤ 30) {a c : Int} (ha : 0 ≤ a ∧ a < (t.Network.Stops.length : Int)) (h : 0 ≤ c ∧ c < (t.Network.Stops.length : Int)) (w : Int) {n : Nat} (hn : n ≤ 1000) : bA t change a w c n = 1073741824 ∨ (w < bA t change a w c n ∧ bA t change a w c n ≤ 1799 ∧ 0 ≤ bA t change a w c n) := ab_lt (lr_ok hT) hc.1 (bA_ab hT hc ha h w hn)
theorem bA_min {t : Timetable} (hT : GoodT t) {change : Int} (hc : 0 ≤ change ∧ change ≤ 30) {a c : Int} (ha : 0 ≤ a ∧ a < (t.Network.Stops.length : Int)) (h : 0 ≤ c ∧ c < (t.Network.Stops.length : Int)) (w : Int) {n : Nat} (hn : n ≤ 1000) (hne : bA t change a w c n ≠ 1073741824) : MinA (LR t) change n a w c (bA t change a w c n) := by
 rcases bA_ab hT hc ha h w hn with ⟨h1, _⟩ | h1
 ·exact absurd h1 hne
 ·exact h1
theorem pwG {α : Type} {R : α → α → Prop} {M : List α} (h : M.Pairwise R) {i j : Nat} {a b : α} (hij : i < j) (ha : M[i]? = some a) (hb : M[j]? = some b) : R a b := by
 have := List.pairwise_iff_getElem.1 h i j (get_lt ha) (get_lt hb) hij
 rw [(List.getElem?_eq_some_iff.1 ha).2, (List.getElem?_eq_some_iff.1 hb).2] at this
 exact this
theorem put_ok {l : List Int} (h : l.Pairwise (· < ·)) (hl : l.length ≤ 10000) (n : Int) : Tot (zq58 l n) fun r => r.Pairwise (· < ·) ∧ ∀ x, x ∈ r ↔ x ∈ l ∨ x = n := by
 unfold zq58
 refine .call (P := fun v => ∃ k : Nat, v = (k : Int) ∧ k ≤ l.length ∧ (∀ (i : Nat) x, i < k → l[i]? = some x → x < n) ∧ ∀ x, l[k]? = some x → n ≤ x) ?_ fun v ⟨k, hv, hk, hlo, hhi⟩ => ?_
 ·refine Tot.iter (fun m v => ∃ k : Nat, v = (k : Int) ∧ m + k = l.length ∧ ∀ (i : Nat) x, i < k → l[i]? = some x → x < n) (n := l.length) ⟨0, rfl, by omega, fun i x h => by omega⟩ ?_
  rintro m v ⟨k, rfl, hm, hlo⟩
  unfold zq58_L1
  refine .call (P := fun b => (b = true → k < l.length ∧ ∀ x, l[k]? = some x → x < n) ∧ (b = false → ∀ x, l[k]? = some x → n ≤ x)) (.iteP (fun hc => ?_) (fun hc => .ok ⟨fun h => (by cases h), fun _ x hx => by have := get_lt hx; omega⟩)) fun b hb => .ite (fun ht => ?_) (fun hf => .dn ⟨k, rfl, by omega, hlo, hb.2 hf⟩)
  ·obtain ⟨x, hx⟩ := get_ex (l := l) (i := k) (by omega)
   refine .eq (ixs hx) (.ok ⟨fun h => ⟨by omega, fun y hy => ?_⟩, fun h y hy => ?_⟩)
   ·rw [hx] at hy; cases hy; exact of_decide_eq_true h
   ·rw [hx] at hy; cases hy; have := of_decide_eq_false h; omega
  ·obtain ⟨q1, q2⟩ := hb.1 ht
   refine .nx ⟨m - 1, by omega, k + 1, w64_succ (by omega), by omega, fun i x hi hx => ?_⟩
   by_cases hik : i = k
   ·subst hik; exact q2 x hx
   ·exact hlo i x (by omega) hx
 ·subst hv
  refine .call (P := fun b => (b = true → n ∈ l) ∧ (b = false → ∀ x, l[k]? = some x → n < x)) (.iteP (fun hc => ?_) (fun hc => .ok ⟨fun h => (by cases h), fun _ x hx => by have := get_lt hx; omega⟩)) fun b hb => .ite (fun ht => ?_) (fun hf => ?_)
  ·obtain ⟨x, hx⟩ := get_ex (l := l) (i := k) (by omega)
   refine .eq (ixs hx) (.ok ⟨fun h => ?_, fun h y hy => ?_⟩)
   ·have := eq_of_beq h; subst this; exact List.mem_of_getElem? hx
   ·rw [hx] at hy; cases hy; have h1 := ne_of_beq_false h; have := hhi x hx; omega
  ·have hm := hb.1 ht
   refine .ok ⟨h, fun x => ⟨.inl, fun hx => ?_⟩⟩
   rcases hx with hx | rfl
   ·exact hx
   ·exact hm
  ·have hgt := hb.2 hf
   rw [Int.toNat_natCast]
   have hlt : (l.take k).length = k := by rw [List.length_take]; omega
   refine .chk (by omega) (.chk (by simp; omega) (.chk (by simp; omega) (.chk (by omega) (.chk (by simp; omega) (.ok ?_)))))
   have e : [] ++ (l.take k).drop (0 : Int).toNat = l.take k := rfl
   rw [e]
   have ha1 : ∀ x ∈ l.take k, x < n := fun x hx => by
    obtain ⟨i, hi⟩ := List.getElem?_of_mem hx
    have hik : i < k := by have := get_lt hi; omega
    rw [List.getElem?_take_of_lt hik] at hi
    exact hlo i x hik hi
   have ha2 : ∀ x ∈ l.drop k, n < x := fun x hx => by
    obtain ⟨i, hi⟩ := List.getElem?_of_mem hx
    rw [List.getElem?_drop] at hi
    obtain ⟨y, hy⟩ := get_ex (l := l) (i := k) (by have := get_lt hi; omega)
    have h1 := hgt y hy
    by_cases hi0 : i = 0
    ·subst hi0; rw [Nat.add_zero, hy] at hi; cases hi; exact h1
    ·have := pwG h (by omega : k < k + i) hy hi; omega
   refine ⟨?_, fun x => ?_⟩
   ·rw [List.append_assoc, List.pairwise_append]
    refine ⟨h.sublist (List.take_sublist _ _), ?_, fun x hx y hy => ?_⟩
    ·rw [List.singleton_append, List.pairwise_cons]
     exact ⟨ha2, h.sublist (List.drop_sublist _ _)⟩
    ·have := ha1 x hx
     rcases List.mem_append.1 hy with hy | hy
     ·have : y = n := by simpa using hy
      omega
     ·have := ha2 y hy; omega
   ·rw [List.mem_append, List.mem_append, List.mem_singleton]
    have hsp : x ∈ l ↔ x ∈ l.take k ∨ x ∈ l.drop k := by rw [← List.mem_append, List.take_append_drop]
    rw [hsp]
    constructor
    ·rintro ((h | h) | h)
     ·exact .inl (.inl h)
     ·exact .inr h
     ·exact .inl (.inr h)
    ·rintro ((h | h) | h)
     ·exact .inl (.inl h)
     ·exact .inr h
     ·exact .inl (.inr h)
theorem cmp_ok {l : List Int} (hs : l.Pairwise (· ≤ ·)) : ∀ m, m ≤ l.length → (Lib.compactUpTo l.toArray m).Pairwise (· < ·) ∧ ∀ x, x ∈ Lib.compactUpTo l.toArray m ↔ x ∈ l.take m
 | 0, _ => by simp [Lib.compactUpTo]
 | m + 1, hm => by
  obtain ⟨h1, h2⟩ := cmp_ok hs m (by omega)
  have hget : ∀ {j : Nat} {x : Int}, l[j]? = some x → l.toArray[j]! = x := fun {j x} h => by rw [getElem!_def, List.getElem?_toArray, h]
  obtain ⟨y, hy⟩ := get_ex (l := l) (i := m) (by omega)
  rw [Lib.compactUpTo_succ, take_succ hy, hget hy]
  by_cases hk : Lib.keeps l.toArray m = true
  ·rw [if_pos hk]
   refine ⟨List.pairwise_append.2 ⟨h1, by simp, fun x hx z hz => ?_⟩, fun x => by simp [h2]⟩
   simp at hz
   subst hz
   have hx := (h2 x).1 hx
   obtain ⟨i, hi⟩ := List.getElem?_of_mem hx
   have hil := get_lt hi
   rw [List.length_take] at hil
   rw [List.getElem?_take_of_lt (by omega)] at hi
   obtain ⟨p, hp⟩ := get_ex (l := l) (i := m - 1) (by omega)
   have hne : z ≠ p := by
    unfold Lib.keeps at hk
    rw [decide_eq_true_eq, hget hy, hget hp] at hk
    rcases hk with hk | hk
    ·omega
    ·exact hk
   have q1 : p ≤ z := pwG hs (by omega : m - 1 < m) hp hy
   have q2 : x ≤ p := by
    by_cases hi2 : i = m - 1
    ·subst hi2; rw [hi] at hp; cases hp; exact Int.le_refl _
    ·exact pwG hs (by omega : i < m - 1) hi hp
   omega
  ·rw [if_neg hk]
   refine ⟨by rw [List.append_nil]; exact h1, fun x => ?_⟩
   rw [List.append_nil, h2, List.mem_append, List.mem_singleton]
   constructor
   ·exact .inl
   ·rintro (h | rfl)
    ·exact h
    ·have hk : Lib.keeps l.toArray m = false := by simpa using hk
     unfold Lib.keeps at hk
     rw [decide_eq_false_iff_not, hget hy] at hk
     have h0 : m ≠ 0 := fun h => hk (.inl h)
     obtain ⟨p, hp⟩ := get_ex (l := l) (i := m - 1) (by omega)
     rw [hget hp] at hk
     have : x = p := Classical.byContradiction fun h => hk (.inr h)
     subst this
     exact List.mem_of_getElem? (i := m - 1) (by rw [List.getElem?_take_of_lt (by omega)]; exact hp)
theorem asc_uniq : ∀ {l m : List Int}, l.Pairwise (· < ·) → m.Pairwise (· < ·) → (∀ x, x ∈ l ↔ x ∈ m) → l = m
 | [], [], _, _, _ => rfl
 | [], y :: m, _, _, h => by have := (h y).2 (by simp); cases this
 | x :: l, [], _, _, h => by have := (h x).1 (by simp); cases this
 | x :: l, y :: m, hl, hm, h => by
  obtain ⟨l1, l2⟩ := List.pairwise_cons.1 hl
  obtain ⟨m1, m2⟩ := List.pairwise_cons.1 hm
  have e : x = y := by
   have h1 := (h x).1 (by simp)
   have h2 := (h y).2 (by simp)
   simp only [List.mem_cons] at h1 h2
   rcases h1 with h1 | h1
   ·exact h1
   ·rcases h2 with h2 | h2
    ·exact h2.symm
    ·have := m1 x h1; have := l1 y h2; omega
  subst e
  rw [asc_uniq l2 m2 fun z => ?_]
  have hz := h z
  simp only [List.mem_cons] at hz
  constructor
  ·intro q
   rcases hz.1 (.inr q) with rfl | q'
   ·have := l1 z q; omega
   ·exact q'
  ·intro q
   rcases hz.2 (.inr q) with rfl | q'
   ·have := m1 z q; omega
   ·exact q'
theorem nd_len : ∀ {l m : List Int}, l.Pairwise (· < ·) → (∀ x ∈ l, x ∈ m) → l.length ≤ m.length
 | [], _, _, _ => Nat.zero_le _
 | x :: l, m, h, hs => by
  obtain ⟨h1, h2⟩ := List.pairwise_cons.1 h
  have hx := hs x (List.mem_cons_self ..)
  have := nd_len (m := m.erase x) h2 fun y hy => (List.mem_erase_of_ne (by have := h1 y hy; omega)).2 (hs y (List.mem_cons_of_mem _ hy))
  rw [List.length_erase_of_mem hx] at this
  have := List.length_pos_of_mem hx
  rw [List.length_cons]; omega
def DepT (t : Timetable) (a w : Int) : Prop := ∃ (i : Nat) (b r : Int), LR t i a w b r
theorem idep_ok {t : Timetable} (hT : GoodT t) (stop : Int) : Tot (zq11 t stop) fun D => D.Pairwise (· < ·) ∧ (∀ x, x ∈ D ↔ DepT t stop x) ∧ D.length ≤ 12 := by
 have h12 := hT.2.1
 unfold zq11
 refine .call (P := fun l => (∀ x, x ∈ l ↔ DepT t stop x) ∧ l.length ≤ 12) ?_ fun l ⟨hl, hl2⟩ => ?_
 ·refine .iter (fun m s => ∃ i : Nat, s.1 = (i : Int) ∧ m + i = t.Trips.length ∧ s.2.length ≤ i ∧ ∀ x, x ∈ s.2 ↔ ∃ (k : Nat) (b r : Int), k < i ∧ LR t k stop x b r) (n := t.Trips.length) ⟨0, rfl, by omega, by simp, fun x => ?_⟩ ?_
  ·constructor
   ·intro h; cases h
   ·rintro ⟨k, b, r, h, _⟩; omega
  rintro m ⟨v, l⟩ ⟨i, hv, hm, hlen, hI⟩
  dsimp only at hv hlen hI
  subst hv
  unfold zq11_L1
  dsimp only
  refine .iteP (fun hlt => ?_) (fun hge => .dn ⟨fun x => ?_, by show l.length ≤ 12; omega⟩)
  ·obtain ⟨x, hx⟩ := get_ex (l := t.Trips) (i := i) (by omega)
   obtain ⟨ln, hln, hP, _, hs, _⟩ := trip_line hT hx
   obtain ⟨⟨r1, r2, r3⟩, _⟩ := line_runs hP
   have ew : w64 ((ln.Stops.length : Int) - 1) = (ln.Stops.length : Int) - 1 := w64_id (by omega)
   refine .call (P := fun l' => l'.length ≤ i + 1 ∧ ∀ x, x ∈ l' ↔ ∃ (k : Nat) (b r : Int), k < i + 1 ∧ LR t k stop x b r) (.eq (ixs hx) (.eq (lineOf_eq hln) (.eq (stopTimes_eq hln hP hs) (.eq (index_int_eq ln.Stops (by omega) stop) ?_)))) fun l' ⟨z1, z2⟩ => .nx ⟨m - 1, by omega, i + 1, w64_succ (by omega), by omega, z1, z2⟩
   rw [ew]
   have hr := fixI_rng (fun e => stop == e) ln.Stops
   have here : ∀ y, (∃ (b r : Int), LR t i stop y b r) ↔ ∃ a : Nat, fixI (fun e => stop == e) ln.Stops = a ∧ (a : Int) < (ln.Stops.length : Int) - 1 ∧ y = x.Start + (ln.Runs.take a).sum := by
    intro y
    constructor
    ·rintro ⟨b, r, x', l', p, q, hx', hl', hpq, hp, hq, rfl, _⟩
     rw [hx] at hx'; cases hx'
     rw [hln] at hl'; cases hl'
     have := get_lt hq
     exact ⟨p, (hP.2.2.1 p stop hp).2, by omega, rfl⟩
    ·rintro ⟨a, ha, hlt, rfl⟩
     obtain ⟨u, u1, u2, _⟩ := fixI_at ha
     have eu : stop = u := by simpa using u2
     subst eu
     obtain ⟨b, hb⟩ := get_ex (l := ln.Stops) (i := a + 1) (by omega)
     exact ⟨b, _, x, ln, a, a + 1, hx, hln, by omega, u1, hb, rfl, rfl⟩
   revert hr here
   generalize fixI (fun e => stop == e) ln.Stops = p
   intro hr here
   refine .call (P := fun b => b = decide (0 ≤ p ∧ p < (ln.Stops.length : Int) - 1)) (.iteP (fun h => .ok (by simp [h])) fun h => .ok (by simp [h])) fun b hB => ?_
   subst hB
   refine .iteP (fun hc => ?_) fun hc => .ok ⟨by omega, fun y => ?_⟩
   ·obtain ⟨a, rfl⟩ : ∃ a : Nat, p = a := ⟨p.toNat, by omega⟩
    refine .eq (ixs (ST_at (l := ln) (s := x.Start) (k := a) (by omega))) (.chk (by simp; omega) (.ok ⟨by simp; omega, fun y => ?_⟩))
    rw [List.mem_append, List.mem_singleton, hI]
    constructor
    ·rintro (⟨k, b, r, h1, h2⟩ | h)
     ·exact ⟨k, b, r, by omega, h2⟩
     ·obtain ⟨b, r, h2⟩ := (here y).2 ⟨a, rfl, by omega, h⟩
      exact ⟨i, b, r, by omega, h2⟩
    ·rintro ⟨k, b, r, h1, h2⟩
     by_cases hk : k = i
     ·subst hk
      obtain ⟨a', e1, _, e3⟩ := (here y).1 ⟨b, r, h2⟩
      have : a' = a := by omega
      subst this
      exact .inr e3
     ·exact .inl ⟨k, b, r, by omega, h2⟩
   ·rw [hI]
    constructor
    ·rintro ⟨k, b, r, h1, h2⟩; exact ⟨k, b, r, by omega, h2⟩
    ·rintro ⟨k, b, r, h1, h2⟩
     by_cases hk : k = i
     ·subst hk
      obtain ⟨a', e1, e2, _⟩ := (here y).1 ⟨b, r, h2⟩
      exact absurd ⟨by omega, by omega⟩ hc
     ·exact ⟨k, b, r, by omega, h2⟩
  ·show x ∈ l ↔ _
   rw [hI]
   constructor
   ·rintro ⟨k, b, r, _, h2⟩; exact ⟨k, b, r, h2⟩
   ·rintro ⟨k, b, r, h2⟩
    have h3 := h2
    obtain ⟨x', _, _, _, hx', _⟩ := h3
    have := get_lt hx'
    exact ⟨k, b, r, by omega, h2⟩
 ·refine .call (sort_int l (by omega)) fun s ⟨s1, s2⟩ => ?_
  have hsl := s1.length_eq
  obtain ⟨c1, c2⟩ := cmp_ok s2 s.length (Nat.le_refl _)
  refine .eq (show zq83 s = some (Lib.compactUpTo s.toArray s.length) from rfl) (.ok ⟨c1, fun x => ?_, ?_⟩)
  ·rw [c2, List.take_length, s1.mem_iff, hl]
  ·have : (Lib.compactUpTo s.toArray s.length).length ≤ s.length := by
    unfold Lib.compactUpTo
    rw [List.length_map]
    exact Nat.le_trans (List.length_filter_le ..) (by simp)
   omega
theorem sdep_ok {t : Timetable} (hT : GoodT t) (stop : Int) : Tot (zq78 t stop) fun l => ∃ E : List Int, l = E.reverse ∧ E.Pairwise (· < ·) ∧ (∀ x, DepT t stop x → x ∈ E) ∧ (∀ x ∈ E, 0 ≤ x ∧ x ≤ 1799) ∧ E.length ≤ 12 := by
 have h12 := hT.2.1
 unfold zq78
 refine .call (P := fun E => E.Pairwise (· < ·) ∧ (∀ x, DepT t stop x → x ∈ E) ∧ (∀ x ∈ E, 0 ≤ x ∧ x ≤ 1799) ∧ E.length ≤ 12) ?_ fun E ⟨e1, e2, e3, e4⟩ => .eq (l2Back_eq E (by omega)) (.ok ⟨E, rfl, e1, e2, e3, e4⟩)
 refine .iter (fun m s => ∃ i : Nat, s.2 = (i : Int) ∧ m + i = t.Trips.length ∧ s.1.length ≤ i ∧ s.1.Pairwise (· < ·) ∧ (∀ (k : Nat) (x b r : Int), k < i → LR t k stop x b r → x ∈ s.1) ∧ ∀ x ∈ s.1, 0 ≤ x ∧ x ≤ 1799) (n := t.Trips.length) ⟨0, rfl, by omega, by simp, by simp, fun k x b r h => by omega, by simp⟩ ?_
 rintro m ⟨l, v⟩ ⟨i, hv, hm, hlen, hpw, hI, hrng⟩
 dsimp only at hv hlen hpw hI hrng
 subst hv
 unfold zq78_L1
 dsimp only
 refine .iteP (fun hlt => ?_) (fun hge => .dn ⟨hpw, fun x ⟨k, b, r, h⟩ => ?_, hrng, by show l.length ≤ 12; omega⟩)
 ·obtain ⟨x, hx⟩ := get_ex (l := t.Trips) (i := i) (by omega)
  obtain ⟨ln, hln, hP, _, hs, he⟩ := trip_line hT hx
  obtain ⟨⟨r1, r2, r3⟩, _⟩ := line_runs hP
  refine .call (P := fun l' => l'.length ≤ i + 1 ∧ l'.Pairwise (· < ·) ∧ (∀ (k : Nat) (x b r : Int), k < i + 1 → LR t k stop x b r → x ∈ l') ∧ ∀ x ∈ l', 0 ≤ x ∧ x ≤ 1799) (.eq (l5Line_eq hx hln) (.eq (l2Place_eq ln (by omega) stop) ?_)) fun l' hz => .nx ⟨m - 1, by omega, i + 1, w64_succ (by omega), by omega, hz⟩
  have hr := fixI_rng (fun e => stop == e) ln.Stops
  have here : ∀ y b r, LR t i stop y b r → ∃ a : Nat, fixI (fun e => stop == e) ln.Stops = a ∧ y = x.Start + (ln.Runs.take a).sum := by
   rintro y b r ⟨x', l', p, q, hx', hl', hpq, hp, hq, rfl, _⟩
   rw [hx] at hx'; cases hx'
   rw [hln] at hl'; cases hl'
   exact ⟨p, (hP.2.2.1 p stop hp).2, rfl⟩
  revert hr here
  generalize fixI (fun e => stop == e) ln.Stops = p
  intro hr here
  refine .iteP (fun hc => ?_) fun hc => .ok ⟨by omega, hpw, fun k y b r hk h => ?_, hrng⟩
  ·obtain ⟨a, rfl⟩ : ∃ a : Nat, p = a := ⟨p.toNat, by omega⟩
   have hb1 := runs_sum hP a
   have hb2 := runs_le hP (p := a) (q := ln.Runs.length) (by omega) (Nat.le_refl _)
   rw [List.take_length] at hb2
   refine .eq (l5At_eq hT.1 hx hln hs (k := a) (by omega)) (.call ((put_ok hpw (by omega) _).mono (fun r h => h)) fun l' ⟨z1, z2⟩ => .ok ⟨?_, z1, fun k y b r hk h => ?_, fun y hy => ?_⟩)
   ·have hsub : l'.length ≤ (l ++ [x.Start + (ln.Runs.take a).sum]).length := by
     refine nd_len z1 fun y hy => ?_
     rw [List.mem_append, List.mem_singleton]
     exact (z2 y).1 hy
    simp at hsub; omega
   ·rw [z2]
    by_cases hki : k = i
    ·subst hki
     obtain ⟨a', e1, e2⟩ := here y b r h
     have : a' = a := by omega
     subst this
     exact .inr e2
    ·exact .inl (hI k y b r (by omega) h)
   ·rcases (z2 y).1 hy with h | rfl
    ·exact hrng y h
    ·omega
  ·by_cases hki : k = i
   ·subst hki
    obtain ⟨a', e1, e2⟩ := here y b r h
    omega
   ·exact hI k y b r (by omega) h
 ·have h2 := h
  obtain ⟨x', _, _, _, hx', _⟩ := h2
  have := get_lt hx'
  exact hI k x b r (by omega) h
theorem bA_w {t : Timetable} (hT : GoodT t) {change : Int} (hc : 0 ≤ change ∧ change ≤ 30) {a c : Int} (ha : 0 ≤ a ∧ a < (t.Network.Stops.length : Int)) (h : 0 ≤ c ∧ c < (t.Network.Stops.length : Int)) {w w' : Int} (hw : w ≤ w') {n : Nat} (hn : n ≤ 1000) : bA t change a w c n ≤ bA t change a w' c n := by
 have h1 := bA_ab hT hc ha h w hn
 rcases bA_ab hT hc ha h w' hn with ⟨g1, g2⟩ | ⟨⟨k, g1, g2⟩, _⟩
 ·rcases bA_rng hT hc ha h w hn with e | e <;> omega
 ·rcases h1 with ⟨_, q⟩ | ⟨_, q⟩
  ·exact absurd (chn_w g2 hw) (q _ _ g1)
  ·exact q _ _ g1 (chn_w g2 hw)
theorem bA_skip {t : Timetable} (hT : GoodT t) {change : Int} (hc : 0 ≤ change ∧ change ≤ 30) {a c : Int} (ha : 0 ≤ a ∧ a < (t.Network.Stops.length : Int)) (h : 0 ≤ c ∧ c < (t.Network.Stops.length : Int)) {w : Int} (hd : ¬ DepT t a w) {n : Nat} (hn : n ≤ 1000) : bA t change a w c n = bA t change a (w + 1) c n := by
 have up : ∀ k τ, Chn (LR t) change k a w c τ → Chn (LR t) change k a (w + 1) c τ := by
  intro k τ hk
  cases k with
  | zero => exact hk
  | succ k =>
   obtain ⟨i, d, b, r, h1, h2, h3⟩ := hk
   refine ⟨i, d, b, r, h1, ?_, h3⟩
   have : d ≠ w := fun e => hd (by rw [← e]; exact ⟨i, b, r, h1⟩)
   omega
 refine ab_uniq (bA_ab hT hc ha h w hn) ?_
 rcases bA_ab hT hc ha h (w + 1) hn with ⟨g1, g2⟩ | ⟨⟨k, g1, g2⟩, g3⟩
 ·exact .inl ⟨g1, fun k τ hk hch => g2 k τ hk (up k τ hch)⟩
 ·exact .inr ⟨⟨k, g1, chn_w g2 (by omega)⟩, fun k τ hk hch => g3 k τ hk (up k τ hch)⟩
theorem bA_next {t : Timetable} (hT : GoodT t) {change : Int} (hc : 0 ≤ change ∧ change ≤ 30) {a c : Int} (ha : 0 ≤ a ∧ a < (t.Network.Stops.length : Int)) (h : 0 ≤ c ∧ c < (t.Network.Stops.length : Int)) {n : Nat} (hn : n ≤ 1000) : ∀ (m : Nat) {w : Int}, (∀ x, w ≤ x → x < w + m → ¬ DepT t a x) → bA t change a w c n = bA t change a (w + m) c n
 | 0, w, _ => by rw [show w + ((0 : Nat) : Int) = w by omega]
 | m + 1, w, hd => by
  rw [bA_next hT hc ha h hn m (w := w) fun x h1 h2 => hd x h1 (by omega), bA_skip hT hc ha h (hd (w + m) (by omega) (by omega)) hn, show w + (m : Int) + 1 = w + ((m + 1 : Nat) : Int) by omega]
theorem bA_none {t : Timetable} (hT : GoodT t) {change : Int} (hc : 0 ≤ change ∧ change ≤ 30) {a c : Int} (ha : 0 ≤ a ∧ a < (t.Network.Stops.length : Int)) (h : 0 ≤ c ∧ c < (t.Network.Stops.length : Int)) {n : Nat} (hn : n ≤ 1000) {w : Int} (hd : ∀ x, w ≤ x → ¬ DepT t a x) : bA t change a w c n = 1073741824 := by
 refine ab_uniq (bA_ab hT hc ha h w hn) (.inl ⟨rfl, fun k τ hk hch => ?_⟩)
 cases k with
 | zero => exact hch
 | succ k =>
  obtain ⟨i, d, b, r, h1, h2, _⟩ := hch
  exact hd d h2 ⟨i, b, r, h1⟩
section
variable (A : Int → Nat → Int)
def c1b (τ : Int) (k : Nat) : Bool := decide (A τ k < A τ (k - 1))
def c2b (τ : Int) (k : Nat) : Bool := decide (A τ k < A (τ + 1) k)
def chs (τ : Int) (p : Nat → Bool) (ks : List Nat) : List Choice := (ks.filter p).map fun k => ⟨τ, A τ k, k⟩
def allC (D : List Int) : List Choice := D.flatMap fun τ => chs A τ (c1b A τ) [1, 2, 3, 4]
def prof (D : List Int) : List Choice := D.flatMap fun τ => chs A τ (fun k => c1b A τ k && c2b A τ k) [1, 2, 3, 4]
def better (a b : Choice) : Prop := a ≠ b ∧ b.Depart ≤ a.Depart ∧ a.Arrive ≤ b.Arrive ∧ a.Legs ≤ b.Legs
end
theorem allC_mem {A : Int → Nat → Int} {D : List Int} {c : Choice} : c ∈ allC A D ↔ ∃ τ k, τ ∈ D ∧ (1 ≤ k ∧ k ≤ 4) ∧ A τ k < A τ (k - 1) ∧ c = ⟨τ, A τ k, (k : Int)⟩ := by
 unfold allC chs c1b
 simp only [List.mem_flatMap, List.mem_map, List.mem_filter, decide_eq_true_eq]
 constructor
 ·rintro ⟨τ, h1, k, ⟨h2, h3⟩, rfl⟩
  refine ⟨τ, k, h1, ?_, h3, rfl⟩
  simp at h2; omega
 ·rintro ⟨τ, k, h1, h2, h3, rfl⟩
  refine ⟨τ, h1, k, ⟨?_, h3⟩, rfl⟩
  simp; omega
theorem prof_mem {A : Int → Nat → Int} {D : List Int} {c : Choice} : c ∈ prof A D ↔ ∃ τ k, τ ∈ D ∧ (1 ≤ k ∧ k ≤ 4) ∧ A τ k < A τ (k - 1) ∧ A τ k < A (τ + 1) k ∧ c = ⟨τ, A τ k, (k : Int)⟩ := by
 unfold prof chs c1b c2b
 simp only [List.mem_flatMap, List.mem_map, List.mem_filter, Bool.and_eq_true, decide_eq_true_eq]
 constructor
 ·rintro ⟨τ, h1, k, ⟨h2, h3, h4⟩, rfl⟩
  refine ⟨τ, k, h1, ?_, h3, h4, rfl⟩
  simp at h2; omega
 ·rintro ⟨τ, k, h1, h2, h3, h4, rfl⟩
  refine ⟨τ, h1, k, ⟨?_, h3, h4⟩, rfl⟩
  simp; omega
def ArrP (A : Int → Nat → Int) (D : List Int) : Prop := (∀ τ k k', k ≤ k' → k' ≤ 4 → A τ k' ≤ A τ k) ∧ (∀ τ τ' k, τ ≤ τ' → k ≤ 4 → A τ k ≤ A τ' k) ∧ (∀ τ, A τ 0 = 1073741824) ∧ (∀ τ k, k ≤ 4 → A τ k ≤ 1073741824) ∧
 ∀ τ k, k ≤ 4 → (∃ τ', τ' ∈ D ∧ τ ≤ τ' ∧ A τ' k = A τ k) ∨ A τ k = 1073741824
theorem leastN {P : Nat → Prop} : ∀ n, P n → ∃ m, P m ∧ ∀ j, j < m → ¬ P j := by
 intro n
 induction n using Nat.strongRecOn with
 | _ n ih =>
  intro h
  by_cases hx : ∃ j, j < n ∧ P j
  ·obtain ⟨j, h1, h2⟩ := hx; exact ih j h1 h2
  ·exact ⟨n, h, fun j h1 h2 => hx ⟨j, h1, h2⟩⟩
theorem best_iff {A : Int → Nat → Int} {D : List Int} (h : ArrP A D) {τ : Int} {k : Nat} (hτ : τ ∈ D) (hk : 1 ≤ k ∧ k ≤ 4) (h1 : A τ k < A τ (k - 1)) : (∃ b ∈ allC A D, better b ⟨τ, A τ k, k⟩) ↔ ¬ A τ k < A (τ + 1) k := by
 obtain ⟨a1, a2, a3, a4, a5⟩ := h
 constructor
 ·rintro ⟨b, hb, hne, g1, g2, g3⟩ hlt
  obtain ⟨τ', k', p1, p2, p3, rfl⟩ := allC_mem.1 hb
  dsimp only at g1 g2 g3
  by_cases ht : τ' = τ
  ·subst ht
   by_cases hkk : k' = k
   ·subst hkk; exact hne rfl
   ·have := a1 τ' k' (k - 1) (by omega) (by omega)
    omega
  ·have q1 := a2 (τ + 1) τ' k (by omega) hk.2
   have q2 := a1 τ' k' k (by omega) hk.2
   omega
 ·intro hge
  have hv := a2 τ (τ + 1) k (by omega) hk.2
  have he : A (τ + 1) k = A τ k := by omega
  have hnv : A τ k < 1073741824 := by have := a4 τ (k - 1) (by omega); omega
  rcases a5 (τ + 1) k hk.2 with ⟨τ', m1, m2, m3⟩ | m3
  ·-- the fewest legs with which one arrives then
   obtain ⟨k', hk', hmin⟩ : ∃ k', (k' ≤ k ∧ A τ' k' = A τ k) ∧ ∀ j, j < k' → ¬ (j ≤ k ∧ A τ' j = A τ k) := by
    exact leastN (P := fun k' => k' ≤ k ∧ A τ' k' = A τ k) k ⟨Nat.le_refl _, by omega⟩
   have hk0 : 1 ≤ k' := by
    rcases Nat.eq_zero_or_pos k' with h0 | h0
    ·subst h0; have := a3 τ'; omega
    ·exact h0
   have hlt : A τ' k' < A τ' (k' - 1) := by
    have := a1 τ' (k' - 1) k' (by omega) (by omega)
    have hn := hmin (k' - 1) (by omega)
    have : A τ' (k' - 1) ≠ A τ k := fun e => hn ⟨by omega, e⟩
    omega
   refine ⟨⟨τ', A τ' k', k'⟩, allC_mem.2 ⟨τ', k', m1, ⟨hk0, by omega⟩, hlt, rfl⟩, fun e => ?_, by dsimp only; omega, by dsimp only; omega, by dsimp only; omega⟩
   have := congrArg Choice.Depart e
   dsimp only at this
   omega
  ·omega
theorem prof_eq {A : Int → Nat → Int} {D : List Int} (h : ArrP A D) (q : Choice → Bool) (hq : ∀ c ∈ allC A D, q c = true ↔ ¬ ∃ b ∈ allC A D, better b c) : (allC A D).filter q = prof A D := by
 unfold prof
 have key : ∀ E : List Int, (∀ τ ∈ E, τ ∈ D) → (E.flatMap fun τ => chs A τ (c1b A τ) [1, 2, 3, 4]).filter q = E.flatMap fun τ => chs A τ (fun k => c1b A τ k && c2b A τ k) [1, 2, 3, 4] := by
  intro E
  induction E with
  | nil => intro _; rfl
  | cons τ E ih =>
   intro hE
   rw [List.flatMap_cons, List.flatMap_cons, List.filter_append, ih fun x hx => hE x (List.mem_cons_of_mem _ hx)]
   congr 1
   unfold chs
   rw [List.filter_map, List.filter_filter]
   congr 1
   apply List.filter_congr
   intro k hk
   have hk2 : 1 ≤ k ∧ k ≤ 4 := by simp at hk; omega
   show ((q ∘ fun k => ⟨τ, A τ k, (k : Int)⟩) k && c1b A τ k) = (c1b A τ k && c2b A τ k)
   rcases Bool.eq_false_or_eq_true (c1b A τ k) with h1 | h1
   ·rw [h1, Bool.and_true, Bool.true_and]
    have h1' : A τ k < A τ (k - 1) := of_decide_eq_true h1
    have hm := allC_mem.2 ⟨τ, k, hE τ (List.mem_cons_self ..), hk2, h1', rfl⟩
    have h2 := hq _ hm
    have h3 := best_iff h (hE τ (List.mem_cons_self ..)) hk2 h1'
    rw [h3] at h2
    rw [Bool.eq_iff_iff]
    show q _ = true ↔ decide _ = true
    rw [h2, decide_eq_true_eq, Decidable.not_not]
   ·rw [h1, Bool.and_false, Bool.false_and]
 exact key D fun _ h => h
theorem chs_app (A : Int → Nat → Int) (τ : Int) (p : Nat → Bool) (a b : List Nat) : chs A τ p (a ++ b) = chs A τ p a ++ chs A τ p b := by unfold chs; rw [List.filter_append, List.map_append]
theorem chs_one (A : Int → Nat → Int) (τ : Int) (p : Nat → Bool) (k : Nat) : chs A τ p [k] = if p k = true then [⟨τ, A τ k, (k : Int)⟩] else [] := by
 unfold chs
 by_cases h : p k = true <;> simp [h]
theorem k4 {k : Nat} (h : k < 4) : ([1, 2, 3, 4] : List Nat).take (k + 1) = ([1, 2, 3, 4] : List Nat).take k ++ [k + 1] := by
 rcases (by omega : k = 0 ∨ k = 1 ∨ k = 2 ∨ k = 3) with rfl | rfl | rfl | rfl <;> rfl
theorem chs_len (A : Int → Nat → Int) (τ : Int) (p : Nat → Bool) (l : List Nat) : (chs A τ p l).length ≤ l.length := by
 unfold chs; rw [List.length_map]; exact List.length_filter_le ..
theorem chs_last (A : Int → Nat → Int) (τ : Int) (p : Nat → Bool) : ∀ k, k ≤ 4 → (chs A τ p (([1, 2, 3, 4] : List Nat).take k) = [] ∧ ∀ j, 1 ≤ j → j ≤ k → p j = false) ∨ ∃ q j, chs A τ p (([1, 2, 3, 4] : List Nat).take k) = q ++ [⟨τ, A τ j, (j : Int)⟩] ∧ (1 ≤ j ∧ j ≤ k) ∧ p j = true ∧ ∀ j', j < j' → j' ≤ k → p j' = false
 | 0, _ => .inl ⟨rfl, fun j h1 h2 => by omega⟩
 | k + 1, hk => by
  rw [k4 (by omega), chs_app, chs_one]
  by_cases h : p (k + 1) = true
  ·rw [if_pos h]
   exact .inr ⟨_, k + 1, rfl, by omega, h, fun j' h1 h2 => by omega⟩
  ·rw [if_neg h, List.append_nil]
   have h : p (k + 1) = false := by simpa using h
   rcases chs_last A τ p k (by omega) with ⟨h1, h2⟩ | ⟨q, j, h1, h2, h3, h4⟩
   ·refine .inl ⟨h1, fun j a b => ?_⟩
    by_cases hj : j = k + 1
    ·subst hj; exact h
    ·exact h2 j a (by omega)
   ·refine .inr ⟨q, j, h1, by omega, h3, fun j' a b => ?_⟩
    by_cases hj : j' = k + 1
    ·subst hj; exact h
    ·exact h4 j' a (by omega)
noncomputable def AA (t : Timetable) (change a c τ : Int) (k : Nat) : Int := bA t change a τ c k
theorem aa_ok {t : Timetable} (hT : GoodT t) {change : Int} (hc : 0 ≤ change ∧ change ≤ 30) {a c : Int} (ha : 0 ≤ a ∧ a < (t.Network.Stops.length : Int)) (h : 0 ≤ c ∧ c < (t.Network.Stops.length : Int)) {D : List Int} (hD : ∀ x, x ∈ D ↔ DepT t a x) : ArrP (AA t change a c) D := by
 refine ⟨fun τ k k' h1 h2 => bA_mono hT hc ha h τ (by omega) h1, fun τ τ' k h1 h2 => bA_w hT hc ha h h1 (by omega), fun τ => ab_zero (bA_ab hT hc ha h τ (by omega)), fun τ k h1 => ?_, fun τ k h1 => ?_⟩
 ·show bA t change a τ c k ≤ _
  rcases bA_rng hT hc ha h τ (n := k) (by omega) with e | e <;> omega
 ·by_cases hv : bA t change a τ c k = 1073741824
  ·exact .inr hv
  ·left
   obtain ⟨⟨m, m1, m2⟩, m3⟩ := bA_min hT hc ha h τ (by omega) hv
   cases m with
   | zero => exact m2.elim
   | succ m =>
    obtain ⟨i, d, b, r, g1, g2, g3⟩ := m2
    refine ⟨d, (hD d).2 ⟨i, b, r, g1⟩, g2, ?_⟩
    have q1 := bA_w hT hc ha h (n := k) g2 (by omega)
    have q2 : bA t change a d c k ≤ bA t change a τ c k := by
     rcases bA_ab hT hc ha h d (n := k) (by omega) with ⟨_, e⟩ | ⟨_, e⟩
     ·exact absurd (⟨i, d, b, r, g1, Int.le_refl _, g3⟩ : Chn (LR t) change (m + 1) a d c _) (e _ _ m1)
     ·exact e _ _ m1 ⟨i, d, b, r, g1, Int.le_refl _, g3⟩
    show bA t change a d c k = bA t change a τ c k
    omega
noncomputable instance (a b : Choice) : Decidable (better a b) := Classical.propDecidable _
noncomputable instance (l : List Choice) (c : Choice) : Decidable (∃ b ∈ l, better b c) := Classical.propDecidable _
theorem ch_beq (a b : Choice) : ((a.Depart == b.Depart) && ((a.Arrive == b.Arrive) && ((a.Legs == b.Legs) && true))) = true ↔ a = b := by
 cases a; cases b
 simp
theorem isBetter_eq (a b : Choice) : zq14 a b = some (decide (better a b)) := by
 unfold zq14
 have e : (!((a.Depart == b.Depart) && ((a.Arrive == b.Arrive) && ((a.Legs == b.Legs) && true)))) = true ↔ a ≠ b := by
  rw [Bool.not_eq_true', ← Bool.not_eq_true, ch_beq]
 by_cases h : a = b
 ·subst h
  simp [better]
 ·rw [if_pos (e.2 h)]
  by_cases h1 : b.Depart ≤ a.Depart <;> by_cases h2 : a.Arrive ≤ b.Arrive <;> by_cases h3 : a.Legs ≤ b.Legs <;> simp [better, h, h1, h2, h3]
theorem anyBetter_eq (l : List Choice) (hl : l.length ≤ 1000) (c : Choice) : zq85 l c = some (decide (∃ b ∈ l, better b c)) := by
 unfold zq85 zq84 zq86
 rw [find_val l (fun x => decide (better x c)) (fun i x hx => ?_) (by unfold zq86_L1; simp)]
 ·simp only [qb]
  congr 1
  rw [decide_eq_decide]
  constructor
  ·intro h0
   obtain ⟨k, hk⟩ : ∃ k : Nat, fixI (fun x : Choice => decide (better x c)) l = k := ⟨(fixI (fun x : Choice => decide (better x c)) l).toNat, by omega⟩
   obtain ⟨x, a, b, _⟩ := fixI_at hk
   exact ⟨x, List.mem_of_getElem? a, by simpa using b⟩
  ·rintro ⟨p, hp, he⟩
   by_cases hn : fixI (fun x : Choice => decide (better x c)) l < 0
   ·have := fixI_neg hn p hp
    simp [he] at this
   ·omega
 ·have := get_lt hx
  unfold zq86_L1 zq29
  simp only [isBetter_eq]
  simp (disch := omega) only [if_pos, if_neg, decide_eq_true_eq, decide_true, decide_false, Bool.not_true, Bool.not_false, Bool.false_eq_true, Bool.not_eq_true', decide_eq_false_iff_not, if_true, if_false, w64_id, chk_of, idx_nat, qb, Option.map_some, Int.toNat_natCast, not_true_eq_false, not_false_eq_true, true_and, and_true, and_self, false_and, and_false, reduceIte, flb_go, flb_ret, beq_self_eq_true, ne_eq, bne_self_eq_false, hx, Int.ofNat_lt.2 this]
  split <;> simp [*] <;> omega
theorem iprof_ok {t : Timetable} (hT : GoodT t) {change : Int} (hc : 0 ≤ change ∧ change ≤ 30) {a c : Int} (ha : 0 ≤ a ∧ a < (t.Network.Stops.length : Int)) (h : 0 ≤ c ∧ c < (t.Network.Stops.length : Int)) : Tot (zq28 t change a c) fun r => ∃ D : List Int, D.Pairwise (· < ·) ∧ (∀ x, x ∈ D ↔ DepT t a x) ∧ D.length ≤ 12 ∧ r = prof (AA t change a c) D := by
 unfold zq28
 refine .call (idep_ok hT a) fun D ⟨d1, d2, d3⟩ => ?_
 have hA := aa_ok hT hc ha h d2
 refine .call (P := fun l => l = allC (AA t change a c) D ∧ l.length ≤ 48) ?_ fun l ⟨hl, hl2⟩ => ?_
 ·refine .iter (fun m s => ∃ i : Nat, s.1 = (i : Int) ∧ m + i = D.length ∧ s.2 = allC (AA t change a c) (D.take i) ∧ s.2.length ≤ 4 * i) (n := D.length) ⟨0, rfl, by omega, rfl, by simp⟩ ?_
  rintro m ⟨v, l⟩ ⟨i, hv, hm, hl, hlen⟩
  dsimp only at hv hl hlen
  subst hv
  unfold zq28_L2
  dsimp only
  refine .iteP (fun hlt => ?_) (fun hge => .dn ⟨by rw [hl, List.take_of_length_le (by omega)], by show l.length ≤ 48; omega⟩)
  obtain ⟨τ, hτ⟩ := get_ex (l := D) (i := i) (by omega)
  refine .eq (ixs hτ) (.call (P := fun l' => l' = l ++ chs (AA t change a c) τ (c1b (AA t change a c) τ) [1, 2, 3, 4]) ?_ fun l' hl' => .nx ⟨m - 1, by omega, i + 1, w64_succ (by omega), by omega, ?_, ?_⟩)
  ·refine .iter (fun m s => ∃ k : Nat, s.2.1 = ((k + 1 : Nat) : Int) ∧ m + k = 4 ∧ s.1 = AA t change a c τ k ∧ s.2.2 = l ++ chs (AA t change a c) τ (c1b (AA t change a c) τ) (([1, 2, 3, 4] : List Nat).take k)) (n := 4) ⟨0, rfl, rfl, (hA.2.2.1 τ).symm, by show l = l ++ []; rw [List.append_nil]⟩ ?_
   rintro m' ⟨v1, cc, ls⟩ ⟨k, hv, hm', hb, hls⟩
   dsimp only at hv hb hls
   subst hv; subst hb
   have hcl := chs_len (AA t change a c) τ (c1b (AA t change a c) τ) (([1, 2, 3, 4] : List Nat).take k)
   have htk : (([1, 2, 3, 4] : List Nat).take k).length ≤ 4 := by rw [List.length_take]; simp; omega
   unfold zq28_L1
   dsimp only
   refine .iteP (fun hlt2 => ?_) (fun hge2 => .dn (by rw [hls, show k = 4 by omega]; rfl))
   refine .call (P := fun o => o.1 = AA t change a c τ (k + 1) ∧ o.2 = ls ++ chs (AA t change a c) τ (c1b (AA t change a c) τ) [k + 1]) (ra_ok hT hc ha τ (by omega) fun o ho1 ho2 => .eq (gv_idx h.1 (by omega)) ?_) fun ⟨v2, l2⟩ ⟨z1, z2⟩ => .nx ⟨m' - 1, by omega, k + 1, w64_succ (by omega), by omega, z1, by dsimp only at z2 ⊢; rw [z2, hls, k4 (by omega), chs_app, List.append_assoc]⟩
   have he : gv o c = AA t change a c τ (k + 1) := by
    have := ab_uniq (ho2 c h.1 h.2) (by rw [Int.toNat_natCast]; exact bA_ab hT hc ha h τ (n := k + 1) (by omega))
    exact this
   rw [he, chs_one]
   have hmn := hA.1 τ k (k + 1) (by omega) (by omega)
   refine .iteP (fun hq => .chk (by rw [hls]; simp; omega) (.ok ⟨rfl, by rw [if_pos (show c1b (AA t change a c) τ (k + 1) = true from decide_eq_true hq)]⟩)) fun hq => .ok ⟨by dsimp only; omega, by rw [if_neg (show ¬ c1b (AA t change a c) τ (k + 1) = true from fun e => hq (of_decide_eq_true e)), List.append_nil]⟩
  ·dsimp only
   rw [hl', hl, take_succ hτ]
   unfold allC
   rw [List.flatMap_append]
   simp
  ·dsimp only
   have := chs_len (AA t change a c) τ (c1b (AA t change a c) τ) [1, 2, 3, 4]
   rw [hl', List.length_append]
   simp at this
   omega
 ·refine .call (P := fun r => r = l.filter fun e => !decide (∃ b ∈ l, better b e)) ?_ fun r hr => .ok ⟨D, d1, d2, d3, ?_⟩
  ·refine .iter (fun m s => ∃ i : Nat, s.1 = (i : Int) ∧ m + i = l.length ∧ s.2 = (l.take i).filter fun e => !decide (∃ b ∈ l, better b e)) (n := l.length) ⟨0, rfl, by omega, rfl⟩ ?_
   rintro m ⟨v, o⟩ ⟨i, hv, hm, ho⟩
   dsimp only at hv ho
   subst hv
   unfold zq28_L3
   dsimp only
   refine .iteP (fun hlt => ?_) (fun hge => .dn (by rw [ho, List.take_of_length_le (by omega)]))
   obtain ⟨e, he⟩ := get_ex (l := l) (i := i) (by omega)
   have hol : o.length ≤ i := by
    rw [ho]
    exact Nat.le_trans (List.length_filter_le ..) (by simp; omega)
   refine .call (P := fun o' => o' = (l.take (i + 1)).filter fun e => !decide (∃ b ∈ l, better b e)) (.eq (ixs he) (.eq (anyBetter_eq l (by omega) e) ?_)) fun o' ho' => .nx ⟨m - 1, by omega, i + 1, w64_succ (by omega), by omega, ho'⟩
   rw [take_succ he, List.filter_append, ← ho]
   refine .ite (fun hq => .chk (by simp; omega) (.ok ?_)) fun hq => .ok ?_
   ·rw [List.filter_cons, if_pos hq]; rfl
   ·rw [List.filter_cons, if_neg (by rw [hq]; simp)]; simp
  ·rw [hr, hl]
   refine prof_eq hA _ fun e _ => ?_
   rw [Bool.not_eq_true', decide_eq_false_iff_not]
theorem sprof_ok {t : Timetable} (hT : GoodT t) {change : Int} (hc : 0 ≤ change ∧ change ≤ 30) {a c : Int} (ha : 0 ≤ a ∧ a < (t.Network.Stops.length : Int)) (h : 0 ≤ c ∧ c < (t.Network.Stops.length : Int)) (hne : c ≠ a) : Tot (zq82 t change a c) fun r => ∃ E : List Int, E.Pairwise (· < ·) ∧ (∀ x, DepT t a x → x ∈ E) ∧ r = prof (AA t change a c) E := by
 unfold zq82
 refine .call (sdep_ok hT a) fun l ⟨E, hl, e1, e2, e3, e4⟩ => ?_
 subst hl
 let enc : Int → Int := fun v => if v = 1073741824 then -1 else v
 have encn : ∀ (τ : Int) (k : Nat), k ≤ 4 → (enc (AA t change a c τ k) = -1 ∧ AA t change a c τ k = 1073741824) ∨ (enc (AA t change a c τ k) = AA t change a c τ k ∧ 0 ≤ AA t change a c τ k ∧ AA t change a c τ k < 1073741824) := by
  intro τ k hk
  rcases bA_rng hT hc ha h τ (n := k) (by omega) with e | e
  ·exact .inl ⟨if_pos e, e⟩
  ·exact .inr ⟨if_neg (by show ¬ bA t change a τ c k = _; omega), by show 0 ≤ bA t change a τ c k; omega, by show bA t change a τ c k < _; omega⟩
 refine .call (P := fun o => o = prof (AA t change a c) E) ?_ fun o ho => .ok ⟨E, e1, e2, ho⟩
 refine .iter (fun m s => ∃ i : Nat, s.1 = (i : Int) ∧ m + i = E.length ∧ s.2.1 = prof (AA t change a c) (E.drop m) ∧ s.2.1.length ≤ 4 * i ∧ s.2.2.length = 5 ∧ ∃ σ : Int, (∀ (j : Nat) x, j < m → E[j]? = some x → x < σ) ∧ (∀ (j : Nat) x, m ≤ j → E[j]? = some x → σ ≤ x) ∧ ∀ k : Nat, 1 ≤ k → k ≤ 4 → s.2.2[k]? = some (enc (AA t change a c σ k))) (n := E.length) ⟨0, rfl, by omega, by dsimp only; rw [List.drop_length]; rfl, by simp, rfl, 2000, fun j x _ hx => by have := e3 x (List.mem_of_getElem? hx); omega, fun j x hj hx => by have := get_lt hx; omega, fun k k1 k2 => ?_⟩ ?_
 ·have hv : AA t change a c 2000 k = 1073741824 := bA_none hT hc ha h (by omega) fun x hx hd => by have := e3 x (e2 x hd); omega
  rw [hv]
  rcases (by omega : k = 1 ∨ k = 2 ∨ k = 3 ∨ k = 4) with rfl | rfl | rfl | rfl <;> rfl
 rintro m ⟨v, out, bst⟩ ⟨i, hv, hm, ho, hol, hbl, σ, s1, s2, hb⟩
 dsimp only at hv ho hol hbl hb
 subst hv
 unfold zq82_L2
 dsimp only
 refine .iteP (fun hlt => ?_) (fun hge => .dn (by
  have : m = 0 := by simp at hge; omega
  rw [ho, this, List.drop_zero]))
 have hmpos : 0 < m := by simp at hlt; omega
 obtain ⟨τ, hτ⟩ := get_ex (l := E) (i := m - 1) (by omega)
 have hrev : E.reverse[i]? = some τ := by
  rw [List.getElem?_reverse (by omega), show E.length - 1 - i = m - 1 by omega]; exact hτ
 have hτσ := s1 (m - 1) τ (by omega) hτ
 have hτr := e3 τ (List.mem_of_getElem? hτ)
 have hskip : ∀ k, k ≤ 4 → AA t change a c (τ + 1) k = AA t change a c σ k := by
  intro k hk
  have := bA_next hT hc ha h (n := k) (by omega) (σ - (τ + 1)).toNat (w := τ + 1) fun x x1 x2 hd => by
   obtain ⟨j, hj⟩ := List.getElem?_of_mem (e2 x hd)
   rcases Nat.lt_or_ge j m with hjm | hjm
   ·by_cases hj1 : j = m - 1
    ·subst hj1; rw [hτ] at hj; cases hj; omega
    ·have := pwG e1 (by omega : j < m - 1) hj hτ; omega
   ·have := s2 j x hjm hj; omega
  rw [show τ + 1 + (((σ - (τ + 1)).toNat : Nat) : Int) = σ by omega] at this
  exact this
 let P : Nat → Bool := fun k => c1b (AA t change a c) τ k && c2b (AA t change a c) τ k
 refine .call (P := fun o => o.1.length = 5 ∧ (∀ k : Nat, 1 ≤ k → k ≤ 4 → o.1[k]? = some (enc (AA t change a c τ k))) ∧ o.2 = chs (AA t change a c) τ P [1, 2, 3, 4]) ?_ fun ⟨b3, n6⟩ ⟨z1, z2, z3⟩ => ?_
 ·refine .iter (fun m s => ∃ k : Nat, s.1 = ((k + 1 : Nat) : Int) ∧ m + k = 4 ∧ s.2.1.length = 5 ∧ (∀ j : Nat, 1 ≤ j → j ≤ 4 → s.2.1[j]? = some (enc (if j ≤ k then AA t change a c τ j else AA t change a c (τ + 1) j))) ∧ s.2.2 = chs (AA t change a c) τ P (([1, 2, 3, 4] : List Nat).take k)) (n := 4) ⟨0, rfl, rfl, hbl, fun j j1 j2 => by rw [if_neg (by omega), hskip j j2]; exact hb j j1 j2, rfl⟩ ?_
  rintro m' ⟨v, ar, nw⟩ ⟨k, hv, hm', har, hj, hnw⟩
  dsimp only at hv har hj hnw
  subst hv
  have hA1 : AA t change a c τ (k + 1) ≤ AA t change a c τ k ∨ 4 ≤ k := by
   by_cases hk : 4 ≤ k
   ·exact .inr hk
   ·exact .inl (bA_mono hT hc ha h τ (by omega) (by omega))
  unfold zq82_L1
  dsimp only
  refine .iteP (fun hlt2 => ?_) (fun hge2 => .dn ⟨har, fun j j1 j2 => by have := hj j j1 j2; rwa [if_pos (by omega)] at this, by rw [hnw, show k = 4 by omega]; rfl⟩)
  have hk4 : k < 4 := by omega
  have hme := hj (k + 1) (by omega) (by omega)
  rw [if_neg (by omega)] at hme
  have hcl := chs_len (AA t change a c) τ P (([1, 2, 3, 4] : List Nat).take k)
  have htk : (([1, 2, 3, 4] : List Nat).take k).length ≤ 4 := by rw [List.length_take]; simp; omega
  have c1 := encn τ (k + 1) (by omega)
  have c2 := encn (τ + 1) (k + 1) (by omega)
  have hw1 := bA_w hT hc ha h (w := τ) (w' := τ + 1) (by omega) (n := k + 1) (by omega)
  have hw1 : AA t change a c τ (k + 1) ≤ AA t change a c (τ + 1) (k + 1) := hw1
  -- when it is put into the list
  have app : AA t change a c τ (k + 1) < AA t change a c (τ + 1) (k + 1) → ((nw = [] ∨ ∃ q g, nw = q ++ [g] ∧ AA t change a c τ (k + 1) < g.Arrive) ↔ AA t change a c τ (k + 1) < AA t change a c τ k) := by
   intro hlt
   have hnv : AA t change a c τ (k + 1) < 1073741824 := by rcases c2 with c2 | c2 <;> omega
   rw [hnw]
   rcases chs_last (AA t change a c) τ P k (by omega) with ⟨h1, h2⟩ | ⟨q, j, h1, h2, h3, h4⟩
   ·refine ⟨fun _ => ?_, fun _ => .inl h1⟩
    refine Classical.byContradiction fun hn => ?_
    have he : AA t change a c τ k = AA t change a c τ (k + 1) := by omega
    obtain ⟨j, ⟨j1, j2⟩, j3⟩ := leastN (P := fun j => j ≤ k ∧ AA t change a c τ j = AA t change a c τ k) k ⟨Nat.le_refl _, rfl⟩
    have hj0 : 1 ≤ j := by
     rcases Nat.eq_zero_or_pos j with h0 | h0
     ·subst h0
      have : AA t change a c τ 0 = 1073741824 := ab_zero (bA_ab hT hc ha h τ (by omega))
      omega
     ·exact h0
    have hPj := h2 j hj0 j1
    have p1 : AA t change a c τ j < AA t change a c τ (j - 1) := by
     have q1 : AA t change a c τ j ≤ AA t change a c τ (j - 1) := bA_mono hT hc ha h τ (by omega) (by omega)
     have q2 := j3 (j - 1) (by omega)
     have : AA t change a c τ (j - 1) ≠ AA t change a c τ k := fun e => q2 ⟨by omega, e⟩
     omega
    have p2 : AA t change a c τ j < AA t change a c (τ + 1) j := by
     have q1 : AA t change a c (τ + 1) (k + 1) ≤ AA t change a c (τ + 1) j := bA_mono hT hc ha h (τ + 1) (by omega) (by omega)
     omega
    have : P j = true := by
     show (decide _ && decide _) = true
     rw [decide_eq_true p1, decide_eq_true p2]; rfl
    rw [hPj] at this; cases this
   ·constructor
    ·intro hh
     refine Classical.byContradiction fun hn => ?_
     have hga : AA t change a c τ (k + 1) < AA t change a c τ j := by
      rcases hh with hh | ⟨q', g, hh, hg⟩
      ·rw [h1] at hh; simp at hh
      ·rw [h1] at hh
       have := List.append_inj_right' hh rfl
       simp at this
       rw [← this] at hg; exact hg
     have he : AA t change a c τ k = AA t change a c τ (k + 1) := by omega
     obtain ⟨j0, ⟨j1, j2⟩, j3⟩ := leastN (P := fun j => j ≤ k ∧ AA t change a c τ j = AA t change a c τ k) k ⟨Nat.le_refl _, rfl⟩
     have hj0 : 1 ≤ j0 := by
      rcases Nat.eq_zero_or_pos j0 with h0 | h0
      ·subst h0
       have : AA t change a c τ 0 = 1073741824 := ab_zero (bA_ab hT hc ha h τ (by omega))
       omega
      ·exact h0
     have hjj : ¬ j0 ≤ j := fun hle => by
      have q1 : AA t change a c τ j ≤ AA t change a c τ j0 := bA_mono hT hc ha h τ (by omega) hle
      omega
     have hPj := h4 j0 (by omega) j1
     have p1 : AA t change a c τ j0 < AA t change a c τ (j0 - 1) := by
      have q1 : AA t change a c τ j0 ≤ AA t change a c τ (j0 - 1) := bA_mono hT hc ha h τ (by omega) (by omega)
      have q2 := j3 (j0 - 1) (by omega)
      have : AA t change a c τ (j0 - 1) ≠ AA t change a c τ k := fun e => q2 ⟨by omega, e⟩
      omega
     have p2 : AA t change a c τ j0 < AA t change a c (τ + 1) j0 := by
      have q1 : AA t change a c (τ + 1) (k + 1) ≤ AA t change a c (τ + 1) j0 := bA_mono hT hc ha h (τ + 1) (by omega) (by omega)
      omega
     have : P j0 = true := by
      show (decide _ && decide _) = true
      rw [decide_eq_true p1, decide_eq_true p2]; rfl
     rw [hPj] at this; cases this
    ·intro hh
     refine .inr ⟨q, _, h1, ?_⟩
     show AA t change a c τ (k + 1) < AA t change a c τ j
     have : AA t change a c τ k ≤ AA t change a c τ j := bA_mono hT hc ha h τ (by omega) h2.2
     omega
  have ix1 : idx ar (((k + 1 : Nat) : Int)) = some (enc (AA t change a c (τ + 1) (k + 1))) := by rw [idx_nat]; exact hme
  have hset : ∀ j : Nat, 1 ≤ j → j ≤ 4 → (ar.set (k + 1) (enc (AA t change a c τ (k + 1))))[j]? = some (enc (if j ≤ k + 1 then AA t change a c τ j else AA t change a c (τ + 1) j)) := by
   intro j j1 j2
   by_cases hjk : j = k + 1
   ·subst hjk; rw [List.getElem?_set_self (by omega), if_pos (Nat.le_refl _)]
   ·rw [List.getElem?_set_ne (by omega), hj j j1 j2]
    by_cases hle : j ≤ k
    ·rw [if_pos hle, if_pos (by omega)]
    ·rw [if_neg hle, if_neg (by omega)]
  have hno : ¬ AA t change a c τ (k + 1) < AA t change a c (τ + 1) (k + 1) → ∀ j : Nat, 1 ≤ j → j ≤ 4 → ar[j]? = some (enc (if j ≤ k + 1 then AA t change a c τ j else AA t change a c (τ + 1) j)) := by
   intro hn j j1 j2
   rw [hj j j1 j2]
   by_cases hjk : j = k + 1
   ·subst hjk
    rw [if_neg (by omega), if_pos (Nat.le_refl _), show AA t change a c (τ + 1) (k + 1) = AA t change a c τ (k + 1) by omega]
   ·by_cases hle : j ≤ k
    ·rw [if_pos hle, if_pos (by omega)]
    ·rw [if_neg hle, if_neg (by omega)]
  refine .call (P := fun o => o.1.length = 5 ∧ (∀ j : Nat, 1 ≤ j → j ≤ 4 → o.1[j]? = some (enc (if j ≤ k + 1 then AA t change a c τ j else AA t change a c (τ + 1) j))) ∧ o.2 = nw ++ chs (AA t change a c) τ P [k + 1]) ?_ fun ⟨a2, v2⟩ ⟨q1, q2, q3⟩ => .nx ⟨m' - 1, by omega, k + 1, w64_succ (by omega), by omega, q1, q2, by dsimp only at q3 ⊢; rw [q3, hnw, k4 hk4, chs_app]⟩
  refine .eq (ixs hrev) (sarr_bA hT hc ha h hne (by omega) (by omega) fun o ho1 ho2 => .eq ho2 ?_)
  rw [Int.toNat_natCast, show (if bA t change a τ c (k + 1) = 1073741824 then -1 else bA t change a τ c (k + 1)) = enc (AA t change a c τ (k + 1)) from rfl, chs_one]
  refine .call (P := fun b => b = decide (AA t change a c τ (k + 1) < AA t change a c (τ + 1) (k + 1))) ?_ fun b hB => ?_
  ·refine .iteP (fun h0 => .eq ix1 (.iteP (fun h3 => .ok ?_) fun h3 => .eq ix1 (.ok ?_))) fun h0 => .ok ?_
   ·rw [eq_comm, decide_eq_true_eq]
    rcases c1 with c1 | c1 <;> rcases c2 with c2 | c2 <;> omega
   ·rw [decide_eq_decide]
    rcases c1 with c1 | c1 <;> rcases c2 with c2 | c2 <;> omega
   ·rw [eq_comm, decide_eq_false_iff_not]
    rcases c1 with c1 | c1 <;> omega
  ·subst hB
   refine .iteP (fun hlt => ?_) fun hge => .ok ⟨har, hno hge, ?_⟩
   ·have hen : enc (AA t change a c τ (k + 1)) = AA t change a c τ (k + 1) := by
     rcases c1 with c1 | c1
     ·omega
     ·exact c1.1
    have hap := app hlt
    have hP : P (k + 1) = decide (AA t change a c τ (k + 1) < AA t change a c τ k) := by
     show (decide (AA t change a c τ (k + 1) < AA t change a c τ (k + 1 - 1)) && decide _) = _
     rw [decide_eq_true hlt, Bool.and_true]
     rfl
    refine .call (P := fun o => o = nw ++ if P (k + 1) = true then [⟨τ, AA t change a c τ (k + 1), ((k + 1 : Nat) : Int)⟩] else []) (.call (P := fun b => b = P (k + 1)) ?_ fun b hB => ?_) fun o ho => .eq ix1 (.ok ⟨by rw [List.length_set]; exact har, hset, ho⟩)
    ·rw [hP]
     rcases List.eq_nil_or_concat nw with hn | ⟨q, g, hn⟩
     ·refine .ite (fun _ => .ok ?_) fun hz => ?_
      ·rw [eq_comm, decide_eq_true_eq]; exact hap.1 (.inl hn)
      ·rw [hn] at hz; simp at hz
     ·rw [List.concat_eq_append] at hn
      have hlen : nw.length = q.length + 1 := by rw [hn]; simp
      refine .ite (fun hz => by simp at hz; rw [hz] at hlen; simp at hlen) fun _ => ?_
      have hlq : q.length + 1 ≤ 4 := by rw [← hlen, hnw]; omega
      have ew : w64 ((nw.length : Int) - 1) = (q.length : Int) := by rw [w64_id (by omega)]; omega
      rw [ew]
      refine .eq (ixs (x := g) (by rw [hn, List.getElem?_append_right (by omega)]; simp)) (.ok ?_)
      rw [decide_eq_decide, ← hap, hen]
      constructor
      ·intro hg; exact .inr ⟨q, g, hn, hg⟩
      ·rintro (e | ⟨q', g', e, hg⟩)
       ·rw [hn] at e; simp at e
       ·rw [hn] at e
        have := List.append_inj_right' e rfl
        simp at this
        rw [this]; exact hg
    ·subst hB
     refine .ite (fun hq => .eq (ixs hrev) (.chk (by rw [hnw]; simp; omega) (.ok ?_))) fun hq => .ok ?_
     ·rw [if_pos hq, hen]
     ·rw [if_neg (by rw [hq]; simp), List.append_nil]
   ·dsimp only
    rw [if_neg (fun hp => ?_), List.append_nil]
    have : c2b (AA t change a c) τ (k + 1) = true := by
     have hp' : (c1b (AA t change a c) τ (k + 1) && c2b (AA t change a c) τ (k + 1)) = true := hp
     rw [Bool.and_eq_true] at hp'
     exact hp'.2
    exact hge (of_decide_eq_true this)
 ·dsimp only at z1 z2 z3 ⊢
  have hcl := chs_len (AA t change a c) τ P [1, 2, 3, 4]
  simp at hcl
  have hdr : E.drop (m - 1) = τ :: E.drop m := by
   rw [List.drop_eq_getElem_cons (by omega), show m - 1 + 1 = m by omega]
   congr 1
   exact (List.getElem?_eq_some_iff.1 hτ).2
  refine .chk (by rw [z3]; omega) (.nx ⟨m - 1, by omega, i + 1, w64_succ (by omega), by omega, ?_, ?_, z1, τ, fun j x hjm hx => ?_, fun j x hjm hx => ?_, z2⟩)
  ·dsimp only
   rw [z3, ho, hdr]
   unfold prof
   rw [List.flatMap_cons]
  ·dsimp only
   rw [z3, List.length_append]; omega
  ·exact pwG e1 (by omega : j < m - 1) hx hτ
  ·by_cases hj1 : j = m - 1
   ·subst hj1; rw [hτ] at hx; cases hx; exact Int.le_refl _
   ·have := pwG e1 (by omega : m - 1 < j) hτ hx; omega
theorem prof_sub {t : Timetable} (hT : GoodT t) {change : Int} (hc : 0 ≤ change ∧ change ≤ 30) {a c : Int} (ha : 0 ≤ a ∧ a < (t.Network.Stops.length : Int)) (h : 0 ≤ c ∧ c < (t.Network.Stops.length : Int)) {D E : List Int} (d1 : D.Pairwise (· < ·)) (d2 : ∀ x, x ∈ D ↔ DepT t a x) (e1 : E.Pairwise (· < ·)) (e2 : ∀ x, DepT t a x → x ∈ E) : prof (AA t change a c) E = prof (AA t change a c) D := by
 classical
 have key : ∀ L : List Int, prof (AA t change a c) L = prof (AA t change a c) (L.filter fun x => decide (DepT t a x)) := by
  intro L
  induction L with
  | nil => rfl
  | cons τ L ih =>
   by_cases hd : DepT t a τ
   ·rw [List.filter_cons, if_pos (by simpa using hd)]
    unfold prof at ih ⊢
    rw [List.flatMap_cons, List.flatMap_cons, ih]
   ·rw [List.filter_cons, if_neg (by simpa using hd)]
    unfold prof at ih ⊢
    rw [List.flatMap_cons, ih]
    have : chs (AA t change a c) τ (fun k => c1b (AA t change a c) τ k && c2b (AA t change a c) τ k) [1, 2, 3, 4] = [] := by
     unfold chs
     rw [List.map_eq_nil_iff, List.filter_eq_nil_iff]
     intro k hk hp
     have hk2 : k ≤ 4 := by simp at hk; omega
     rw [Bool.and_eq_true] at hp
     have h2 : AA t change a c τ k < AA t change a c (τ + 1) k := of_decide_eq_true hp.2
     have h3 : AA t change a c τ k = AA t change a c (τ + 1) k := bA_skip hT hc ha h hd (by omega)
     omega
    rw [this, List.nil_append]
 rw [key E, asc_uniq (e1.filter _) d1 fun x => ?_]
 rw [List.mem_filter, decide_eq_true_eq, d2]
 exact ⟨fun h => h.2, fun h => ⟨e2 x h, h⟩⟩
theorem prof_pw (A : Int → Nat → Int) {D : List Int} (hD : D.Pairwise (· < ·)) : (prof A D).Pairwise fun x y => x ≠ y := by
 have h1 : (prof A D).Pairwise fun x y => x.Depart < y.Depart ∨ (x.Depart = y.Depart ∧ x.Legs < y.Legs) := by
  unfold prof
  rw [List.pairwise_flatMap]
  refine ⟨fun τ _ => ?_, hD.imp fun {x y} hxy => ?_⟩
  ·unfold chs
   rw [List.pairwise_map]
   refine List.Pairwise.imp (R := fun a b : Nat => a < b) (fun {x y} hxy => .inr ⟨rfl, by dsimp only; omega⟩) (List.Pairwise.filter _ (by simp))
  ·intro p hp q hq
   unfold chs at hp hq
   simp only [List.mem_map] at hp hq
   obtain ⟨k, _, rfl⟩ := hp
   obtain ⟨k', _, rfl⟩ := hq
   exact .inl hxy
 refine h1.imp fun {x y} hxy e => ?_
 subst e
 rcases hxy with h | ⟨_, h⟩ <;> omega
theorem pw_at {α : Type} {R : α → α → Prop} (hs : ∀ x y, R x y → R y x) {l : List α} (h : l.Pairwise R) {i j : Nat} {x y : α} (hi : l[i]? = some x) (hj : l[j]? = some y) (hne : i ≠ j) : R x y := by
 obtain ⟨h1, rfl⟩ := List.getElem?_eq_some_iff.1 hi
 obtain ⟨h2, rfl⟩ := List.getElem?_eq_some_iff.1 hj
 rcases Nat.lt_or_gt_of_ne hne with q | q
 ·exact List.pairwise_iff_getElem.1 h i j h1 h2 q
 ·exact hs _ _ (List.pairwise_iff_getElem.1 h j i h2 h1 q)
theorem prof_rng {t : Timetable} (hT : GoodT t) {change : Int} (hc : 0 ≤ change ∧ change ≤ 30) {a c : Int} (ha : 0 ≤ a ∧ a < (t.Network.Stops.length : Int)) (h : 0 ≤ c ∧ c < (t.Network.Stops.length : Int)) {D : List Int} (d2 : ∀ x, x ∈ D ↔ DepT t a x) {x : Choice} (hx : x ∈ prof (AA t change a c) D) :
  (0 ≤ x.Depart ∧ x.Depart ≤ 1799) ∧ (0 ≤ x.Arrive ∧ x.Arrive ≤ 1799) ∧ bA t change a x.Depart c 4 ≤ x.Arrive ∧ x ∈ allC (AA t change a c) D ∧ ¬ ∃ b ∈ allC (AA t change a c) D, better b x := by
 obtain ⟨τ, k, h1, h2, h3, h4, rfl⟩ := prof_mem.1 hx
 have hA := aa_ok hT hc ha h d2
 have hr : AA t change a c τ k = 1073741824 ∨ (τ < AA t change a c τ k ∧ AA t change a c τ k ≤ 1799 ∧ 0 ≤ AA t change a c τ k) := bA_rng hT hc ha h τ (n := k) (by omega)
 have hle := hA.2.2.2.1 τ (k - 1) (by omega)
 obtain ⟨i, b, r, hl⟩ := (d2 τ).1 h1
 have := (lr_ok hT).1 i a τ b r hl
 dsimp only
 refine ⟨by omega, by omega, hA.1 τ k 4 h2.2 (Nat.le_refl _), allC_mem.2 ⟨τ, k, h1, h2, h3, rfl⟩, fun hb => ?_⟩
 exact (best_iff hA h1 h2 h3).1 hb h4
theorem prof_len {A : Int → Nat → Int} {D : List Int} (hD : D.length ≤ 12) : (prof A D).length ≤ 48 := by
 have : ∀ L : List Int, (prof A L).length ≤ 4 * L.length := by
  intro L
  induction L with
  | nil => simp [prof]
  | cons τ L ih =>
   unfold prof at ih ⊢
   rw [List.flatMap_cons, List.length_append, List.length_cons]
   have := chs_len A τ (fun k => c1b A τ k && c2b A τ k) [1, 2, 3, 4]
   rw [show ([1, 2, 3, 4] : List Nat).length = 4 from rfl] at this
   omega
 have := this D; omega
theorem fast_ok {t : Timetable} (hb : TB t) {change a c : Int} (h : PairP t change a c) : Tot (zq3 t change a c) fun r => ∀ D : List Int, D.Pairwise (· < ·) → (∀ x, x ∈ D ↔ DepT t a x) →
  r.2 = decide (0 < (prof (AA t change a c) D).length) ∧ (r.2 = true → r.1 ∈ prof (AA t change a c) D ∧ ∀ x ∈ prof (AA t change a c) D, r.1.Arrive - r.1.Depart ≤ x.Arrive - x.Depart) := by
 have h0 := h
 obtain ⟨⟨hT, hc⟩, hf, ht, hne⟩ := h0
 unfold zq3
 rw [isPair_eq hb, decide_eq_true h]
 refine .eq rfl (.ite (fun h => by cases h) fun _ => .call (iprof_ok hT hc hf ht) fun P ⟨D, d1, d2, d3, hP⟩ => ?_)
 have hlen := prof_len (A := AA t change a c) d3
 rw [← hP] at hlen
 have hrng : ∀ x ∈ P, (0 ≤ x.Depart ∧ x.Depart ≤ 1799) ∧ (0 ≤ x.Arrive ∧ x.Arrive ≤ 1799) := fun x hx => by
  rw [hP] at hx
  have := prof_rng hT hc hf ht d2 hx
  exact ⟨this.1, this.2.1⟩
 refine .call (P := fun o => o.1 = decide (0 < P.length) ∧ (o.1 = true → (⟨o.2.1, o.2.2.1, o.2.2.2⟩ : Choice) ∈ P ∧ ∀ x ∈ P, o.2.2.1 - o.2.1 ≤ x.Arrive - x.Depart)) ?_ fun ⟨v, v1, v2, v3⟩ ⟨z1, z2⟩ => .ok fun D' d1' d2' => ?_
 ·refine .iter (fun m s => ∃ i : Nat, s.2.1 = (i : Int) ∧ m + i = P.length ∧ s.1 = decide (0 < i) ∧ (s.1 = true → (⟨s.2.2.1, s.2.2.2.1, s.2.2.2.2⟩ : Choice) ∈ P ∧ ∀ (j : Nat) x, j < i → P[j]? = some x → s.2.2.2.1 - s.2.2.1 ≤ x.Arrive - x.Depart)) (n := P.length) ⟨0, rfl, by omega, rfl, fun h => by cases h⟩ ?_
  rintro m ⟨v, v1, v2, v3, v4⟩ ⟨i, hv, hm, hb, hI⟩
  dsimp only at hv hb hI
  subst hv
  unfold zq3_L1
  dsimp only
  refine .iteP (fun hlt => ?_) (fun hge => .dn ⟨by rw [hb, show i = P.length by omega], fun hq => ⟨(hI hq).1, fun x hx => ?_⟩⟩)
  ·obtain ⟨e, he⟩ := get_ex (l := P) (i := i) (by omega)
   have hem := List.mem_of_getElem? he
   have her := hrng e hem
   have ew : w64 (e.Arrive - e.Depart) = e.Arrive - e.Depart := w64_id (by omega)
   refine .call (P := fun o => o.1 = true ∧ (⟨o.2.1, o.2.2.1, o.2.2.2⟩ : Choice) ∈ P ∧ ∀ (j : Nat) x, j < i + 1 → P[j]? = some x → o.2.2.1 - o.2.1 ≤ x.Arrive - x.Depart) (.eq (ixs he) ?_) fun ⟨v5, v6, v7, v8⟩ ⟨q1, q2, q3⟩ => .nx ⟨m - 1, by omega, i + 1, w64_succ (by omega), by omega, by rw [show v5 = true from q1]; simp, fun _ => ⟨q2, q3⟩⟩
   refine .call (P := fun b => (b = true → v = false ∨ (v = true ∧ e.Arrive - e.Depart < v3 - v2)) ∧ (b = false → v = true ∧ v3 - v2 ≤ e.Arrive - e.Depart)) ?_ fun b ⟨b1, b2⟩ => .ite (fun hq => .ok ⟨rfl, hem, fun j x hj hx => ?_⟩) fun hq => ?_
   ·cases hvv : v with
    | false => exact .ite (fun _ => .ok ⟨fun _ => .inl rfl, fun h => by cases h⟩) fun h => (by cases h)
    | true =>
     have hmv := hrng _ (hI hvv).1
     dsimp only at hmv
     have ew2 : w64 (v3 - v2) = v3 - v2 := w64_id (by omega)
     refine .ite (fun h => by cases h) fun _ => .ok ⟨fun h => .inr ⟨rfl, ?_⟩, fun h => ⟨rfl, ?_⟩⟩
     ·rw [decide_eq_true_eq, ew, ew2] at h; exact h
     ·rw [decide_eq_false_iff_not, ew, ew2] at h; omega
   ·dsimp only
    by_cases hji : j = i
    ·subst hji; rw [he] at hx; cases hx; exact Int.le_refl _
    ·rcases b1 hq with hv | ⟨hv, hlt⟩
     ·have : i = 0 := by rw [hv] at hb; simp at hb; omega
      omega
     ·have := (hI hv).2 j x (by omega) hx; omega
   ·have hq : b = false := by simpa using hq
    obtain ⟨hv, hle⟩ := b2 hq
    refine .ok ⟨hv, (hI hv).1, fun j x hj hx => ?_⟩
    dsimp only
    by_cases hji : j = i
    ·subst hji; rw [he] at hx; cases hx; exact hle
    ·exact (hI hv).2 j x (by omega) hx
  ·obtain ⟨j, hj⟩ := List.getElem?_of_mem hx
   have := get_lt hj
   exact (hI hq).2 j x (by omega) hj
 ·have : D' = D := asc_uniq d1' d1 fun x => by rw [d2, d2']
  subst this
  rw [← hP]
  exact ⟨z1, z2⟩
theorem vBigQ (code : List UInt8) : zq106 code = some (decide (65536 < (code.length : Int))) := rfl
theorem profile_true (code : List UInt8) : v_FnProfile code = some true := by
 unfold v_FnProfile
 refine Tot.val (.eq (vBigQ code) (.iteP (fun _ => .ok rfl) (fun _ => ?_)))
 refine .call (P := fun r => TB r.1) ?_ fun ⟨t, change, from_, to⟩ hb => ?_
 ·unfold zq33
  exact .call (query_ok (cur0 code) (by omega)) fun r hr => .ok hr.1
 dsimp only at hb ⊢
 by_cases h : PairP t change from_ to
 ·have h0 := h
  obtain ⟨⟨hT, hc⟩, hf, ht, hne⟩ := h0
  refine .call (P := fun r => r.2 = true ∧ ∃ D : List Int, D.Pairwise (· < ·) ∧ (∀ x, x ∈ D ↔ DepT t from_ x) ∧ D.length ≤ 12 ∧ r.1 = prof (AA t change from_ to) D) ?_ fun ⟨P, ok⟩ ⟨z1, D, d1, d2, d3, hP⟩ => ?_
  ·unfold zq7
   rw [isPair_eq hb, decide_eq_true h]
   exact .eq rfl (.ite (fun h => by cases h) fun _ => .call (iprof_ok hT hc hf ht) fun P hP => .ok ⟨rfl, hP⟩)
  dsimp only at z1 hP
  subst z1
  refine .call (P := fun r => r = (P, true)) ?_ fun ⟨P', ok'⟩ hr3 => ?_
  ·unfold zq34 zq81
   rw [l8Pair_eq hb, decide_eq_true ⟨h, by omega, by omega⟩]
   refine .eq rfl (.ite (fun h => by cases h) fun _ => .call (sprof_ok hT hc hf ht (Ne.symm hne)) fun P' ⟨E, e1, e2, hP'⟩ => .ok ?_)
   rw [hP', hP, prof_sub hT hc hf ht d1 d2 e1 e2]
  cases hr3
  have hlen : P.length ≤ 48 := by rw [hP]; exact prof_len d3
  have hrng := fun (x : Choice) (hx : x ∈ P) => prof_rng hT hc hf ht d2 (hP ▸ hx)
  have hpw : P.Pairwise fun x y => x ≠ y := by rw [hP]; exact prof_pw _ d1
  refine .call (P := fun b => b = false) (.ite (fun h => by cases h) fun _ => .ok (by simp)) fun b hB => ?_
  subst hB
  refine .ite (fun h => by cases h) fun _ => .call (fast_ok hb h) fun ⟨q, any⟩ hq => ?_
  obtain ⟨q1, q2⟩ := hq D d1 d2
  rw [← hP] at q1 q2
  dsimp only at q1 q2 ⊢
  refine .ite (fun hx => ?_) fun _ => ?_
  ·rw [q1] at hx
   have e : (decide (0 < P.length)) = (decide (0 < (P.length : Int))) := by rw [decide_eq_decide]; omega
   rw [e] at hx; simp at hx
  refine .flb ((Tot.iter (fun m (s : Bool × Int) => ∃ i : Nat, s.2 = (i : Int) ∧ m + i = P.length ∧ (s.1 = true ∨ (any = true ∧ ∀ j, j < i → P[j]? ≠ some q))) (Q := fun b => b = .go true) (n := P.length) ⟨0, rfl, by omega, ?_⟩ ?_).mono fun b hB => ⟨fun r e => (by rw [hB] at e; cases e), fun u e => ?_⟩)
  ·cases any with
   | true => exact .inr ⟨rfl, fun j h => by omega⟩
   | false => exact .inl rfl
  ·rintro m ⟨fg, s⟩ ⟨k, hs, hm, hI⟩
   dsimp only at hs hI
   subst hs
   unfold v_FnProfile_L2
   dsimp only
   refine .iteP (fun hlt => ?_) (fun hge => .dn ?_)
   ·obtain ⟨x, hx⟩ := get_ex (l := P) (i := k) (by omega)
    have hxm := List.mem_of_getElem? hx
    obtain ⟨r1, r2, r3, r4, r5⟩ := hrng x hxm
    refine .eq (ixs hx) (.eq (ixs hx) (.ite (fun hh => ?_) fun _ => ?_))
    ·rw [Bool.not_eq_true', ← Bool.not_eq_true, ch_beq] at hh
     exact absurd rfl hh
    refine .call (P := fun b => b = true ∨ (any = true ∧ ∀ j, j < k + 1 → P[j]? ≠ some q)) ?_ fun i1 hi1 => ?_
    ·refine .ite (fun hh => .ok (.inl rfl)) fun hh => .eq (ixs hx) (.ok ?_)
     rcases hI with hI | ⟨hI1, hI2⟩
     ·rw [show fg = true from hI] at hh; cases hh
     ·by_cases he : x = q
      ·exact .inl ((ch_beq x q).2 he)
      ·refine .inr ⟨hI1, fun j hj e => ?_⟩
       by_cases hjk : j = k
       ·subst hjk; rw [hx] at e; exact he (Option.some.inj e)
       ·exact hI2 j (by omega) e
    refine .call (P := fun b => b = false) ?_ fun b hB => ?_
    ·refine .ite (fun hh => .eq (ixs hx) (.eq (ixs hx) (.ok ?_))) fun _ => .ok rfl
     obtain ⟨a1, a2⟩ := q2 hh
     obtain ⟨p1, p2, _⟩ := hrng q a1
     have := a2 x hxm
     rw [decide_eq_false_iff_not, w64_id (by omega), w64_id (by omega)]
     omega
    subst hB
    refine .ite (fun h => by cases h) fun _ => ?_
    refine .flb ((Tot.iter (fun m (s : Int) => ∃ i : Nat, s = (i : Int) ∧ m + i = P.length) (Q := fun b => b = .go ()) (n := P.length) ⟨0, rfl, by omega⟩ ?_).mono fun b hB => ⟨fun r e => (by rw [hB] at e; cases e), fun u e => ?_⟩)
    ·rintro m' s ⟨i, rfl, hm'⟩
     unfold v_FnProfile_L1
     dsimp only
     refine .iteP (fun hlt2 => ?_) (fun hge2 => .dn rfl)
     obtain ⟨y, hy⟩ := get_ex (l := P) (i := i) (by omega)
     refine .call (P := fun b => b = false) ?_ fun b hB => ?_
     ·refine .ite (fun hne => .eq (ixs hy) (.eq (ixs hx) (.iteP (fun h1 => .eq (ixs hy) (.eq (ixs hx) (.iteP (fun h2 => .eq (ixs hy) (.eq (ixs hx) (.ok ?_))) fun _ => .ok rfl))) fun _ => .ok rfl))) fun _ => .ok rfl
      rw [decide_eq_false_iff_not]
      intro h3
      refine r5 ⟨y, (hrng y (List.mem_of_getElem? hy)).2.2.2.1, pw_at (fun _ _ h => Ne.symm h) hpw hy hx (fun e => ?_), h1, h2, h3⟩
      subst e
      simp at hne
     ·subst hB
      exact .ite (fun h => by cases h) fun _ => .nx ⟨m' - 1, by omega, i + 1, w64_succ (by omega), by omega⟩
    ·refine .eq (ixs hx) (.call (eArr_ok hb (change := change) (from_ := from_) (at_ := x.Depart) ⟨⟨hT, hc⟩, hf, r1⟩) fun ⟨best, told⟩ ⟨b1, b2, b3, b4⟩ => ?_)
     dsimp only at b1 b2 b3 b4 ⊢
     subst b1
     have hto := b4 to ht.1 ht.2 (Ne.symm hne)
     refine .call (P := fun b => b = false) ?_ fun b hB => ?_
     ·refine .ite (fun h => by cases h) fun _ => .iteP (fun h => by omega) fun _ => .eq (gv_idx ht.1 (by omega)) (.eq (ixs hx) (.ok ?_))
      rw [decide_eq_false_iff_not, hto]
      split <;> omega
     ·subst hB
      exact .ite (fun h => by cases h) fun _ => .nx ⟨m - 1, by omega, k + 1, w64_succ (by omega), by omega, hi1⟩
   ·rcases hI with hI | ⟨hI1, hI2⟩
    ·rw [show fg = true from hI]
    ·obtain ⟨j, hj⟩ := List.getElem?_of_mem (q2 hI1).1
     have := get_lt hj
     exact absurd hj (hI2 j (by omega))
  ·rw [hB] at e
   cases e
   exact .ok rfl
 ·have e1 : zq7 t change from_ to = some ([], false) := by
   unfold zq7
   rw [isPair_eq hb, decide_eq_false h]; rfl
  have e2 : zq34 t change from_ to = some ([], false) := by
   unfold zq34 zq81
   rw [l8Pair_eq hb, decide_eq_false (fun hh => h hh.1)]
   rfl
  have e3 : zq3 t change from_ to = some (⟨0, 0, 0⟩, false) := by
   unfold zq3
   rw [isPair_eq hb, decide_eq_false h]; rfl
  rw [e1, e2, e3]
  refine .eq rfl (.eq rfl (.call (P := fun b => b = false) (.ok rfl) fun b hB => (by
   subst hB
   refine .ite (fun h => by cases h) fun _ => .eq rfl (.ite (fun h => by cases h) fun _ => ?_)
   refine .flb ((Tot.iter (fun m (s : Bool × Int) => s = (true, 0)) (Q := fun b => b = .go true) (n := 0) rfl ?_).mono fun b hB => ⟨fun r e => (by rw [hB] at e; cases e), fun u e => ?_⟩)
   ·rintro m s rfl
    exact .dn rfl
   ·rw [hB] at e
    cases e
    exact .ok rfl)))
end Go.Proofs.Ytdocbkbpjdjlpaa
