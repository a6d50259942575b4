/- The plain law: what the models compute, no program in sight. -/
import Derived.Test.YtepdapiceklppaaPuM
import Derived.Test.YtepdapiceklppaaAbPdq6
namespace Go.Proofs.Ytepdapiceklppaa
open Go Go.Ab
set_option linter.unusedVariables false
set_option linter.unusedSimpArgs false
/-! The cursor of the draws: it always answers. -/
def Cur (k : Nat) (c : l1Cur) : Prop := 0 ≤ c.at_ ∧ c.at_ ≤ k
theorem Cur.mono {k k' : Nat} {c : l1Cur} (h : Cur k c) (hk : k ≤ k') : Cur k' c := ⟨h.1, by have := h.2; omega⟩
theorem next_ok {k : Nat} {c : l1Cur} (h : Cur k c) (hk : k ≤ 4000000000) : ∃ r, s_l1Cur_next c = some r ∧ Cur (k + 1) r.2 ∧ 0 ≤ r.1 ∧ r.1 ≤ 255 := by
  obtain ⟨h0, h1⟩ := h
  have hw : w64 (c.at_ + 1) = c.at_ + 1 := w64_id (by omega)
  have hcur : ∀ s, Cur (k + 1) ⟨c.code_, w64 (c.at_ + 1), s⟩ := fun s => by rw [hw]; exact ⟨by show 0 ≤ c.at_ + 1; omega, by show c.at_ + 1 ≤ _; omega⟩
  unfold s_l1Cur_next
  have hv : ∃ v, (if (decide (c.at_ < (c.code_.length : Int))) = true then (idx c.code_ c.at_).bind fun e1 => some (w64 ((e1.toNat : Int))) else some 0) = some v ∧ 0 ≤ v ∧ v ≤ 255 := by
    by_cases hlt : c.at_ < c.code_.length
    · obtain ⟨x, hx, _, _⟩ := idx_lt h0 hlt
      have := x.toNat_lt
      refine ⟨(x.toNat : Int), ?_, by omega, by omega⟩
      simp only [hlt, decide_true, if_true, hx, Option.bind_some]
      rw [w64_id (by omega)]
    · exact ⟨0, by simp [hlt], by omega, by omega⟩
  obtain ⟨v, hv, hv0, hv1⟩ := hv
  rw [hv]
  simp only [Option.bind_some]
  split
  · exact ⟨_, rfl, hcur _, hv0, hv1⟩
  · rw [chk_of (by omega)]
    exact ⟨_, rfl, hcur _, and255 _⟩
theorem pick_ok {k : Nat} {c : l1Cur} (n : Int) (h : Cur k c) (hk : k ≤ 3000000000) : ∃ r, s_l1Cur_pick c n = some r ∧ Cur (k + 2) r.2 ∧ 0 ≤ r.1 ∧ (r.1 < n ∨ r.1 = 0) := by
  unfold s_l1Cur_pick
  by_cases hn : n ≤ 1
  · exact ⟨(0, c), by simp [hn], h.mono (by omega), by simp, .inr rfl⟩
  · obtain ⟨r, hr, hc, h0, h1⟩ := next_ok h (by omega)
    have hn' : decide (n ≤ 1) = false := by simpa using hn
    simp only [hn', Bool.false_eq_true, if_false, hr, Option.bind_some]
    have hne : chk (n ≠ 0) = some () := chk_of (by omega)
    by_cases h2 : 200 < n
    · obtain ⟨r', hr', hc', h0', h1'⟩ := next_ok hc (by omega)
      have e1 : w64 (r.1 * 256) = r.1 * 256 := w64_id (by omega)
      have e2 : w64 (r.1 * 256 + r'.1) = r.1 * 256 + r'.1 := w64_id (by omega)
      have h3 := tmod_rng (a := r.1 * 256 + r'.1) (b := n) (by omega) (by omega)
      simp only [h2, decide_true, if_true, hr', Option.bind_some, hne, e1, e2]
      exact ⟨_, rfl, hc'.mono (by omega), h3.1, .inl h3.2⟩
    · have h2' : decide (200 < n) = false := by simpa using h2
      have h3 := tmod_rng (a := r.1) (b := n) (by omega) (by omega)
      simp only [h2', Bool.false_eq_true, if_false, Option.bind_some, hne]
      exact ⟨_, rfl, hc.mono (by omega), h3.1, .inl h3.2⟩
theorem amongw_ok {k : Nat} {c : l1Cur} (l : List Int) (hl : l ≠ []) (h : Cur k c) (hk : k ≤ 3000000000) : ∃ r, s_l1Cur_among_w c l = some r ∧ Cur (k + 2) r.2 ∧ r.1 ∈ l := by
  unfold s_l1Cur_among_w
  obtain ⟨r, hr, hc, h0, h1⟩ := pick_ok (l.length : Int) h hk
  have hpos : 0 < l.length := List.length_pos_iff.2 hl
  obtain ⟨x, hx, _, hm⟩ := idx_lt (l := l) h0 (by omega)
  simp only [hr, Option.bind_some, hx]
  exact ⟨_, rfl, hc, hm⟩
theorem among_ok {k : Nat} {c : l1Cur} (l : List Int) (hl : l ≠ []) (h : Cur k c) (hk : k ≤ 3000000000) : ∃ r, s_l1Cur_among c l = some r ∧ Cur (k + 2) r.2 ∧ r.1 ∈ l := by
  have : s_l1Cur_among c l = s_l1Cur_among_w c l := rfl
  rw [this]; exact amongw_ok l hl h hk
theorem one_ok {k : Nat} {c : l1Cur} (n : Int) (h : Cur k c) (hk : k ≤ 3000000000) : ∃ r, s_l1Cur_one c n = some r ∧ Cur (k + 2) r.2 := by
  unfold s_l1Cur_one
  obtain ⟨r, hr, hc, _, _⟩ := pick_ok n h hk
  simp only [hr, Option.bind_some]
  exact ⟨_, rfl, hc⟩
theorem cur0 (code : List UInt8) : Cur 0 ⟨code, 0, ⟨0⟩⟩ := ⟨by show (0 : Int) ≤ 0; omega, by show (0 : Int) ≤ _; omega⟩
/-! Sorting: the helpers of the library's quicksort. -/
theorem fdivp {x : Int} (h : 0 ≤ x) (k : Nat) : x.fdiv (2 ^ k) = x / (2 ^ k : Nat) := by
  rw [Int.fdiv_eq_ediv_of_nonneg _ (by exact_mod_cast Nat.zero_le (2 ^ k))]
  simp
theorem pow_step {x y : Int} {v k : Nat} (h : y * (2 ^ v : Nat) ≤ x) (hy : 0 ≤ y) : y / (2 ^ k : Nat) * (2 ^ (v + k) : Nat) ≤ x := by
  have h1 : y / (2 ^ k : Nat) * (2 ^ k : Nat) ≤ y := Int.ediv_mul_le _ (by have := Nat.two_pow_pos k; omega)
  have h2 : y / (2 ^ k : Nat) * (2 ^ k : Nat) * (2 ^ v : Nat) ≤ y * (2 ^ v : Nat) := Int.mul_le_mul_of_nonneg_right h1 (Int.natCast_nonneg _)
  rw [Nat.add_comm, Nat.pow_add, Int.natCast_mul, ← Int.mul_assoc]
  omega
theorem len64_ok (x : IK .u64) (h0 : 0 ≤ x.v) (h1 : x.v < 8589934592) : Tot (math_bits_Len64 x) fun r => 0 ≤ r ∧ r ≤ 64 ∧ (1 ≤ x.v → ((2 ^ r.toNat : Nat) : Int) ≤ 2 * x.v) := by
  unfold math_bits_Len64
  refine Tot.call (P := fun (r : Int × Int) => 0 ≤ r.1 ∧ r.1 < 4294967296 ∧ (1 ≤ x.v → 1 ≤ r.1) ∧ 0 ≤ r.2 ∧ r.2 ≤ 32 ∧ r.1 * (2 ^ r.2.toNat : Nat) ≤ x.v) (.iteP (fun hc => Tot.chk (by decide) (.ok ?_)) (fun hc => .ok ⟨h0, by dsimp only; omega, fun h => h, Int.le_refl _, by dsimp only; omega, by simp⟩)) fun ⟨x1, v⟩ ⟨p1, p2, p3, p4, p5, p6⟩ => ?_
  · have e : ((2 ^ 32 : Nat) : Int) = 4294967296 := by decide
    have e2 : x.v.fdiv (2 ^ (min (32 : Int).toNat (IntKind.u64).bits)) = x.v / (2 ^ 32 : Nat) := fdivp h0 32
    simp only [e2]
    exact ⟨by omega, by omega, fun _ => by omega, by omega, by omega, Int.ediv_mul_le _ (by decide)⟩
  dsimp only at p1 p2 p3 p4 p5 p6 ⊢
  refine Tot.call (P := fun (r : Int × Int) => 0 ≤ r.1 ∧ r.1 < 65536 ∧ (1 ≤ x.v → 1 ≤ r.1) ∧ 0 ≤ r.2 ∧ r.2 ≤ 48 ∧ r.1 * (2 ^ r.2.toNat : Nat) ≤ x.v) (.iteP (fun hc => Tot.chk (by decide) (.ok ?_)) (fun hc => .ok ⟨p1, by dsimp only; omega, p3, p4, by dsimp only; omega, p6⟩)) fun ⟨x2, v1⟩ ⟨q1, q2, q3, q4, q5, q6⟩ => ?_
  · have e : ((2 ^ 16 : Nat) : Int) = 65536 := by decide
    have e2 : x1.fdiv (2 ^ (min (16 : Int).toNat (IntKind.u64).bits)) = x1 / (2 ^ 16 : Nat) := fdivp p1 16
    have e3 : w64 (v + 16) = v + 16 := w64_id (by omega)
    have e4 : (v + 16).toNat = v.toNat + 16 := by omega
    simp only [e2, e3, e4]
    exact ⟨by omega, by omega, fun _ => by omega, by omega, by omega, pow_step p6 p1⟩
  dsimp only at q1 q2 q3 q4 q5 q6 ⊢
  refine Tot.call (P := fun (r : Int × Int) => 0 ≤ r.1 ∧ r.1 < 256 ∧ (1 ≤ x.v → 1 ≤ r.1) ∧ 0 ≤ r.2 ∧ r.2 ≤ 56 ∧ r.1 * (2 ^ r.2.toNat : Nat) ≤ x.v) (.iteP (fun hc => Tot.chk (by decide) (.ok ?_)) (fun hc => .ok ⟨q1, by dsimp only; omega, q3, q4, by dsimp only; omega, q6⟩)) fun ⟨x3, v2⟩ ⟨r1, r2, r3, r4, r5, r6⟩ => ?_
  · have e : ((2 ^ 8 : Nat) : Int) = 256 := by decide
    have e2 : x2.fdiv (2 ^ (min (8 : Int).toNat (IntKind.u64).bits)) = x2 / (2 ^ 8 : Nat) := fdivp q1 8
    have e3 : w64 (v1 + 8) = v1 + 8 := w64_id (by omega)
    have e4 : (v1 + 8).toNat = v1.toNat + 8 := by omega
    simp only [e2, e3, e4]
    exact ⟨by omega, by omega, fun _ => by omega, by omega, by omega, pow_step q6 q1⟩
  dsimp only at r1 r2 r3 r4 r5 r6 ⊢
  have e8 : IntKind.u8.wrap x3 = x3 := Int.emod_eq_of_lt r1 r2
  rw [e8]
  generalize hs : str _ = S
  have hS : (Nat.beq S.size 256 && (List.range 256).all fun i => Nat.ble (S.data.toList.getD i 0).toNat 8 && (Nat.beq i 0 || Nat.ble (2 ^ (S.data.toList.getD i 0).toNat) (2 * i))) = true := by
    rw [← hs]; kernel_rfl
  clear hs
  simp only [Bool.and_eq_true, List.all_eq_true, List.mem_range, Bool.or_eq_true] at hS
  obtain ⟨s1, s2⟩ := hS
  have s1 := Nat.eq_of_beq_eq_true s1
  obtain ⟨n, rfl⟩ : ∃ n : Nat, x3 = n := ⟨x3.toNat, by omega⟩
  have s2 := s2 n (by omega)
  have t1 := Nat.le_of_ble_eq_true s2.1
  refine Tot.chk (by omega) (.ok ?_)
  rw [Int.toNat_natCast]
  revert t1 s2
  generalize (S.data.toList.getD n 0).toNat = t
  intro s2 t1
  rw [w64_id (x := (t : Int)) (by omega), w64_id (by omega)]
  refine ⟨by omega, by omega, fun hx => ?_⟩
  have e1 : (v2 + (t : Int)).toNat = v2.toNat + t := by omega
  rw [e1, Nat.pow_add, Int.natCast_mul]
  have hn := r3 hx
  have t2 : 2 ^ t ≤ 2 * n := by
    rcases s2.2 with h | h
    · have := Nat.eq_of_beq_eq_true h; omega
    · exact Nat.le_of_ble_eq_true h
  have t3 : ((2 ^ v2.toNat : Nat) : Int) * (2 ^ t : Nat) ≤ (2 ^ v2.toNat : Nat) * (2 * n : Nat) := Int.mul_le_mul_of_nonneg_left (by exact_mod_cast t2) (by exact_mod_cast Nat.zero_le _)
  have t4 : ((2 ^ v2.toNat : Nat) : Int) * ((2 * n : Nat) : Int) = 2 * ((n : Int) * (2 ^ v2.toNat : Nat)) := by
    rw [Int.natCast_mul, Int.mul_comm ((2 ^ v2.toNat : Nat) : Int), Int.mul_assoc]; rfl
  omega
theorem len_ok (x : IK .u64) (h0 : 0 ≤ x.v) (h1 : x.v < 8589934592) : Tot (math_bits_Len x) fun r => 0 ≤ r ∧ r ≤ 64 ∧ (1 ≤ x.v → ((2 ^ r.toNat : Nat) : Int) ≤ 2 * x.v) := by
  unfold math_bits_Len
  exact Tot.call (len64_ok x h0 h1) fun r hr => .ok hr
theorem u64_id' {n : Int} (h0 : 0 ≤ n) (h1 : n < 18446744073709551616) : IntKind.u64.wrap n = n := by
  show n % 18446744073709551616 = n
  exact Int.emod_eq_of_lt h0 h1
theorem hlp : Pdq.Hlp slices_nextPowerOfTwo slices_xorshift_Next := by
  refine ⟨fun n h1 h2 => ?_, fun x => ?_⟩
  · unfold slices_nextPowerOfTwo
    rw [u64_id' (by omega) (by omega)]
    refine Tot.call (len_ok ⟨n⟩ (by dsimp only; omega) (by dsimp only; omega)) fun r ⟨r1, r2, r3⟩ => Tot.chk r1 (.ok ?_)
    have r3 := r3 (by dsimp only; omega)
    dsimp only at r3 ⊢
    have e : min r.toNat (IntKind.u64).bits = r.toNat := Nat.min_eq_left (by show r.toNat ≤ 64; omega)
    have e2 : (1 : Int) * 2 ^ r.toNat = ((2 ^ r.toNat : Nat) : Int) := by rw [Int.one_mul]; norm_cast
    rw [e, e2]
    have := Nat.two_pow_pos r.toNat
    rw [u64_id' (by omega) (by omega)]
    omega
  · unfold slices_xorshift_Next
    exact Tot.chk (by decide) (Tot.chk (by decide) (Tot.chk (by decide) (.ok trivial)))
/-! Sorting of plain values (int): the library's quicksort is the one of the layer. -/
noncomputable def c0_int (x y : Int) : Option Int := some (if x < y then -1 else 0)
theorem less_int (x y : Int) : cmp_Less_int x y = some (decide (x < y)) := by
  unfold cmp_Less_int cmp_isNaN_int
  simp
theorem dlt_int (x y : Int) : decide ((if x < y then (-1 : Int) else 0) < 0) = decide (x < y) := by
  by_cases h : x < y <;> simp [h]
theorem insertionSort_L1_int (a : Int) : slices_insertionSortOrdered_int_w_L1 a = Pdq.insertionSort_L1 a c0_int := by
  funext ⟨s0, s1⟩
  simp only [slices_insertionSortOrdered_int_w_L1, Pdq.insertionSort_L1, c0_int, less_int, dlt_int, Option.bind_some]
theorem insertionSort_L2_int (a : Int) (b : Int) : slices_insertionSortOrdered_int_w_L2 a b = Pdq.insertionSort_L2 a b c0_int := by
  funext ⟨s0, s1⟩
  simp only [slices_insertionSortOrdered_int_w_L2, Pdq.insertionSort_L2, insertionSort_L1_int, c0_int, less_int, dlt_int, Option.bind_some]
theorem insertionSort_int (data : List Int) (a : Int) (b : Int) : slices_insertionSortOrdered_int_w data a b = Pdq.insertionSort data a b c0_int := by
  simp only [slices_insertionSortOrdered_int_w, Pdq.insertionSort, insertionSort_L1_int, insertionSort_L2_int, c0_int, less_int, dlt_int, Option.bind_some]
theorem siftDown_L1_int (hi : Int) (first : Int) : slices_siftDownOrdered_int_w_L1 hi first = Pdq.siftDown_L1 hi first c0_int := by
  funext ⟨s0, s1⟩
  simp only [slices_siftDownOrdered_int_w_L1, Pdq.siftDown_L1, insertionSort_L1_int, insertionSort_L2_int, insertionSort_int, c0_int, less_int, dlt_int, Option.bind_some]
theorem siftDown_int (data : List Int) (lo : Int) (hi : Int) (first : Int) : slices_siftDownOrdered_int_w data lo hi first = Pdq.siftDown data lo hi first c0_int := by
  simp only [slices_siftDownOrdered_int_w, Pdq.siftDown, insertionSort_L1_int, insertionSort_L2_int, insertionSort_int, siftDown_L1_int, c0_int, less_int, dlt_int, Option.bind_some]
theorem heapSort_L1_int (a : Int) (b : Int) : slices_heapSortOrdered_int_w_L1 a b = Pdq.heapSort_L1 a b c0_int := by
  funext ⟨s0, s1⟩
  simp only [slices_heapSortOrdered_int_w_L1, Pdq.heapSort_L1, insertionSort_L1_int, insertionSort_L2_int, insertionSort_int, siftDown_L1_int, siftDown_int, c0_int, less_int, dlt_int, Option.bind_some]
theorem heapSort_L2_int (a : Int) : slices_heapSortOrdered_int_w_L2 a = Pdq.heapSort_L2 a c0_int := by
  funext ⟨s0, s1⟩
  simp only [slices_heapSortOrdered_int_w_L2, Pdq.heapSort_L2, insertionSort_L1_int, insertionSort_L2_int, insertionSort_int, siftDown_L1_int, siftDown_int, heapSort_L1_int, c0_int, less_int, dlt_int, Option.bind_some]
theorem heapSort_int (data : List Int) (a : Int) (b : Int) : slices_heapSortOrdered_int_w data a b = Pdq.heapSort data a b c0_int := by
  simp only [slices_heapSortOrdered_int_w, Pdq.heapSort, insertionSort_L1_int, insertionSort_L2_int, insertionSort_int, siftDown_L1_int, siftDown_int, heapSort_L1_int, heapSort_L2_int, c0_int, less_int, dlt_int, Option.bind_some]
theorem order2_int (data : List Int) (a : Int) (b : Int) (swaps : Int) : slices_order2Ordered_int data a b swaps = Pdq.order2 data a b swaps c0_int := by
  simp only [slices_order2Ordered_int, Pdq.order2, insertionSort_L1_int, insertionSort_L2_int, insertionSort_int, siftDown_L1_int, siftDown_int, heapSort_L1_int, heapSort_L2_int, heapSort_int, c0_int, less_int, dlt_int, Option.bind_some]
theorem median_int (data : List Int) (a : Int) (b : Int) (c : Int) (swaps : Int) : slices_medianOrdered_int data a b c swaps = Pdq.median data a b c swaps c0_int := by
  simp only [slices_medianOrdered_int, Pdq.median, insertionSort_L1_int, insertionSort_L2_int, insertionSort_int, siftDown_L1_int, siftDown_int, heapSort_L1_int, heapSort_L2_int, heapSort_int, order2_int, c0_int, less_int, dlt_int, Option.bind_some]
theorem medianAdjacent_int (data : List Int) (a : Int) (swaps : Int) : slices_medianAdjacentOrdered_int data a swaps = Pdq.medianAdjacent data a swaps c0_int := by
  simp only [slices_medianAdjacentOrdered_int, Pdq.medianAdjacent, insertionSort_L1_int, insertionSort_L2_int, insertionSort_int, siftDown_L1_int, siftDown_int, heapSort_L1_int, heapSort_L2_int, heapSort_int, order2_int, median_int, c0_int, less_int, dlt_int, Option.bind_some]
theorem choosePivot_int (data : List Int) (a : Int) (b : Int) : slices_choosePivotOrdered_int data a b = Pdq.choosePivot data a b c0_int := by
  simp only [slices_choosePivotOrdered_int, Pdq.choosePivot, insertionSort_L1_int, insertionSort_L2_int, insertionSort_int, siftDown_L1_int, siftDown_int, heapSort_L1_int, heapSort_L2_int, heapSort_int, order2_int, median_int, medianAdjacent_int, c0_int, less_int, dlt_int, Option.bind_some]
theorem reverseRange_L1_int : slices_reverseRangeOrdered_int_w_L1 = Pdq.reverseRange_L1 := by
  funext ⟨s0, s1, s2⟩
  simp only [slices_reverseRangeOrdered_int_w_L1, Pdq.reverseRange_L1, insertionSort_L1_int, insertionSort_L2_int, insertionSort_int, siftDown_L1_int, siftDown_int, heapSort_L1_int, heapSort_L2_int, heapSort_int, order2_int, median_int, medianAdjacent_int, choosePivot_int, c0_int, less_int, dlt_int, Option.bind_some]
theorem reverseRange_int (data : List Int) (a : Int) (b : Int) : slices_reverseRangeOrdered_int_w data a b = Pdq.reverseRange data a b c0_int := by
  simp only [slices_reverseRangeOrdered_int_w, Pdq.reverseRange, insertionSort_L1_int, insertionSort_L2_int, insertionSort_int, siftDown_L1_int, siftDown_int, heapSort_L1_int, heapSort_L2_int, heapSort_int, order2_int, median_int, medianAdjacent_int, choosePivot_int, reverseRange_L1_int, c0_int, less_int, dlt_int, Option.bind_some]
theorem partialInsertionSort_L1_int (b : Int) (data1 : List Int) : slices_partialInsertionSortOrdered_int_w_L1 b data1 = Pdq.partialInsertionSort_L1 b c0_int data1 := by
  funext s0
  simp only [slices_partialInsertionSortOrdered_int_w_L1, Pdq.partialInsertionSort_L1, insertionSort_L1_int, insertionSort_L2_int, insertionSort_int, siftDown_L1_int, siftDown_int, heapSort_L1_int, heapSort_L2_int, heapSort_int, order2_int, median_int, medianAdjacent_int, choosePivot_int, reverseRange_L1_int, reverseRange_int, c0_int, less_int, dlt_int, Option.bind_some]
theorem partialInsertionSort_L2_int : slices_partialInsertionSortOrdered_int_w_L2 = Pdq.partialInsertionSort_L2 c0_int := by
  funext ⟨s0, s1⟩
  simp only [slices_partialInsertionSortOrdered_int_w_L2, Pdq.partialInsertionSort_L2, insertionSort_L1_int, insertionSort_L2_int, insertionSort_int, siftDown_L1_int, siftDown_int, heapSort_L1_int, heapSort_L2_int, heapSort_int, order2_int, median_int, medianAdjacent_int, choosePivot_int, reverseRange_L1_int, reverseRange_int, partialInsertionSort_L1_int, c0_int, less_int, dlt_int, Option.bind_some]
theorem partialInsertionSort_L3_int (b : Int) : slices_partialInsertionSortOrdered_int_w_L3 b = Pdq.partialInsertionSort_L3 b c0_int := by
  funext ⟨s0, s1⟩
  simp only [slices_partialInsertionSortOrdered_int_w_L3, Pdq.partialInsertionSort_L3, insertionSort_L1_int, insertionSort_L2_int, insertionSort_int, siftDown_L1_int, siftDown_int, heapSort_L1_int, heapSort_L2_int, heapSort_int, order2_int, median_int, medianAdjacent_int, choosePivot_int, reverseRange_L1_int, reverseRange_int, partialInsertionSort_L1_int, partialInsertionSort_L2_int, c0_int, less_int, dlt_int, Option.bind_some]
theorem partialInsertionSort_L4_int (a : Int) (b : Int) : slices_partialInsertionSortOrdered_int_w_L4 a b = Pdq.partialInsertionSort_L4 a b c0_int := by
  funext ⟨s0, s1, s2⟩
  simp only [slices_partialInsertionSortOrdered_int_w_L4, Pdq.partialInsertionSort_L4, insertionSort_L1_int, insertionSort_L2_int, insertionSort_int, siftDown_L1_int, siftDown_int, heapSort_L1_int, heapSort_L2_int, heapSort_int, order2_int, median_int, medianAdjacent_int, choosePivot_int, reverseRange_L1_int, reverseRange_int, partialInsertionSort_L1_int, partialInsertionSort_L2_int, partialInsertionSort_L3_int, c0_int, less_int, dlt_int, Option.bind_some]
theorem partialInsertionSort_int (data : List Int) (a : Int) (b : Int) : slices_partialInsertionSortOrdered_int_w data a b = Pdq.partialInsertionSort data a b c0_int := by
  simp only [slices_partialInsertionSortOrdered_int_w, Pdq.partialInsertionSort, insertionSort_L1_int, insertionSort_L2_int, insertionSort_int, siftDown_L1_int, siftDown_int, heapSort_L1_int, heapSort_L2_int, heapSort_int, order2_int, median_int, medianAdjacent_int, choosePivot_int, reverseRange_L1_int, reverseRange_int, partialInsertionSort_L1_int, partialInsertionSort_L2_int, partialInsertionSort_L3_int, partialInsertionSort_L4_int, c0_int, less_int, dlt_int, Option.bind_some]
theorem partitionEqual_L1_int (a : Int) (v1 : Int) (data1 : List Int) : slices_partitionEqualOrdered_int_w_L1 a v1 data1 = Pdq.partitionEqual_L1 a c0_int v1 data1 := by
  funext s0
  simp only [slices_partitionEqualOrdered_int_w_L1, Pdq.partitionEqual_L1, insertionSort_L1_int, insertionSort_L2_int, insertionSort_int, siftDown_L1_int, siftDown_int, heapSort_L1_int, heapSort_L2_int, heapSort_int, order2_int, median_int, medianAdjacent_int, choosePivot_int, reverseRange_L1_int, reverseRange_int, partialInsertionSort_L1_int, partialInsertionSort_L2_int, partialInsertionSort_L3_int, partialInsertionSort_L4_int, partialInsertionSort_int, c0_int, less_int, dlt_int, Option.bind_some]
theorem partitionEqual_L2_int (a : Int) (data1 : List Int) (v4 : Int) : slices_partitionEqualOrdered_int_w_L2 a data1 v4 = Pdq.partitionEqual_L2 a c0_int data1 v4 := by
  funext s0
  simp only [slices_partitionEqualOrdered_int_w_L2, Pdq.partitionEqual_L2, insertionSort_L1_int, insertionSort_L2_int, insertionSort_int, siftDown_L1_int, siftDown_int, heapSort_L1_int, heapSort_L2_int, heapSort_int, order2_int, median_int, medianAdjacent_int, choosePivot_int, reverseRange_L1_int, reverseRange_int, partialInsertionSort_L1_int, partialInsertionSort_L2_int, partialInsertionSort_L3_int, partialInsertionSort_L4_int, partialInsertionSort_int, partitionEqual_L1_int, c0_int, less_int, dlt_int, Option.bind_some]
theorem partitionEqual_L3_int (a : Int) : slices_partitionEqualOrdered_int_w_L3 a = Pdq.partitionEqual_L3 a c0_int := by
  funext ⟨s0, s1, s2⟩
  simp only [slices_partitionEqualOrdered_int_w_L3, Pdq.partitionEqual_L3, insertionSort_L1_int, insertionSort_L2_int, insertionSort_int, siftDown_L1_int, siftDown_int, heapSort_L1_int, heapSort_L2_int, heapSort_int, order2_int, median_int, medianAdjacent_int, choosePivot_int, reverseRange_L1_int, reverseRange_int, partialInsertionSort_L1_int, partialInsertionSort_L2_int, partialInsertionSort_L3_int, partialInsertionSort_L4_int, partialInsertionSort_int, partitionEqual_L1_int, partitionEqual_L2_int, c0_int, less_int, dlt_int, Option.bind_some]
theorem partitionEqual_int (data : List Int) (a : Int) (b : Int) (pivot : Int) : slices_partitionEqualOrdered_int_w data a b pivot = Pdq.partitionEqual data a b pivot c0_int := by
  simp only [slices_partitionEqualOrdered_int_w, Pdq.partitionEqual, insertionSort_L1_int, insertionSort_L2_int, insertionSort_int, siftDown_L1_int, siftDown_int, heapSort_L1_int, heapSort_L2_int, heapSort_int, order2_int, median_int, medianAdjacent_int, choosePivot_int, reverseRange_L1_int, reverseRange_int, partialInsertionSort_L1_int, partialInsertionSort_L2_int, partialInsertionSort_L3_int, partialInsertionSort_L4_int, partialInsertionSort_int, partitionEqual_L1_int, partitionEqual_L2_int, partitionEqual_L3_int, c0_int, less_int, dlt_int, Option.bind_some]
theorem partition_L1_int (data : List Int) (a : Int) (b : Int) (pivot : Int) (e4 : Int) (e5 : Int) : slices_partitionOrdered_int_w_L1 data a b pivot e4 e5 = Pdq.partition_L1 data a b pivot c0_int e4 e5 := by
  funext s0
  simp only [slices_partitionOrdered_int_w_L1, Pdq.partition_L1, insertionSort_L1_int, insertionSort_L2_int, insertionSort_int, siftDown_L1_int, siftDown_int, heapSort_L1_int, heapSort_L2_int, heapSort_int, order2_int, median_int, medianAdjacent_int, choosePivot_int, reverseRange_L1_int, reverseRange_int, partialInsertionSort_L1_int, partialInsertionSort_L2_int, partialInsertionSort_L3_int, partialInsertionSort_L4_int, partialInsertionSort_int, partitionEqual_L1_int, partitionEqual_L2_int, partitionEqual_L3_int, partitionEqual_int, c0_int, less_int, dlt_int, Option.bind_some]
theorem partition_L2_int (data : List Int) (a : Int) (pivot : Int) (e4 : Int) (e5 : Int) (v2 : Int) : slices_partitionOrdered_int_w_L2 data a pivot e4 e5 v2 = Pdq.partition_L2 data a pivot c0_int e4 e5 v2 := by
  funext s0
  simp only [slices_partitionOrdered_int_w_L2, Pdq.partition_L2, insertionSort_L1_int, insertionSort_L2_int, insertionSort_int, siftDown_L1_int, siftDown_int, heapSort_L1_int, heapSort_L2_int, heapSort_int, order2_int, median_int, medianAdjacent_int, choosePivot_int, reverseRange_L1_int, reverseRange_int, partialInsertionSort_L1_int, partialInsertionSort_L2_int, partialInsertionSort_L3_int, partialInsertionSort_L4_int, partialInsertionSort_int, partitionEqual_L1_int, partitionEqual_L2_int, partitionEqual_L3_int, partitionEqual_int, partition_L1_int, c0_int, less_int, dlt_int, Option.bind_some]
theorem partition_L3_int (a : Int) (v7 : Int) (data1 : List Int) : slices_partitionOrdered_int_w_L3 a v7 data1 = Pdq.partition_L3 a c0_int v7 data1 := by
  funext s0
  simp only [slices_partitionOrdered_int_w_L3, Pdq.partition_L3, insertionSort_L1_int, insertionSort_L2_int, insertionSort_int, siftDown_L1_int, siftDown_int, heapSort_L1_int, heapSort_L2_int, heapSort_int, order2_int, median_int, medianAdjacent_int, choosePivot_int, reverseRange_L1_int, reverseRange_int, partialInsertionSort_L1_int, partialInsertionSort_L2_int, partialInsertionSort_L3_int, partialInsertionSort_L4_int, partialInsertionSort_int, partitionEqual_L1_int, partitionEqual_L2_int, partitionEqual_L3_int, partitionEqual_int, partition_L1_int, partition_L2_int, c0_int, less_int, dlt_int, Option.bind_some]
theorem partition_L4_int (a : Int) (data1 : List Int) (v10 : Int) : slices_partitionOrdered_int_w_L4 a data1 v10 = Pdq.partition_L4 a c0_int data1 v10 := by
  funext s0
  simp only [slices_partitionOrdered_int_w_L4, Pdq.partition_L4, insertionSort_L1_int, insertionSort_L2_int, insertionSort_int, siftDown_L1_int, siftDown_int, heapSort_L1_int, heapSort_L2_int, heapSort_int, order2_int, median_int, medianAdjacent_int, choosePivot_int, reverseRange_L1_int, reverseRange_int, partialInsertionSort_L1_int, partialInsertionSort_L2_int, partialInsertionSort_L3_int, partialInsertionSort_L4_int, partialInsertionSort_int, partitionEqual_L1_int, partitionEqual_L2_int, partitionEqual_L3_int, partitionEqual_int, partition_L1_int, partition_L2_int, partition_L3_int, c0_int, less_int, dlt_int, Option.bind_some]
theorem partition_L5_int (a : Int) : slices_partitionOrdered_int_w_L5 a = Pdq.partition_L5 a c0_int := by
  funext ⟨s0, s1, s2⟩
  simp only [slices_partitionOrdered_int_w_L5, Pdq.partition_L5, insertionSort_L1_int, insertionSort_L2_int, insertionSort_int, siftDown_L1_int, siftDown_int, heapSort_L1_int, heapSort_L2_int, heapSort_int, order2_int, median_int, medianAdjacent_int, choosePivot_int, reverseRange_L1_int, reverseRange_int, partialInsertionSort_L1_int, partialInsertionSort_L2_int, partialInsertionSort_L3_int, partialInsertionSort_L4_int, partialInsertionSort_int, partitionEqual_L1_int, partitionEqual_L2_int, partitionEqual_L3_int, partitionEqual_int, partition_L1_int, partition_L2_int, partition_L3_int, partition_L4_int, c0_int, less_int, dlt_int, Option.bind_some]
theorem partition_int (data : List Int) (a : Int) (b : Int) (pivot : Int) : slices_partitionOrdered_int_w data a b pivot = Pdq.partition data a b pivot c0_int := by
  simp only [slices_partitionOrdered_int_w, Pdq.partition, insertionSort_L1_int, insertionSort_L2_int, insertionSort_int, siftDown_L1_int, siftDown_int, heapSort_L1_int, heapSort_L2_int, heapSort_int, order2_int, median_int, medianAdjacent_int, choosePivot_int, reverseRange_L1_int, reverseRange_int, partialInsertionSort_L1_int, partialInsertionSort_L2_int, partialInsertionSort_L3_int, partialInsertionSort_L4_int, partialInsertionSort_int, partitionEqual_L1_int, partitionEqual_L2_int, partitionEqual_L3_int, partitionEqual_int, partition_L1_int, partition_L2_int, partition_L3_int, partition_L4_int, partition_L5_int, c0_int, less_int, dlt_int, Option.bind_some]
theorem breakPatterns_L1_int (a : Int) (b : Int) (r : (IK .u64)) : slices_breakPatternsOrdered_int_w_L1 a b r = Pdq.breakPatterns_L1 slices_xorshift_Next a b r := by
  funext ⟨s0, s1, s2⟩
  simp only [slices_breakPatternsOrdered_int_w_L1, Pdq.breakPatterns_L1, insertionSort_L1_int, insertionSort_L2_int, insertionSort_int, siftDown_L1_int, siftDown_int, heapSort_L1_int, heapSort_L2_int, heapSort_int, order2_int, median_int, medianAdjacent_int, choosePivot_int, reverseRange_L1_int, reverseRange_int, partialInsertionSort_L1_int, partialInsertionSort_L2_int, partialInsertionSort_L3_int, partialInsertionSort_L4_int, partialInsertionSort_int, partitionEqual_L1_int, partitionEqual_L2_int, partitionEqual_L3_int, partitionEqual_int, partition_L1_int, partition_L2_int, partition_L3_int, partition_L4_int, partition_L5_int, partition_int, c0_int, less_int, dlt_int, Option.bind_some]
theorem breakPatterns_int (data : List Int) (a : Int) (b : Int) : slices_breakPatternsOrdered_int_w data a b = Pdq.breakPatterns slices_nextPowerOfTwo slices_xorshift_Next data a b c0_int := by
  simp only [slices_breakPatternsOrdered_int_w, Pdq.breakPatterns, insertionSort_L1_int, insertionSort_L2_int, insertionSort_int, siftDown_L1_int, siftDown_int, heapSort_L1_int, heapSort_L2_int, heapSort_int, order2_int, median_int, medianAdjacent_int, choosePivot_int, reverseRange_L1_int, reverseRange_int, partialInsertionSort_L1_int, partialInsertionSort_L2_int, partialInsertionSort_L3_int, partialInsertionSort_L4_int, partialInsertionSort_int, partitionEqual_L1_int, partitionEqual_L2_int, partitionEqual_L3_int, partitionEqual_int, partition_L1_int, partition_L2_int, partition_L3_int, partition_L4_int, partition_L5_int, partition_int, breakPatterns_L1_int, c0_int, less_int, dlt_int, Option.bind_some]
theorem pdq_L1_int (rec_ : List Int → Int → Int → Int → Option (List Int)) : slices_pdqsortOrdered_int_w_L1 rec_ = Pdq.pdq_L1 slices_nextPowerOfTwo slices_xorshift_Next c0_int rec_ := by
  funext ⟨s0, s1, s2, s3, s4, s5⟩
  simp only [slices_pdqsortOrdered_int_w_L1, Pdq.pdq_L1, insertionSort_L1_int, insertionSort_L2_int, insertionSort_int, siftDown_L1_int, siftDown_int, heapSort_L1_int, heapSort_L2_int, heapSort_int, order2_int, median_int, medianAdjacent_int, choosePivot_int, reverseRange_L1_int, reverseRange_int, partialInsertionSort_L1_int, partialInsertionSort_L2_int, partialInsertionSort_L3_int, partialInsertionSort_L4_int, partialInsertionSort_int, partitionEqual_L1_int, partitionEqual_L2_int, partitionEqual_L3_int, partitionEqual_int, partition_L1_int, partition_L2_int, partition_L3_int, partition_L4_int, partition_L5_int, partition_int, breakPatterns_L1_int, breakPatterns_int, c0_int, less_int, dlt_int, Option.bind_some]
theorem pdq_F_int (rec_ : List Int → Int → Int → Int → Option (List Int)) (l : List Int) (a b k : Int) : slices_pdqsortOrdered_int_w_F rec_ l a b k = Pdq.pdq_F slices_nextPowerOfTwo slices_xorshift_Next c0_int rec_ l a b k := by
  unfold slices_pdqsortOrdered_int_w_F Pdq.pdq_F
  rw [pdq_L1_int]
theorem pdqk_int : ∀ n, slices_pdqsortOrdered_int_w_k n = Pdq.pdq_k slices_nextPowerOfTwo slices_xorshift_Next c0_int n
  | 0 => rfl
  | n + 1 => by
    funext l a b k
    show slices_pdqsortOrdered_int_w_F (slices_pdqsortOrdered_int_w_k n) l a b k = Pdq.pdq_F slices_nextPowerOfTwo slices_xorshift_Next c0_int (Pdq.pdq_k slices_nextPowerOfTwo slices_xorshift_Next c0_int n) l a b k
    rw [pdqk_int n, pdq_F_int]
theorem lt_int : Pdq.Lt c0_int (· ≤ ·) := by
  refine ⟨fun x y => by omega, fun a b => by omega, fun x y => ⟨_, rfl, ?_⟩⟩
  by_cases h : x < y <;> simp [h] <;> omega
/-- Sorting numbers. -/
theorem sort_int (l : List Int) (h : l.length < 4294967296) : Tot (slices_Sort_int_w l) fun l' => l'.Perm l ∧ l'.Pairwise (· ≤ ·) := by
  unfold slices_Sort_int_w
  refine Tot.call (len_ok _ (by dsimp only; rw [u64_id' (by omega) (by omega)]; omega) (by dsimp only; rw [u64_id' (by omega) (by omega)]; omega)) fun r _ => ?_
  unfold slices_pdqsortOrdered_int_w
  rw [pdqk_int]
  refine Tot.call (Pdq.pdq_ok lt_int hlp (limit := r) h) fun l' hl' => .ok hl'
/-! Visits: when they are valid; shifting; fractions. -/
def BdV (v : Visit) : Prop := -100000 ≤ v.Planned ∧ v.Planned ≤ 100000 ∧ -100000 ≤ v.Actual ∧ v.Actual ≤ 100000
def BdVL (l : List Visit) : Prop := l.length ≤ 1000 ∧ ∀ v ∈ l, BdV v
def GoodV (v : Visit) : Prop := (0 ≤ v.Stop ∧ v.Stop ≤ 7) ∧ (0 ≤ v.Planned ∧ v.Planned ≤ 1799) ∧ (-60 ≤ v.Actual - v.Planned ∧ v.Actual - v.Planned ≤ 600) ∧ (0 ≤ v.Persons ∧ v.Persons ≤ 1000)
instance (v : Visit) : Decidable (GoodV v) := by unfold GoodV; infer_instance
def GoodVL (l : List Visit) : Prop := l.length ≤ 30 ∧ ∀ v ∈ l, GoodV v
noncomputable instance (l : List Visit) : Decidable (GoodVL l) := Classical.propDecidable _
theorem within_eq (n a b : Int) : i_within n a b = some (decide (a ≤ n ∧ n ≤ b)) := by
  unfold i_within
  by_cases h : a ≤ n <;> simp [h]
theorem l1In_eq (n a b : Int) : s_l1In n a b = some (decide (a ≤ n ∧ n ≤ b)) := by
  unfold s_l1In
  by_cases h : a ≤ n <;> simp [h]
theorem time_eq (t : Int) : i_IsValidTime t = some (decide (0 ≤ t ∧ t ≤ 1799)) := by
  unfold i_IsValidTime; rw [within_eq]; rfl
theorem l4Time_eq (t : Int) : s_l4Time t = some (decide (0 ≤ t ∧ t ≤ 1799)) := by
  unfold s_l4Time; rw [l1In_eq]; rfl
theorem valid_eq (l : List Visit) (hb : BdVL l) : i_IsValidVisits l = some (decide (GoodVL l)) := by
  unfold i_IsValidVisits
  by_cases h : l.length ≤ 30
  · have h' : ¬ (30 : Int) < l.length := by omega
    rw [if_neg (by simpa using h')]
    refine flb_dec (Tot.iter (fun m (s : Int) => s.toNat + m = l.length ∧ 0 ≤ s ∧ ∀ (i : Nat) x, i < s.toNat → l[i]? = some x → GoodV x) (n := l.length) ⟨by omega, by omega, fun i x h => absurd h (Nat.not_lt_zero _)⟩ ?_)
    rintro m s ⟨h1, h2, h5⟩
    unfold i_IsValidVisits_L1
    refine .iteP (fun hc => .idx h2 hc fun x hx => .eq (within_eq ..) ?_) (fun hc => .dn (.inl ⟨rfl, h, fun x hx => ?_⟩))
    · have hbx := hb.2 x (List.mem_of_getElem? hx)
      unfold BdV at hbx
      refine Tot.call (P := fun b => b = true ↔ ¬ ((0 ≤ x.Stop ∧ x.Stop ≤ 7) ∧ (0 ≤ x.Planned ∧ x.Planned ≤ 1799) ∧ (0 ≤ x.Persons ∧ x.Persons ≤ 1000))) (.iteN (fun hn => .ok (by simp only [true_iff]; exact fun a => hn a.1)) (fun hp => .eq (time_eq _) (.iteN (fun hn => .ok (by simp only [true_iff]; exact fun a => hn a.2.1)) (fun hp2 => .eq (within_eq ..) (.ok ?_))))) fun b hb' => .ite (fun hh => .dn (.inr ⟨rfl, fun hg => ?_⟩)) (fun hh => ?_)
      · simp only [hp, hp2]; by_cases h : (0 ≤ x.Persons ∧ x.Persons ≤ 1000) <;> simp [h]
      · have := hg.2 x (List.mem_of_getElem? hx)
        unfold GoodV at this
        exact hb'.1 hh ⟨this.1, this.2.1, this.2.2.2⟩
      · have hgg := Classical.not_not.1 fun a => by rw [hb'.2 a] at hh; cases hh
        rw [w64_id (x := x.Planned - 60) (by omega), w64_id (x := x.Planned + 600) (by omega)]
        refine .eq (within_eq ..) (.iteN (fun hn => .dn (.inr ⟨rfl, fun hg => ?_⟩)) (fun hp => ?_))
        · have := hg.2 x (List.mem_of_getElem? hx)
          unfold GoodV at this
          omega
        · rw [w64_id (by omega)]
          refine .nx ⟨m - 1, by omega, by omega, by omega, fun i y hi hy => ?_⟩
          by_cases hii : i = s.toNat
          · subst hii; rw [hx] at hy; cases hy; unfold GoodV; omega
          · exact h5 i y (by omega) hy
    · obtain ⟨i, hi⟩ := List.getElem?_of_mem hx
      exact h5 i x (by have := get_lt hi; omega) hi
  · have h' : (30 : Int) < l.length := by omega
    have : ¬ GoodVL l := fun a => h a.1
    simp [h', this]
theorem good_eq (l : List Visit) (hb : BdVL l) : s_l22Good l = some (decide (GoodVL l)) := by
  unfold s_l22Good
  refine Tot.val (.flb ((Tot.iter (fun m (s : Int) => s.toNat + m = l.length ∧ 0 ≤ s ∧ ∀ (i : Nat) x, i < s.toNat → l[i]? = some x → GoodV x) (Q := fun (b : Fl Bool Unit) => (b = .ret false ∧ ¬ GoodVL l) ∨ (b = .go () ∧ ∀ x ∈ l, GoodV x)) (n := l.length) ⟨by omega, by omega, fun i x h => absurd h (Nat.not_lt_zero _)⟩ ?_).mono fun b hb => ?_))
  · rintro m s ⟨h1, h2, h5⟩
    unfold s_l22Good_L1
    refine .iteP (fun hc => .idx h2 hc fun x hx => .eq (l1In_eq ..) ?_) (fun hc => .dn (.inr ⟨rfl, fun x hx => ?_⟩))
    · have hbx := hb.2 x (List.mem_of_getElem? hx)
      have hbl := hb.1
      unfold BdV at hbx
      rw [w64_id (x := x.Actual - x.Planned) (by omega)]
      refine Tot.call (P := fun b => b = true ↔ ¬ GoodV x) (.iteN (fun hn => .ok (by simp only [true_iff]; exact fun a => hn a.1)) (fun hp => .eq (l4Time_eq _) (.iteN (fun hn => .ok (by simp only [true_iff]; exact fun a => hn a.2.1)) (fun hp2 => .eq (l1In_eq ..) (.iteN (fun hn => .ok (by simp only [true_iff]; exact fun a => hn a.2.2.1)) (fun hp3 => .eq (l1In_eq ..) (.ok ?_))))))) fun b hb' => .ite (fun hh => .dn (.inl ⟨rfl, fun hg => hb'.1 hh (hg.2 x (List.mem_of_getElem? hx))⟩)) (fun hh => ?_)
      · unfold GoodV
        simp only [hp, hp2, hp3]; by_cases h : (0 ≤ x.Persons ∧ x.Persons ≤ 1000) <;> simp [h]
      · have hgg := Classical.not_not.1 fun a => by rw [hb'.2 a] at hh; cases hh
        rw [w64_id (by omega)]
        refine .nx ⟨m - 1, by omega, by omega, by omega, fun i y hi hy => ?_⟩
        by_cases hii : i = s.toNat
        · subst hii; rw [hx] at hy; cases hy; exact hgg
        · exact h5 i y (by omega) hy
    · obtain ⟨i, hi⟩ := List.getElem?_of_mem hx
      exact h5 i x (by have := get_lt hi; omega) hi
  · rcases hb with ⟨rfl, hg⟩ | ⟨rfl, hg⟩
    · exact ⟨fun r e => (by cases e; simp [hg]), fun u e => (by cases e)⟩
    · refine ⟨fun r e => (by cases e), fun u e => .ok ?_⟩
      exact decide_eq_decide.2 ⟨fun h => ⟨by omega, hg⟩, fun h => by have := h.1; omega⟩
def sh (m : Int) (v : Visit) : Visit := ⟨v.Stop, v.Planned + m, v.Actual, v.Persons⟩
theorem sh_bd {l : List Visit} (hg : GoodVL l) {m : Int} (hm : -1799 ≤ m ∧ m ≤ 1799) : BdVL (l.map (sh m)) := by
  refine ⟨by simp; have := hg.1; omega, fun v hv => ?_⟩
  obtain ⟨x, hx, rfl⟩ := List.mem_map.1 hv
  have := hg.2 x hx
  unfold GoodV at this
  unfold BdV sh
  dsimp only; omega
theorem clone_eq (l : List Visit) (h : l.length ≤ 1000) : slices_Clone_Visit l = some l := by
  unfold slices_Clone_Visit
  rw [chk_of (by simp; omega)]; rfl
theorem ishift_eq {l : List Visit} (hg : GoodVL l) {m : Int} (hm : -1799 ≤ m ∧ m ≤ 1799) : i_shiftVisits l m = some (l.map (sh m), decide (GoodVL (l.map (sh m)))) := by
  have hl := hg.1
  unfold i_shiftVisits
  rw [clone_eq l (by omega)]
  have e : iter (i_shiftVisits_L1 m l) (0, l) = some (l.map (sh m)) := by
    refine map_loop (sh m) l (fun i a x ha hx hlx => ?_) (fun a ha => ?_)
    · have := get_lt hlx
      have hgx := hg.2 x (List.mem_of_getElem? hlx)
      unfold GoodV at hgx
      unfold i_shiftVisits_L1
      have e1 : w64 (x.Planned + m) = x.Planned + m := w64_id (by omega)
      simp only [Int.ofNat_lt.2 this, decide_true, if_true, idx_nat, hx, Option.bind_some, e1, w64_succ (n := i) (by omega), Int.toNat_natCast]
      rfl
    · unfold i_shiftVisits_L1; simp
  simp only [Option.bind_some, e, valid_eq _ (sh_bd hg hm)]
theorem sshift_eq {l : List Visit} (hg : GoodVL l) {m : Int} (hm : -1799 ≤ m ∧ m ≤ 1799) : s_l22Shift l m = some (l.map (sh m)) := by
  have hl := hg.1
  unfold s_l22Shift
  have e : iter (s_l22Shift_L1 l m) (0, []) = some (l.map (sh m)) := by
    refine app_loop (sh m) l (fun i a x ha hx => ?_) (fun a ha => ?_)
    · have := get_lt hx
      have hgx := hg.2 x (List.mem_of_getElem? hx)
      unfold GoodV at hgx
      unfold s_l22Shift_L1
      have e1 : w64 (x.Planned + m) = x.Planned + m := w64_id (by omega)
      simp only [Int.ofNat_lt.2 this, decide_true, if_true, idx_nat, hx, Option.bind_some, e1, w64_succ (n := i) (by omega)]
      rw [chk_of (by simp; omega)]
      rfl
    · unfold s_l22Shift_L1; simp
  simp only [Option.bind_some, e]
theorem iShift_eq {l : List Visit} (hb : BdVL l) (m : Int) : i_ShiftVisits l m = some (if GoodVL l ∧ (-1799 ≤ m ∧ m ≤ 1799) ∧ GoodVL (l.map (sh m)) then (l.map (sh m), true) else ([], false)) := by
  unfold i_ShiftVisits
  rw [valid_eq l hb]
  by_cases hg : GoodVL l
  · by_cases hm : -1799 ≤ m ∧ m ≤ 1799
    · by_cases hs : GoodVL (l.map (sh m))
      · simp [hg, hm, hs, within_eq, ishift_eq hg hm]
      · simp [hg, hm, hs, within_eq, ishift_eq hg hm]
    · simp [hg, hm, within_eq]
  · simp [hg]
theorem sShift_eq {l : List Visit} (hb : BdVL l) (m : Int) : s_ShiftVisits l m = some (if GoodVL l ∧ (-1799 ≤ m ∧ m ≤ 1799) ∧ GoodVL (l.map (sh m)) then (l.map (sh m), true) else ([], false)) := by
  unfold s_ShiftVisits
  rw [good_eq l hb]
  by_cases hg : GoodVL l
  · by_cases hm : -1799 ≤ m ∧ m ≤ 1799
    · by_cases hs : GoodVL (l.map (sh m))
      · simp [hg, hm, hs, l1In_eq, sshift_eq hg hm, good_eq _ (sh_bd hg hm)]
      · simp [hg, hm, hs, l1In_eq, sshift_eq hg hm, good_eq _ (sh_bd hg hm)]
    · simp [hg, hm, l1In_eq]
  · simp [hg]
/-- The greatest common divisor. -/
theorem gcd_loop {step : Int × Int → Option (Lp (Int × Int) Int)} (hs : ∀ a b : Int, step (a, b) = if (b != 0) = true then (chk (b ≠ 0)).bind fun _ => some (.nx (b, a.tmod b)) else some (.dn a)) (a b : Int) (ha : 0 ≤ a) (hb : 0 ≤ b) : iter step (a, b) = some (Int.gcd a b : Int) := by
  refine Tot.val ((Tot.iter (fun m (s : Int × Int) => s.2.toNat = m ∧ 0 ≤ s.1 ∧ 0 ≤ s.2 ∧ Int.gcd s.1 s.2 = Int.gcd a b) (n := b.toNat) ⟨rfl, ha, hb, rfl⟩ ?_).mono fun _ h => h)
  rintro m ⟨x, y⟩ ⟨h1, h2, h3, h4⟩
  dsimp only at h1 h2 h3 h4
  rw [hs]
  by_cases hy : y = 0
  · subst hy
    refine .dn ?_
    rw [← h4, Int.gcd_zero_right]
    omega
  · have hc : (y != 0) = true := by simpa using hy
    rw [if_pos hc]
    have hr := tmod_rng (a := x) (b := y) h2 (by omega)
    refine .chk hy (.nx ⟨(x.tmod y).toNat, by omega, rfl, h3, hr.1, ?_⟩)
    rw [← h4]
    dsimp only
    have e : x.tmod y = x % y := Int.tmod_eq_emod_of_nonneg h2
    obtain ⟨p, rfl⟩ : ∃ p : Nat, x = p := ⟨x.toNat, by omega⟩
    obtain ⟨q, rfl⟩ : ∃ q : Nat, y = q := ⟨y.toNat, by omega⟩
    rw [e, ← Int.natCast_emod, Int.gcd_natCast_natCast, Int.gcd_natCast_natCast, Nat.gcd_comm p q, Nat.gcd_rec q p, Nat.gcd_comm]
def gI (a b : Int) : Int := (Int.gcd a b : Int)
theorem gI_pos {a b : Int} (hb : 0 < b) : 0 < gI a b := by
  have : 0 < Int.gcd a b := Int.gcd_pos_of_ne_zero_right a (by omega)
  unfold gI; omega
theorem gI_dvd {a b : Int} : gI a b ∣ a ∧ gI a b ∣ b := ⟨Int.gcd_dvd_left .., Int.gcd_dvd_right ..⟩
theorem div_eq {a g : Int} (hg : 0 < g) (hd : g ∣ a) (ha : -4611686018427387904 ≤ a ∧ a ≤ 4611686018427387904) : w64 (a.tdiv g) = a / g := by
  have e : a.tdiv g = a / g := Int.tdiv_eq_ediv_of_dvd hd
  rw [e, w64_id]
  obtain ⟨k, rfl⟩ := hd
  rw [Int.mul_ediv_cancel_left k (by omega)]
  have h1 : k ≤ g * k ∨ k ≤ 0 := by
    rcases Int.lt_or_le 0 k with h | h
    · left
      have := Int.mul_le_mul_of_nonneg_right (show (1 : Int) ≤ g by omega) (show 0 ≤ k by omega)
      omega
    · exact .inr h
  have h2 : g * k ≤ k ∨ 0 ≤ k := by
    rcases Int.lt_or_le k 0 with h | h
    · left
      have := Int.mul_le_mul_of_nonpos_right (show (1 : Int) ≤ g by omega) (show k ≤ 0 by omega)
      omega
    · exact .inr h
  omega
theorem fraction_eq (n d : Int) (hd : 0 < d) (hn : -4000000000000000000 ≤ n ∧ n ≤ 4000000000000000000) (hd2 : d ≤ 4000000000000000000) : i_fraction n d = some (n / gI n d, d / gI n d, true) := by
  unfold i_fraction
  have e0 : w64 (0 - n) = -n := by rw [w64_id (by omega)]; omega
  have ea : (if w64 (0 - n) > n then w64 (0 - n) else n) = (n.natAbs : Int) := by rw [e0]; split <;> omega
  rw [ea, gcd_loop (fun a b => rfl) _ _ (by omega) (by omega)]
  have eg : ((Int.gcd (n.natAbs : Int) d : Nat) : Int) = gI n d := by unfold gI; simp [Int.gcd]
  rw [eg]
  have hp := gI_pos (a := n) hd
  simp only [Option.bind_some, chk_of (show gI n d ≠ 0 by omega), div_eq hp gI_dvd.1 (by omega), div_eq hp gI_dvd.2 (by omega)]
theorem reduce_eq (n d : Int) (hd : 0 < d) (hn : -4000000000000000000 ≤ n ∧ n ≤ 4000000000000000000) (hd2 : d ≤ 4000000000000000000) : s_l22Reduce n d = some (n / gI n d, d / gI n d) := by
  unfold s_l22Reduce
  have e0 : w64 (0 - n) = -n := by rw [w64_id (by omega)]; omega
  have ea : s_l1Most n (w64 (0 - n)) = some (n.natAbs : Int) := by
    rw [e0]
    unfold s_l1Most
    by_cases h : -n < n
    · have : n = (n.natAbs : Int) := by omega
      simp [h]; omega
    · simp [h]; omega
  rw [ea]
  simp only [Option.bind_some]
  rw [gcd_loop (fun a b => rfl) _ _ (by omega) (by omega)]
  have eg : ((Int.gcd (n.natAbs : Int) d : Nat) : Int) = gI n d := by unfold gI; simp [Int.gcd]
  rw [eg]
  have hp := gI_pos (a := n) hd
  simp only [Option.bind_some, chk_of (show gI n d ≠ 0 by omega), div_eq hp gI_dvd.1 (by omega), div_eq hp gI_dvd.2 (by omega)]
/-- Delays. -/
def dl (v : Visit) : Int := v.Actual - v.Planned
theorem mean_eq {l : List Visit} (hg : GoodVL l) (hb : BdVL l) (h0 : 0 < l.length) : i_MeanDelay l = some ((l.map dl).sum / gI (l.map dl).sum l.length, (l.length : Int) / gI (l.map dl).sum l.length, true) ∧ (-2000 ≤ (l.map dl).sum ∧ (l.map dl).sum ≤ 20000) := by
  have hl := hg.1
  have bd : ∀ i : Nat, -60 * (i : Int) ≤ ((l.take i).map dl).sum ∧ ((l.take i).map dl).sum ≤ 600 * i := by
    intro i
    induction i with
    | zero => simp
    | succ i ih =>
      by_cases hi : i < l.length
      · obtain ⟨x, hx⟩ := get_ex hi
        have := hg.2 x (List.mem_of_getElem? hx)
        unfold GoodV at this
        rw [take_succ hx, List.map_append, List.sum_append]
        simp only [List.map_cons, List.map_nil, List.sum_cons, List.sum_nil, dl]
        omega
      · rw [List.take_of_length_le (by omega)] at ih ⊢
        omega
  have bl := bd l.length
  rw [List.take_length] at bl
  have e : iter (i_MeanDelay_L1 l) (0, 0) = some (l.map dl).sum := by
    refine Tot.val (Tot.iter (fun k (s : Int × Int) => ∃ i : Nat, s.2 = i ∧ i + k = l.length ∧ s.1 = ((l.take i).map dl).sum) (n := l.length) ⟨0, rfl, by omega, by simp⟩ ?_)
    rintro k ⟨a, b⟩ ⟨i, rfl, h1, h2⟩
    dsimp only at h2
    unfold i_MeanDelay_L1
    dsimp only
    refine .iteP (fun hc => ?_) (fun hc => .dn ?_)
    · refine .idx (by omega) hc fun x hx => ?_
      rw [Int.toNat_natCast] at hx
      have := hg.2 x (List.mem_of_getElem? hx)
      have bi := bd i
      unfold GoodV at this
      rw [w64_id (x := x.Actual - x.Planned) (by omega), w64_id (by omega), w64_id (by omega)]
      refine .nx ⟨k - 1, by omega, i + 1, by dsimp only; omega, by omega, ?_⟩
      dsimp only
      rw [take_succ hx, List.map_append, List.sum_append, ← h2]
      simp [dl]
    · have : i = l.length := by omega
      subst this
      rw [List.take_length] at h2
      exact h2
  refine ⟨?_, by omega⟩
  unfold i_MeanDelay
  have hne : ((l.length : Int) == 0) = false := beq_eq_false_iff_ne.2 (by omega)
  rw [valid_eq l hb, decide_eq_true hg]
  simp only [Option.bind_some, Bool.not_true, Bool.false_eq_true, if_false, hne, e, fraction_eq (l.map dl).sum (l.length : Int) (by omega) (by omega) (by omega)]
theorem mean_shift {l : List Visit} (m : Int) : ((l.map (sh m)).map dl).sum = (l.map dl).sum - m * l.length := by
  induction l with
  | nil => simp
  | cons x l ih =>
    simp only [List.map_cons, List.sum_cons, List.length_cons]
    rw [ih]
    have e : m * ((l.length + 1 : Nat) : Int) = m * l.length + m := by
      rw [Int.natCast_add, Int.mul_add]; simp
    rw [e]
    unfold dl sh
    dsimp only; omega
theorem gI_shift (a m n : Int) : gI (a - m * n) n = gI a n := by
  unfold gI
  rw [Int.sub_eq_add_neg, ← Int.neg_mul, Int.gcd_add_mul_right_left]
/-! Quantiles of delays. -/
def cnt (ds : List Int) (d : Int) : Nat := ds.countP fun x => decide (x ≤ d)
def Qu (ds : List Int) (num den x : Int) : Prop := x ∈ ds ∧ num * ds.length ≤ cnt ds x * den ∧ ∀ d ∈ ds, num * ds.length ≤ cnt ds d * den → x ≤ d
theorem Qu.uniq {ds : List Int} {num den x y : Int} (h : Qu ds num den x) (h' : Qu ds num den y) : x = y := by
  have a := h.2.2 y h'.1 h'.2.1
  have b := h'.2.2 x h.1 h.2.1
  omega
theorem cnt_shift (ds : List Int) (m d : Int) : cnt (ds.map (· - m)) d = cnt ds (d + m) := by
  unfold cnt
  rw [List.countP_map]
  congr 1
  funext x
  show decide (x - m ≤ d) = decide (x ≤ d + m)
  exact decide_eq_decide.2 (by omega)
theorem Qu.shift {ds : List Int} {num den x m : Int} (h : Qu ds num den x) : Qu (ds.map (· - m)) num den (x - m) := by
  refine ⟨List.mem_map.2 ⟨x, h.1, rfl⟩, ?_, fun d hd hq => ?_⟩
  · rw [cnt_shift, List.length_map, show x - m + m = x by omega]; exact h.2.1
  · obtain ⟨y, hy, rfl⟩ := List.mem_map.1 hd
    rw [cnt_shift, List.length_map, show y - m + m = y by omega] at hq
    have := h.2.2 y hy hq
    omega
theorem cnt_take {r : List Int} (hs : r.Pairwise (· ≤ ·)) {k : Nat} {x : Int} (hx : r[k]? = some x) : k + 1 ≤ cnt r x := by
  unfold cnt
  have h1 : (r.take (k + 1)).countP (fun y => decide (y ≤ x)) = (r.take (k + 1)).length := by
    rw [List.countP_eq_length]
    intro y hy
    obtain ⟨i, hi⟩ := List.getElem?_of_mem hy
    rw [List.getElem?_take] at hi
    split at hi
    · rename_i hik
      by_cases e : i = k
      · subst e; rw [hx] at hi; cases hi; simp
      · have a := (List.getElem?_eq_some_iff.1 hi); have b := (List.getElem?_eq_some_iff.1 hx)
        have := List.pairwise_iff_getElem.1 hs i k (get_lt hi) (get_lt hx) (by omega)
        rw [a.2, b.2] at this
        simpa using this
    · cases hi
  have h2 := List.countP_append (p := fun y => decide (y ≤ x)) (l₁ := r.take (k + 1)) (l₂ := r.drop (k + 1))
  rw [List.take_append_drop, h1, List.length_take] at h2
  have := get_lt hx
  omega
theorem cnt_lt {r : List Int} (hs : r.Pairwise (· ≤ ·)) {k : Nat} {x d : Int} (hx : r[k]? = some x) (hd : d < x) : cnt r d ≤ k := by
  unfold cnt
  have h1 : (r.drop k).countP (fun y => decide (y ≤ d)) = 0 := by
    rw [List.countP_eq_zero]
    intro y hy
    obtain ⟨i, hi⟩ := List.getElem?_of_mem hy
    rw [List.getElem?_drop] at hi
    have : x ≤ y := by
      by_cases e : i = 0
      · subst e; rw [Nat.add_zero, hx] at hi; cases hi; exact Int.le_refl _
      · have a := (List.getElem?_eq_some_iff.1 hi); have b := (List.getElem?_eq_some_iff.1 hx)
        have := List.pairwise_iff_getElem.1 hs k (k + i) (get_lt hx) (get_lt hi) (by omega)
        rw [a.2, b.2] at this
        exact this
    simp; omega
  have h2 := List.countP_append (p := fun y => decide (y ≤ d)) (l₁ := r.take k) (l₂ := r.drop k)
  rw [List.take_append_drop, h1] at h2
  have := List.countP_le_length (p := fun y => decide (y ≤ d)) (l := r.take k)
  rw [List.length_take] at this
  omega
theorem mul_le_of {a b c : Int} (h : a ≤ b) (hc : 0 ≤ c) : a * c ≤ b * c := Int.mul_le_mul_of_nonneg_right h hc
def QP (l : List Visit) (num den : Int) : Prop := GoodVL l ∧ 0 < l.length ∧ 1 ≤ num ∧ num ≤ den ∧ den ≤ 1000
noncomputable instance (l : List Visit) (num den : Int) : Decidable (QP l num den) := Classical.propDecidable _
theorem delays_bd {l : List Visit} (hg : GoodVL l) : ∀ d ∈ l.map dl, -60 ≤ d ∧ d ≤ 600 := by
  intro d hd
  obtain ⟨v, hv, rfl⟩ := List.mem_map.1 hd
  have := hg.2 v hv
  unfold GoodV at this
  unfold dl; omega
theorem prod_bd {n c : Int} (h : 1 ≤ n ∧ n ≤ 1000) (hc : 0 ≤ c ∧ c ≤ 31) : 0 ≤ c * n ∧ c * n ≤ 31000 := by
  have h1 := Int.mul_nonneg hc.1 (show 0 ≤ n by omega)
  have h2 : c * n ≤ 31 * 1000 := Int.mul_le_mul hc.2 h.2 (by omega) (by omega)
  omega
theorem iQ_ok {l : List Visit} (hb : BdVL l) (num den : Int) : Tot (i_DelayQuantile l num den) fun r => (QP l num den → r.2 = true ∧ Qu (l.map dl) num den r.1) ∧ (¬ QP l num den → r = (0, false)) := by
  unfold i_DelayQuantile
  rw [valid_eq l hb]
  refine .eq rfl (Tot.call (P := fun b => b = true ↔ ¬ QP l num den) (.iteN (fun h => .ok ?_) (fun h => .ite (fun h1 => .ok ?_) (fun h1 => .iteP (fun h2 => .ok ?_) (fun h2 => .iteP (fun h3 => .ok ?_) (fun h3 => .ok ?_))))) fun b hb' => .ite (fun hh => .ok ⟨fun a => absurd a (hb'.1 hh), fun _ => rfl⟩) (fun hh => ?_))
  · simp only [true_iff]; exact fun a => h a.1
  · simp only [true_iff]; intro a; have : l.length = 0 := by simpa using h1
    have := a.2.1; omega
  · simp only [true_iff]; intro a; have := a.2.2; omega
  · simp only [true_iff]; intro a; have := a.2.2; omega
  · have h1 : l.length ≠ 0 := by
      have : ((l.length : Int) == 0) = false := h1
      have := beq_eq_false_iff_ne.1 this; omega
    unfold QP
    rw [decide_eq_true_eq]
    constructor
    · intro a b; omega
    · intro a; exact Classical.byContradiction fun c => a ⟨h, by omega, by omega, by omega, by omega⟩
  · have hq : QP l num den := Classical.not_not.1 fun a => by rw [hb'.2 a] at hh; cases hh
    obtain ⟨hg, h0, q1, q2, q3⟩ := hq
    have hl := hg.1
    refine .chk (by omega) (Tot.eq (a := l.map dl) ?_ ?_)
    · refine fill_loop dl l _ (by rw [List.length_replicate]; omega) (fun i a x y ha hy hx => ?_) (fun a ha => ?_)
      · have := get_lt hx
        have hgx := hg.2 x (List.mem_of_getElem? hx)
        unfold GoodV at hgx
        unfold i_DelayQuantile_L1
        have e1 : w64 (x.Actual - x.Planned) = x.Actual - x.Planned := w64_id (by omega)
        simp only [Int.ofNat_lt.2 this, decide_true, if_true, idx_nat, hx, hy, Option.bind_some, e1, w64_succ (n := i) (by omega), Int.toNat_natCast]
        rfl
      · unfold i_DelayQuantile_L1; simp
    refine Tot.call (sort_int _ (by rw [List.length_map]; omega)) fun r ⟨hp, hs⟩ => ?_
    have hrl : r.length = l.length := by rw [hp.length_eq, List.length_map]
    have hnl := prod_bd (n := num) (c := l.length) (by omega) (by omega)
    have hcomm : num * (l.length : Int) = l.length * num := Int.mul_comm ..
    refine Tot.call (P := fun (v : Int) => ∃ k : Nat, v = k ∧ k < l.length ∧ num * l.length ≤ (k + 1) * den ∧ ∀ j : Nat, num * l.length ≤ (j + 1) * den → k ≤ j) ?_ fun v ⟨k, hk, hkl, hk1, hk2⟩ => ?_
    · refine Tot.iter (fun m (s : Int) => ∃ k : Nat, s = k ∧ k + m = l.length ∧ k < l.length ∧ ∀ j : Nat, num * l.length ≤ (j + 1) * den → k ≤ j) (n := l.length) ⟨0, rfl, by omega, h0, fun j _ => Nat.zero_le _⟩ ?_
      rintro m s ⟨k, rfl, k1, k2, k3⟩
      unfold i_DelayQuantile_L2
      dsimp only
      rw [hrl]
      have hb1 := prod_bd (n := den) (c := (k : Int) + 1) (by omega) (by omega)
      rw [w64_id (x := (k : Int) + 1) (by omega), w64_id (x := ((k : Int) + 1) * den) (by omega), w64_id (x := num * (l.length : Int)) (by omega)]
      refine .iteP (fun hc => .nx ⟨m - 1, by omega, k + 1, by omega, by omega, ?_, fun j hj => ?_⟩) (fun hc => .dn ⟨k, rfl, k2, by omega, k3⟩)
      · rcases Nat.lt_or_ge (k + 1) l.length with h | h
        · exact h
        · have e : ((k : Int) + 1) = l.length := by omega
          rw [e] at hc
          have := mul_le_of (a := num) (b := den) (c := l.length) (by omega) (by omega)
          rw [Int.mul_comm (l.length : Int) den] at hc
          omega
      · have := k3 j hj
        rcases Nat.lt_or_ge k j with h | h
        · exact h
        · have : j = k := by omega
          subst this; omega
    · subst hk
      refine .idx (by omega) (by omega) fun x hx => .ok ⟨fun _ => ⟨rfl, ?_⟩, fun a => absurd ⟨hg, h0, q1, q2, q3⟩ a⟩
      rw [Int.toNat_natCast] at hx
      have hcp : ∀ d, cnt (l.map dl) d = cnt r d := fun d => (hp.countP_eq _).symm
      refine ⟨hp.mem_iff.1 (List.mem_of_getElem? hx), ?_, fun d hd hq => ?_⟩
      · rw [hcp, List.length_map]
        have h1 := cnt_take hs hx
        have := mul_le_of (a := (k : Int) + 1) (b := cnt r x) (c := den) (by omega) (by omega)
        dsimp only
        omega
      · rw [hcp, List.length_map] at hq
        dsimp only
        rcases Int.lt_or_le d x with h | h
        · have h1 := cnt_lt hs hx h
          have hc0 : 1 ≤ cnt r d := by
            rcases Nat.eq_zero_or_pos (cnt r d) with e | e
            · rw [e] at hq
              have : (1 : Int) * 1 ≤ num * l.length := Int.mul_le_mul q1 (by omega) (by omega) (by omega)
              simp at hq; omega
            · exact e
          have := hk2 (cnt r d - 1) (by rw [show (((cnt r d - 1 : Nat) : Int) + 1) = cnt r d by omega]; exact hq)
          omega
        · exact h
theorem sQ_ok {l : List Visit} (hb : BdVL l) (num den : Int) : Tot (s_DelayQuantile l num den) fun r => (QP l num den → r.2 = true ∧ Qu (l.map dl) num den r.1) ∧ (¬ QP l num den → r = (0, false)) := by
  unfold s_DelayQuantile
  rw [good_eq l hb]
  refine .eq rfl (Tot.call (P := fun b => b = true ↔ ¬ QP l num den) (.iteN (fun h => .ok ?_) (fun h => .ite (fun h1 => .ok ?_) (fun h1 => .eq (l1In_eq ..) (.iteN (fun h2 => .ok ?_) (fun h2 => .eq (l1In_eq ..) (.ok ?_)))))) fun b hb' => .ite (fun hh => .ok ⟨fun a => absurd a (hb'.1 hh), fun _ => rfl⟩) (fun hh => ?_))
  · simp only [true_iff]; exact fun a => h a.1
  · simp only [true_iff]; intro a; have : l.length = 0 := by simpa using h1
    have := a.2.1; omega
  · simp only [true_iff]; intro a; have := a.2.2; omega
  · have h1 : l.length ≠ 0 := by
      have : ((l.length : Int) == 0) = false := h1
      have := beq_eq_false_iff_ne.1 this; omega
    unfold QP
    by_cases hn : 1 ≤ num ∧ num ≤ den
    · rw [decide_eq_true hn]
      exact ⟨fun c => (by cases c), fun a => absurd ⟨h, by omega, hn.1, hn.2, h2.2⟩ a⟩
    · rw [decide_eq_false hn]
      exact ⟨fun _ a => hn ⟨a.2.2.1, a.2.2.2.1⟩, fun _ => rfl⟩
  · have hq : QP l num den := Classical.not_not.1 fun a => by rw [hb'.2 a] at hh; cases hh
    obtain ⟨hg, h0, q1, q2, q3⟩ := id hq
    have hl := hg.1
    have hbd := delays_bd hg
    have hnl := prod_bd (n := num) (c := l.length) (by omega) (by omega)
    have hcomm : num * (l.length : Int) = l.length * num := Int.mul_comm ..
    -- there is one
    obtain ⟨x0, hx0⟩ : ∃ x, Qu (l.map dl) num den x := by
      obtain ⟨r, _, h1, _⟩ := iQ_ok hb num den
      exact ⟨_, (h1 hq).2⟩
    refine Tot.call (P := fun (n : Int) => n = x0) ?_ fun n hn => .ok ⟨fun _ => ⟨rfl, by dsimp only; rw [hn]; exact hx0⟩, fun a => absurd hq a⟩
    refine Tot.iter (fun m (s : Int × Int) => ∃ k : Nat, s.2 = k ∧ k + m = l.length ∧ x0 ≤ s.1 ∧ ∀ d ∈ (l.take k).map dl, num * l.length ≤ cnt (l.map dl) d * den → s.1 ≤ d) (n := l.length) ⟨0, rfl, by omega, by have := hbd x0 hx0.1; dsimp only; omega, by simp⟩ ?_
    rintro m ⟨n, k⟩ ⟨k, rfl, k1, k2, k3⟩
    dsimp only at k2 k3
    unfold s_DelayQuantile_L2
    dsimp only
    refine .iteP (fun hc => ?_) (fun hc => .dn ?_)
    · obtain ⟨x, hx⟩ := get_ex (l := l) (i := k) (by omega)
      have ex : idx l (k : Int) = some x := by rw [idx_nat]; exact hx
      have hgx := hg.2 x (List.mem_of_getElem? hx)
      unfold GoodV at hgx
      have e1 : w64 (x.Actual - x.Planned) = dl x := by unfold dl; rw [w64_id (by omega)]
      have hdx : dl x ∈ l.map dl := List.mem_map.2 ⟨x, List.mem_of_getElem? hx, rfl⟩
      refine Tot.call (P := fun (n1 : Int) => x0 ≤ n1 ∧ n1 ≤ n ∧ (num * l.length ≤ cnt (l.map dl) (dl x) * den → n1 ≤ dl x)) ?_ fun n1 ⟨a1, a2, a3⟩ => ?_
      · refine .eq ex (.eq ex (Tot.call (P := fun (c : Int) => c = cnt (l.map dl) (dl x)) ?_ fun c hc' => ?_))
        · have hcl : ∀ i, cnt ((l.take i).map dl) (dl x) ≤ i := fun i => by
            have := List.countP_le_length (p := fun y => decide (y ≤ dl x)) (l := (l.take i).map dl)
            rw [List.length_map, List.length_take] at this
            unfold cnt; omega
          refine Tot.iter (fun m (s : Int × Int) => ∃ i : Nat, s.2 = i ∧ i + m = l.length ∧ s.1 = cnt ((l.take i).map dl) (dl x)) (n := l.length) ⟨0, rfl, by omega, by simp [cnt]⟩ ?_
          rintro m ⟨c, i⟩ ⟨i, rfl, i1, i2⟩
          dsimp only at i2
          unfold s_DelayQuantile_L1
          dsimp only
          refine .iteP (fun hi => ?_) (fun hi => .dn ?_)
          · obtain ⟨y, hy⟩ := get_ex (l := l) (i := i) (by omega)
            have ey : idx l (i : Int) = some y := by rw [idx_nat]; exact hy
            have hgy := hg.2 y (List.mem_of_getElem? hy)
            unfold GoodV at hgy
            have e2 : w64 (y.Actual - y.Planned) = dl y := by unfold dl; rw [w64_id (by omega)]
            have hci := hcl i
            rw [w64_id (x := (i : Int) + 1) (by omega)]
            refine Tot.call (P := fun (c' : Int) => c' = cnt ((l.take (i + 1)).map dl) (dl x)) (.eq ey (.eq ey ?_)) fun c' hc' => .nx ⟨m - 1, by omega, i + 1, by dsimp only; omega, by omega, hc'⟩
            rw [e1, e2]
            have step : cnt ((l.take (i + 1)).map dl) (dl x) = cnt ((l.take i).map dl) (dl x) + if dl y ≤ dl x then 1 else 0 := by
              unfold cnt
              rw [take_succ hy, List.map_append, List.countP_append]
              simp [List.countP_cons]
            refine .iteP (fun h => .ok ?_) (fun h => .ok ?_)
            · rw [w64_id (by omega), step, if_pos h]; omega
            · rw [step, if_neg h]; omega
          · have : i = l.length := by omega
            subst this
            rw [List.take_length] at i2
            exact i2
        · subst hc'
          have hcb : ((cnt (l.map dl) (dl x) : Nat) : Int) ≤ 31 := by
            have := List.countP_le_length (p := fun y => decide (y ≤ dl x)) (l := l.map dl)
            rw [List.length_map] at this
            unfold cnt; omega
          have hb1 := prod_bd (n := den) (c := cnt (l.map dl) (dl x)) (by omega) (by omega)
          rw [w64_id (x := num * (l.length : Int)) (by omega), w64_id (x := ((cnt (l.map dl) (dl x) : Nat) : Int) * den) (by omega), e1]
          refine .iteP (fun h => ?_) (fun h => .ok ⟨k2, Int.le_refl _, fun a => absurd a h⟩)
          have hxx := hx0.2.2 (dl x) hdx (by rw [List.length_map]; exact h)
          unfold s_l1Least
          exact .bind (.iteP (fun h1 => .ok (.ok ⟨k2, Int.le_refl _, fun _ => by omega⟩)) (fun h1 => .ok (.ok ⟨hxx, by omega, fun _ => Int.le_refl _⟩)))
      · rw [w64_id (by omega)]
        refine .nx ⟨m - 1, by omega, k + 1, by dsimp only; omega, by omega, a1, fun d hd hq' => ?_⟩
        rw [take_succ hx, List.map_append] at hd
        rcases List.mem_append.1 hd with hd | hd
        · have := k3 d hd hq'; dsimp only; omega
        · have : d = dl x := by simpa using hd
          subst this; exact a3 hq'
    · have : k = l.length := by omega
      subst this
      rw [List.take_length] at k3
      have := k3 x0 hx0.1 (by have := hx0.2.1; rw [List.length_map] at this; exact this)
      omega
/-! The best buffer. -/
def pn (early late : Int) (v : Visit) : Bool := decide (-early ≤ dl v ∧ dl v ≤ late)
def np (early late : Int) (l : List Visit) : Nat := l.countP (pn early late)
def LimP (early late : Int) : Prop := (0 ≤ early ∧ early ≤ 600) ∧ (0 ≤ late ∧ late ≤ 600)
theorem np_take {early late : Int} {l : List Visit} {i : Nat} {x : Visit} (hx : l[i]? = some x) : np early late (l.take (i + 1)) = np early late (l.take i) + if pn early late x = true then 1 else 0 := by
  unfold np
  rw [take_succ hx, List.countP_append]
  simp [List.countP_cons]
theorem np_le {early late : Int} {l : List Visit} : np early late l ≤ l.length := List.countP_le_length
theorem np_le' {early late : Int} {l : List Visit} {i : Nat} : np early late (l.take i) ≤ i := by
  have := np_le (early := early) (late := late) (l := l.take i)
  rw [List.length_take] at this; omega
theorem ipun_eq {v : Visit} {early late : Int} (hb : BdV v) (hp : LimP early late) : i_isPunctual v early late = some (pn early late v) := by
  unfold BdV at hb; unfold LimP at hp
  unfold i_isPunctual
  rw [within_eq, w64_id (x := v.Actual - v.Planned) (by omega), w64_id (x := 0 - early) (by omega)]
  simp only [Option.bind_some, pn, dl]
  rw [show 0 - early = -early by omega]
  exact congrArg some (decide_eq_decide.2 Iff.rfl)
theorem spun_eq {v : Visit} {early late : Int} (hb : BdV v) (hp : LimP early late) : s_l22Punctual v early late = some (pn early late v) := by
  unfold BdV at hb; unfold LimP at hp
  unfold s_l22Punctual
  rw [l1In_eq, w64_id (x := v.Actual - v.Planned) (by omega), w64_id (x := 0 - early) (by omega)]
  simp only [Option.bind_some, pn, dl]
  rw [show 0 - early = -early by omega]
  exact congrArg some (decide_eq_decide.2 Iff.rfl)
theorem share_eq {l : List Visit} {early late : Int} (hb : BdVL l) (hp : LimP early late) : i_shareOf__i_one l early late = some ((np early late l : Int), (l.length : Int)) := by
  have hl := hb.1
  unfold i_shareOf__i_one i_shareOf
  refine Tot.val (.call (P := fun (r : Int × Int) => r = ((np early late l : Int), (l.length : Int))) ?_ fun r hr => .ok (by subst hr; rfl))
  refine Tot.iter (fun m (s : Int × Int × Int) => ∃ i : Nat, s.2.2 = i ∧ i + m = l.length ∧ s.1 = np early late (l.take i) ∧ s.2.1 = i) (n := l.length) ⟨0, rfl, by omega, by simp [np], rfl⟩ ?_
  rintro m ⟨a, b, c⟩ ⟨i, rfl, h1, h2, h3⟩
  dsimp only at h2 h3
  unfold i_shareOf_L1
  dsimp only
  refine .iteP (fun hc => .idx (by omega) hc fun x hx => ?_) (fun hc => .dn ?_)
  · rw [Int.toNat_natCast] at hx
    have hn := np_le' (early := early) (late := late) (l := l) (i := i)
    have st := np_take (early := early) (late := late) hx
    refine Tot.call (P := fun (a' : Int) => a' = np early late (l.take (i + 1))) (.eq (ipun_eq (hb.2 x (List.mem_of_getElem? hx)) hp) (.ite (fun h => .eq rfl (.ok ?_)) (fun h => .ok ?_))) fun a' ha => .eq rfl ?_
    · rw [w64_id (by omega), st, if_pos h]; omega
    · rw [st, if_neg (by rw [h]; simp)]; omega
    · rw [w64_id (by omega), w64_id (by omega)]
      exact .nx ⟨m - 1, by omega, i + 1, by dsimp only; omega, by omega, ha, by dsimp only; omega⟩
  · have : i = l.length := by omega
    subst this
    rw [List.take_length] at h2
    rw [h2, h3]
theorem count_eq {l : List Visit} {early late : Int} (hb : BdVL l) (hp : LimP early late) : s_l22Count l early late = some (np early late l : Int) := by
  have hl := hb.1
  unfold s_l22Count
  refine Tot.val (.call (P := fun (r : Int) => r = (np early late l : Int)) ?_ fun r hr => .ok hr)
  refine Tot.iter (fun m (s : Int × Int) => ∃ i : Nat, s.2 = i ∧ i + m = l.length ∧ s.1 = np early late (l.take i)) (n := l.length) ⟨0, rfl, by omega, by simp [np]⟩ ?_
  rintro m ⟨a, c⟩ ⟨i, rfl, h1, h2⟩
  dsimp only at h2
  unfold s_l22Count_L1
  dsimp only
  refine .iteP (fun hc => ?_) (fun hc => .dn ?_)
  · obtain ⟨x, hx⟩ := get_ex (l := l) (i := i) (by omega)
    have hn := np_le' (early := early) (late := late) (l := l) (i := i)
    have st := np_take (early := early) (late := late) hx
    refine Tot.call (P := fun (a' : Int) => a' = np early late (l.take (i + 1))) (.eq (by rw [idx_nat]; exact hx) (.eq (spun_eq (hb.2 x (List.mem_of_getElem? hx)) hp) (.ite (fun h => .ok ?_) (fun h => .ok ?_)))) fun a' ha => ?_
    · rw [w64_id (by omega), st, if_pos h]; omega
    · rw [st, if_neg (by rw [h]; simp)]; omega
    · rw [w64_id (by omega)]
      exact .nx ⟨m - 1, by omega, i + 1, by dsimp only; omega, by omega, ha⟩
  · have : i = l.length := by omega
    subst this
    rw [List.take_length] at h2
    exact h2
noncomputable def bst (l : List Visit) (early late : Int) (s : Int × Int) (v : Nat) : Int × Int := if GoodVL (l.map (sh v)) ∧ s.2 < np early late (l.map (sh v)) then ((v : Int), (np early late (l.map (sh v)) : Int)) else s
noncomputable def best (l : List Visit) (early late : Int) (n : Nat) : Int × Int := (List.range n).foldl (bst l early late) (0, -1)
theorem best_succ (l : List Visit) (early late : Int) (n : Nat) : best l early late (n + 1) = bst l early late (best l early late n) n := by
  unfold best
  rw [List.range_succ, List.foldl_append]; rfl
theorem sh_zero (l : List Visit) : l.map (sh 0) = l := by
  have : sh 0 = id := by funext v; simp [sh]
  rw [this, List.map_id]
theorem best_bd (l : List Visit) (early late : Int) (n : Nat) : -1 ≤ (best l early late n).2 ∧ (best l early late n).2 ≤ l.length ∧ (GoodVL l → 1 ≤ n → (np early late l : Int) ≤ (best l early late n).2) := by
  induction n with
  | zero => exact ⟨by simp [best], by show (-1 : Int) ≤ _; omega, fun _ h => by omega⟩
  | succ n ih =>
    rw [best_succ]
    unfold bst
    have hl := np_le (early := early) (late := late) (l := l.map (sh n))
    rw [List.length_map] at hl
    by_cases hn : n = 0
    · subst hn
      have e : l.map (sh ((0 : Nat) : Int)) = l := sh_zero l
      rw [e] at hl ⊢
      split
      · exact ⟨by dsimp only; omega, by dsimp only; omega, fun _ _ => Int.le_refl _⟩
      · rename_i h
        refine ⟨ih.1, ih.2.1, fun hg _ => ?_⟩
        have : ¬ (best l early late 0).2 < np early late l := fun a => h ⟨hg, a⟩
        omega
    · split
      · rename_i h
        exact ⟨by dsimp only; omega, by dsimp only; omega, fun hg _ => by have := ih.2.2 hg (by omega); have := h.2; dsimp only; omega⟩
      · exact ⟨ih.1, ih.2.1, fun hg _ => ih.2.2 hg (by omega)⟩
def BufP (l : List Visit) (early late limit : Int) : Prop := GoodVL l ∧ LimP early late ∧ 0 ≤ limit ∧ limit ≤ 60
noncomputable instance (l : List Visit) (early late limit : Int) : Decidable (BufP l early late limit) := Classical.propDecidable _
theorem iareV_eq {l : List Visit} (hb : BdVL l) (early late : Int) : Tot (i_areVisits l early late) fun b => b = true ↔ (GoodVL l ∧ LimP early late) := by
  unfold i_areVisits LimP
  rw [valid_eq l hb]
  refine .eq rfl (Tot.call (P := fun b => b = true ↔ (GoodVL l ∧ (0 ≤ early ∧ early ≤ 600) ∧ (0 ≤ late ∧ late ≤ 600))) (.iteP (fun h => .eq (within_eq ..) (.iteP (fun h1 => .eq (within_eq ..) (.ok ?_)) (fun h1 => .ok ?_))) (fun h => .ok ?_)) fun b hb => .ok hb)
  · rw [decide_eq_true_eq]; exact ⟨fun a => ⟨h, h1, a⟩, fun a => a.2.2⟩
  · exact ⟨fun a => (by cases a), fun a => absurd a.2.1 h1⟩
  · exact ⟨fun a => (by cases a), fun a => absurd a.1 h⟩
theorem compare_pos (x y : Int) : Tot (cmp_Compare_int x y) fun c => (0 < c ↔ y < x) := by
  unfold cmp_Compare_int cmp_isNaN_int
  refine .eq rfl (.eq rfl ?_)
  have e : ∀ z : Int, (z != z) = false := fun z => by simp
  rw [e x, e y]
  simp only [Bool.false_eq_true, if_false]
  exact .iteP (fun h => .ok (by omega)) (fun h => .iteP (fun h2 => .ok (by omega)) (fun h2 => .ok (by omega)))
theorem iBest_ok {l : List Visit} (hb : BdVL l) (early late limit : Int) : Tot (i_BestBuffer l early late limit) fun r => (BufP l early late limit → r = ((best l early late (limit + 1).toNat).1, (best l early late (limit + 1).toNat).2, true)) ∧ (¬ BufP l early late limit → r = (0, 0, false)) := by
  unfold i_BestBuffer
  refine Tot.call (iareV_eq hb early late) fun b1 hb1 => Tot.call (P := fun b => b = true ↔ ¬ BufP l early late limit) (.ite (fun h => .ok ?_) (fun h => .eq (within_eq ..) (.ok ?_))) fun b hb' => .ite (fun hh => .ok ⟨fun a => absurd a (hb'.1 hh), fun _ => rfl⟩) (fun hh => ?_)
  · simp only [true_iff]
    intro a; rw [hb1.2 ⟨a.1, a.2.1⟩] at h; cases h
  · have h1 := hb1.1 (by simpa using h)
    by_cases hl : 0 ≤ limit ∧ limit ≤ 60
    · rw [decide_eq_true hl]
      exact ⟨fun c => (by cases c), fun a => absurd ⟨h1.1, h1.2, hl⟩ a⟩
    · rw [decide_eq_false hl]
      exact ⟨fun _ a => hl a.2.2, fun _ => rfl⟩
  · have hq : BufP l early late limit := Classical.not_not.1 fun a => by rw [hb'.2 a] at hh; cases hh
    obtain ⟨hg, hp, hl⟩ := id hq
    refine Tot.call (P := fun (r : Int × Int) => r = best l early late (limit + 1).toNat) ?_ fun r hr => .ok ⟨fun _ => by subst hr; rfl, fun a => absurd hq a⟩
    refine Tot.iter (fun m (s : Int × Int × Int) => ∃ i : Nat, s.2.2 = i ∧ i + m = (limit + 1).toNat ∧ (s.1, s.2.1) = best l early late i) (n := (limit + 1).toNat) ⟨0, rfl, by omega, rfl⟩ ?_
    rintro m ⟨a, n, v⟩ ⟨i, rfl, h1, h2⟩
    dsimp only at h2
    unfold i_BestBuffer_L1
    dsimp only
    rw [w64_id (x := limit + 1) (by omega), w64_id (x := (i : Int) + 1) (by omega)]
    refine .iteP (fun hc => ?_) (fun hc => .dn ?_)
    · refine Tot.call (P := fun (r : Int × Int) => r = best l early late (i + 1)) (.eq (ishift_eq hg (by omega)) ?_) fun r hr => .nx ⟨m - 1, by omega, i + 1, by dsimp only; omega, by omega, hr⟩
      rw [best_succ, ← h2]
      unfold bst
      dsimp only
      refine .iteN (fun hs => .ok ?_) (fun hs => .eq (share_eq (sh_bd hg (by omega)) hp) (Tot.call (compare_pos _ _) fun c hc => .iteP (fun h => .ok ?_) (fun h => .ok ?_)))
      · rw [if_neg fun a => hs a.1]
      · rw [if_pos ⟨hs, hc.1 h⟩]
      · rw [if_neg fun a => h (hc.2 a.2)]
    · have : i = (limit + 1).toNat := by omega
      subst this; exact h2
theorem sBest_ok {l : List Visit} (hb : BdVL l) (early late limit : Int) : Tot (s_BestBuffer l early late limit) fun r => (BufP l early late limit → r = ((best l early late (limit + 1).toNat).1, (best l early late (limit + 1).toNat).2, true)) ∧ (¬ BufP l early late limit → r = (0, 0, false)) := by
  have lim : Tot (s_l22Limits early late) fun b => b = true ↔ LimP early late := by
    unfold s_l22Limits LimP
    refine .eq (l1In_eq ..) (Tot.call (P := fun b => b = true ↔ ((0 ≤ early ∧ early ≤ 600) ∧ (0 ≤ late ∧ late ≤ 600))) (.iteP (fun h1 => .eq (l1In_eq ..) (.ok ?_)) (fun h1 => .ok ?_)) fun b hb => .ok hb)
    · rw [decide_eq_true_eq]; exact ⟨fun a => ⟨h1, a⟩, fun a => a.2⟩
    · exact ⟨fun a => (by cases a), fun a => absurd a.1 h1⟩
  unfold s_BestBuffer
  rw [good_eq l hb]
  refine .eq rfl (Tot.call (P := fun b => b = true ↔ ¬ BufP l early late limit) (.iteN (fun h => .ok ?_) (fun h => Tot.call lim fun b1 hb1 => .ite (fun h1 => .ok ?_) (fun h1 => .eq (l1In_eq ..) (.ok ?_)))) fun b hb' => .ite (fun hh => .ok ⟨fun a => absurd a (hb'.1 hh), fun _ => rfl⟩) (fun hh => ?_))
  · simp only [true_iff]; exact fun a => h a.1
  · simp only [true_iff]
    intro a; rw [hb1.2 a.2.1] at h1; cases h1
  · have h2 := hb1.1 (by simpa using h1)
    by_cases hl : 0 ≤ limit ∧ limit ≤ 60
    · rw [decide_eq_true hl]
      exact ⟨fun c => (by cases c), fun a => absurd ⟨h, h2, hl⟩ a⟩
    · rw [decide_eq_false hl]
      exact ⟨fun _ a => hl a.2.2, fun _ => rfl⟩
  · have hq : BufP l early late limit := Classical.not_not.1 fun a => by rw [hb'.2 a] at hh; cases hh
    obtain ⟨hg, hp, hl⟩ := id hq
    refine Tot.call (P := fun (r : Int × Int) => r = best l early late (limit + 1).toNat) ?_ fun r hr => .ok ⟨fun _ => by subst hr; rfl, fun a => absurd hq a⟩
    refine Tot.iter (fun m (s : Int × Int × Int) => ∃ i : Nat, s.2.2 = i ∧ i + m = (limit + 1).toNat ∧ (s.1, s.2.1) = best l early late i) (n := (limit + 1).toNat) ⟨0, rfl, by omega, rfl⟩ ?_
    rintro m ⟨a, n, v⟩ ⟨i, rfl, h1, h2⟩
    dsimp only at h2
    unfold s_BestBuffer_L1
    dsimp only
    rw [w64_id (x := (i : Int) + 1) (by omega)]
    refine .iteP (fun hc => ?_) (fun hc => .dn ?_)
    · refine Tot.call (P := fun (r : Int × Int) => r = best l early late (i + 1)) (.eq (sshift_eq hg (by omega)) (.eq (count_eq (sh_bd hg (by omega)) hp) (.eq (good_eq _ (sh_bd hg (by omega))) ?_))) fun r hr => .nx ⟨m - 1, by omega, i + 1, by dsimp only; omega, by omega, hr⟩
      rw [best_succ, ← h2]
      unfold bst
      dsimp only
      refine Tot.call (P := fun b => b = true ↔ (GoodVL (l.map (sh i)) ∧ n < np early late (l.map (sh i)))) (.iteP (fun hs => .ok ?_) (fun hs => .ok ?_)) fun b hb2 => .ite (fun h => .ok ?_) (fun h => .ok ?_)
      · rw [decide_eq_true_eq]; exact ⟨fun a => ⟨hs, a⟩, fun a => a.2⟩
      · exact ⟨fun a => (by cases a), fun a => absurd a.1 hs⟩
      · rw [if_pos (hb2.1 h)]
      · rw [if_neg fun a => by rw [hb2.2 a] at h; cases h]
    · have : i = (limit + 1).toNat := by omega
      subst this; exact h2
theorem pshare_ok {l : List Visit} (hb : BdVL l) {early late : Int} (hg : GoodVL l) (hp : LimP early late) (h0 : 0 < l.length) : Tot (i_PunctualShare l early late) fun r => r.2.2 = true ∧ r.1 = (np early late l : Int) / gI (np early late l) l.length ∧ r.2.1 = (l.length : Int) / gI (np early late l) l.length := by
  have hl := hg.1
  unfold i_PunctualShare
  refine Tot.call (iareV_eq hb early late) fun b hb1 => ?_
  have e := hb1.2 ⟨hg, hp⟩
  subst e
  have hne : ((l.length : Int) == 0) = false := beq_eq_false_iff_ne.2 (by omega)
  have hn := np_le (early := early) (late := late) (l := l)
  simp only [Bool.not_true, Bool.false_eq_true, if_false, Option.bind_some, hne, share_eq hb hp, fraction_eq (np early late l : Int) (l.length : Int) (by omega) (by omega) (by omega)]
  exact .ok ⟨rfl, rfl, rfl⟩
/-! Excess waiting. -/
theorem visitsAt_eq (l : List Visit) (stop : Int) (hl : l.length ≤ 1000) : i_visitsAt l stop = some (l.filter fun v => v.Stop == stop) := by
  unfold i_visitsAt
  refine Tot.val (.call (P := fun r => r = l.filter fun v => v.Stop == stop) ?_ fun r hr => .ok hr)
  refine Tot.iter (fun m (s : Int × List Visit) => ∃ i : Nat, s.1 = i ∧ i + m = l.length ∧ s.2 = (l.take i).filter fun v => v.Stop == stop) (n := l.length) ⟨0, rfl, by omega, by simp⟩ ?_
  rintro m ⟨v, o⟩ ⟨i, rfl, h1, h2⟩
  dsimp only at h2
  unfold i_visitsAt_L1
  dsimp only
  refine .iteP (fun hc => ?_) (fun hc => .dn ?_)
  · obtain ⟨x, hx⟩ := get_ex (l := l) (i := i) (by omega)
    have ho : o.length ≤ i := by rw [h2]; have := List.length_filter_le (fun v : Visit => v.Stop == stop) (l.take i); rw [List.length_take] at this; omega
    refine Tot.call (P := fun (o' : List Visit) => o' = (l.take (i + 1)).filter fun v => v.Stop == stop) (.eq (by rw [idx_nat]; exact hx) (.ite (fun h => .chk (by simp; omega) (.ok ?_)) (fun h => .ok ?_))) fun o' ho' => ?_
    · rw [take_succ hx, List.filter_append, h2]; simp [h]
    · rw [take_succ hx, List.filter_append, h2]; simp [h]
    · rw [w64_id (by omega)]
      exact .nx ⟨m - 1, by omega, i + 1, by dsimp only; omega, by omega, ho'⟩
  · have : i = l.length := by omega
    subst this
    rw [List.take_length] at h2
    exact h2
theorem l22At_eq (l : List Visit) (stop : Int) (hl : l.length ≤ 1000) : s_l22At l stop = some (l.filter fun v => v.Stop == stop) := by
  unfold s_l22At
  refine Tot.val (.call (P := fun r => r = l.filter fun v => v.Stop == stop) ?_ fun r hr => .ok hr)
  refine Tot.iter (fun m (s : Int × List Visit) => ∃ i : Nat, s.1 = i ∧ i + m = l.length ∧ s.2 = (l.take i).filter fun v => v.Stop == stop) (n := l.length) ⟨0, rfl, by omega, by simp⟩ ?_
  rintro m ⟨v, o⟩ ⟨i, rfl, h1, h2⟩
  dsimp only at h2
  unfold s_l22At_L1
  dsimp only
  refine .iteP (fun hc => ?_) (fun hc => .dn ?_)
  · obtain ⟨x, hx⟩ := get_ex (l := l) (i := i) (by omega)
    have ho : o.length ≤ i := by rw [h2]; have := List.length_filter_le (fun v : Visit => v.Stop == stop) (l.take i); rw [List.length_take] at this; omega
    have ex : idx l (i : Int) = some x := by rw [idx_nat]; exact hx
    refine Tot.call (P := fun (o' : List Visit) => o' = (l.take (i + 1)).filter fun v => v.Stop == stop) (.eq ex (.ite (fun h => .eq ex (.chk (by simp; omega) (.ok ?_))) (fun h => .ok ?_))) fun o' ho' => ?_
    · rw [take_succ hx, List.filter_append, h2]; simp [h]
    · rw [take_succ hx, List.filter_append, h2]; simp [h]
    · rw [w64_id (by omega)]
      exact .nx ⟨m - 1, by omega, i + 1, by dsimp only; omega, by omega, ho'⟩
  · have : i = l.length := by omega
    subst this
    rw [List.take_length] at h2
    exact h2
theorem isplit_eq (l : List Visit) (hl : l.length ≤ 1000) : iter (i_ExcessWait_L1 l) (0, [], []) = some (l.map (·.Planned), l.map (·.Actual)) := by
  refine Tot.val ((Tot.iter (fun m (s : Int × List Int × List Int) => ∃ i : Nat, s.1 = i ∧ i + m = l.length ∧ s.2.1 = (l.take i).map (·.Planned) ∧ s.2.2 = (l.take i).map (·.Actual)) (n := l.length) ⟨0, rfl, by omega, by simp, by simp⟩ ?_).mono fun _ h => h)
  rintro m ⟨v, o, p⟩ ⟨i, rfl, h1, h2, h3⟩
  dsimp only at h2 h3
  unfold i_ExcessWait_L1
  dsimp only
  refine .iteP (fun hc => ?_) (fun hc => .dn ?_)
  · obtain ⟨x, hx⟩ := get_ex (l := l) (i := i) (by omega)
    have ex : idx l (i : Int) = some x := by rw [idx_nat]; exact hx
    have o1 : o.length ≤ i := by rw [h2, List.length_map, List.length_take]; omega
    have o2 : p.length ≤ i := by rw [h3, List.length_map, List.length_take]; omega
    rw [w64_id (by omega)]
    exact .eq ex (.chk (by simp; omega) (.chk (by simp; omega) (.nx ⟨m - 1, by omega, i + 1, by dsimp only; omega, by omega, by dsimp only; rw [take_succ hx, List.map_append, h2]; rfl, by dsimp only; rw [take_succ hx, List.map_append, h3]; rfl⟩)))
  · have : i = l.length := by omega
    subst this
    rw [List.take_length] at h2 h3
    rw [h2, h3]
theorem ssplit_eq (l : List Visit) (hl : l.length ≤ 1000) : iter (s_ExcessWait_L1 l) (0, [], []) = some (l.map (·.Planned), l.map (·.Actual)) := by
  have e : s_ExcessWait_L1 l = i_ExcessWait_L1 l := by
    funext ⟨a, b, c⟩
    unfold s_ExcessWait_L1 i_ExcessWait_L1
    dsimp only
    cases h : idx l a <;> simp
  rw [e, isplit_eq l hl]
theorem ins_ok (ts : List Int) (hl : ts.length ≤ 1000) : Tot (iter (s_l22Wait_L2 ts) (0, [])) fun r => r.Perm ts ∧ r.Pairwise (· ≤ ·) := by
  refine Tot.iter (fun m (s : Int × List Int) => ∃ i : Nat, s.1 = i ∧ i + m = ts.length ∧ s.2.Perm (ts.take i) ∧ s.2.Pairwise (· ≤ ·)) (n := ts.length) ⟨0, rfl, by omega, by simp, by simp⟩ ?_
  rintro m ⟨v, o⟩ ⟨i, rfl, h1, h2, h3⟩
  dsimp only at h2 h3
  have hol := h2.length_eq
  rw [List.length_take] at hol
  unfold s_l22Wait_L2
  dsimp only
  refine .iteP (fun hc => ?_) (fun hc => .dn ?_)
  · obtain ⟨x, hx⟩ := get_ex (l := ts) (i := i) (by omega)
    have ex : idx ts (i : Int) = some x := by rw [idx_nat]; exact hx
    refine Tot.call (P := fun (s : Int) => ∃ k : Nat, s = k ∧ k ≤ o.length ∧ (∀ y ∈ o.take k, y ≤ x) ∧ ∀ y ∈ o.drop k, x ≤ y) ?_ fun s ⟨k, hk, hko, k1, k2⟩ => ?_
    · refine Tot.iter (fun m (s : Int) => s = m ∧ m ≤ o.length ∧ ∀ y ∈ o.drop m, x ≤ y) (n := o.length) ⟨rfl, Nat.le_refl _, by simp⟩ ?_
      rintro q s ⟨rfl, q1, q2⟩
      unfold s_l22Wait_L1
      refine Tot.call (P := fun b => (b = true → 0 < q ∧ ∃ y, o[q - 1]? = some y ∧ x < y) ∧ (b = false → q = 0 ∨ ∃ y, o[q - 1]? = some y ∧ y ≤ x)) (.iteP (fun h0 => ?_) (fun h0 => .ok ⟨fun h => (by cases h), fun _ => .inl (by omega)⟩)) fun b hb => .ite (fun h => ?_) (fun h => .dn ⟨q, rfl, q1, fun y hy => ?_, q2⟩)
      · rw [w64_id (by omega)]
        refine .idx (by omega) (by omega) fun y hy => .eq ex (.ok ?_)
        rw [show ((q : Int) - 1).toNat = q - 1 by omega] at hy
        exact ⟨fun h => ⟨by omega, y, hy, of_decide_eq_true h⟩, fun h => .inr ⟨y, hy, by have := of_decide_eq_false h; omega⟩⟩
      · obtain ⟨h0, y, hy, hxy⟩ := hb.1 h
        rw [w64_id (by omega)]
        refine .nx ⟨q - 1, by omega, by omega, by omega, fun z hz => ?_⟩
        have ed : o.drop (q - 1) = y :: o.drop q := by
          have hlt := get_lt hy
          rw [List.drop_eq_getElem_cons hlt, (List.getElem?_eq_some_iff.1 hy).2, show q - 1 + 1 = q by omega]
        rw [ed] at hz
        rcases List.mem_cons.1 hz with rfl | hz
        · omega
        · exact q2 z hz
      · rcases hb.2 h with h0 | ⟨z, hz, hzx⟩
        · subst h0; simp at hy
        · obtain ⟨j, hj⟩ := List.getElem?_of_mem hy
          have hjl := get_lt hj
          rw [List.length_take] at hjl
          rw [List.getElem?_take_of_lt (by omega)] at hj
          by_cases e : j = q - 1
          · subst e; rw [hz] at hj; cases hj; exact hzx
          · have a := (List.getElem?_eq_some_iff.1 hj); have b := (List.getElem?_eq_some_iff.1 hz)
            have := List.pairwise_iff_getElem.1 h3 j (q - 1) (get_lt hj) (get_lt hz) (by omega)
            rw [a.2, b.2] at this; omega
    · subst hk
      rw [w64_id (by omega)]
      have t1 : (o.take k).length = k := by rw [List.length_take]; omega
      have t2 : (o.drop k).length = o.length - k := by rw [List.length_drop]
      simp only [Int.toNat_natCast, Int.toNat_zero, List.drop_zero, List.nil_append]
      refine .chk (by omega) (.chk (by simp; omega) (.eq ex (.chk (by simp; omega) (.chk (by omega) (.chk (by simp; omega) (.nx ⟨m - 1, by omega, i + 1, by dsimp only; omega, by omega, ?_, ?_⟩))))))
      · dsimp only
        rw [take_succ hx, List.append_assoc]
        refine (List.perm_middle (a := x) (l₁ := o.take k) (l₂ := o.drop k)).trans ?_
        rw [List.take_append_drop]
        exact (List.perm_append_comm (l₁ := [x])).trans (h2.append_right [x])
      · dsimp only
        rw [List.append_assoc, List.pairwise_append]
        have hsp : (o.take k ++ o.drop k).Pairwise (· ≤ ·) := by rw [List.take_append_drop]; exact h3
        rw [List.pairwise_append] at hsp
        refine ⟨hsp.1, ?_, fun a ha b hb => ?_⟩
        · rw [List.singleton_append, List.pairwise_cons]
          exact ⟨k2, hsp.2.1⟩
        · rw [List.singleton_append] at hb
          rcases List.mem_cons.1 hb with rfl | hb
          · exact k1 a ha
          · exact hsp.2.2 a ha b hb
  · have : i = ts.length := by omega
    subst this
    rw [List.take_length] at h2
    exact ⟨h2, h3⟩
theorem gap_eq (r : List Int) : s_l22Wait_L3 r = i_waitOf_w_L1 r := by
  funext ⟨a, b⟩
  unfold s_l22Wait_L3 i_waitOf_w_L1
  dsimp only
  cases h : idx r b <;> cases h2 : idx r (w64 (b - 1)) <;> simp
theorem sq_bd {a : Int} (h : -3000 ≤ a ∧ a ≤ 3000) : 0 ≤ a * a ∧ a * a ≤ 9000000 := by
  have h1 : a * a = (a.natAbs : Int) * (a.natAbs : Int) := by
    rcases Int.natAbs_eq a with e | e
    · rw [← e]
    · have e2 : (a.natAbs : Int) = -a := by omega
      rw [e2]; exact (Int.neg_mul_neg a a).symm
  have h2 : (a.natAbs : Int) * (a.natAbs : Int) ≤ 3000 * 3000 := Int.mul_le_mul (by omega) (by omega) (by omega) (by omega)
  have h3 : 0 ≤ (a.natAbs : Int) * (a.natAbs : Int) := Int.mul_nonneg (by omega) (by omega)
  omega
theorem wait_ok (ts : List Int) (hl : ts.length ≤ 30) (h0 : 2 ≤ ts.length) (hb : ∀ t ∈ ts, -60 ≤ t ∧ t ≤ 2400) : Tot (i_waitOf_w ts) fun r => ∃ D, r.2.1 = 2 * D ∧ s_l22Wait ts = some (r.1, D) ∧ (0 ≤ r.1 ∧ r.1 ≤ 400000000) ∧ (0 ≤ D ∧ D ≤ 3000) := by
  unfold i_waitOf_w
  refine Tot.call (sort_int ts (by omega)) fun r ⟨hp, hs⟩ => ?_
  have hrl := hp.length_eq
  have hrb : ∀ t ∈ r, -60 ≤ t ∧ t ≤ 2400 := fun t ht => hb t (hp.mem_iff.1 ht)
  have hins : iter (s_l22Wait_L2 ts) (0, []) = some r := by
    obtain ⟨r', e, p', s'⟩ := ins_ok ts (by omega)
    rw [e, List.Perm.eq_of_pairwise (fun a b _ _ h1 h2 => by omega) s' hs (p'.trans hp.symm)]
  have hgap : Tot (iter (i_waitOf_w_L1 r) (0, 1)) fun s => 0 ≤ s ∧ s ≤ 400000000 := by
    refine Tot.iter (fun m (s : Int × Int) => 1 ≤ s.2 ∧ s.2 + m = r.length ∧ 0 ≤ s.1 ∧ s.1 ≤ s.2 * 9000000) (n := r.length - 1) ⟨by dsimp only; omega, by dsimp only; omega, by simp, by simp⟩ ?_
    rintro m ⟨a, v⟩ ⟨h1, h2, h3, h4⟩
    dsimp only at h1 h2 h3 h4
    unfold i_waitOf_w_L1
    dsimp only
    refine .iteP (fun hc => ?_) (fun hc => .dn ⟨h3, by omega⟩)
    rw [w64_id (x := v - 1) (by omega), w64_id (x := v + 1) (by omega)]
    refine .idx (by omega) (by omega) fun x hx => .idx (by omega) (by omega) fun y hy => .idx (by omega) (by omega) fun x' hx' => .idx (by omega) (by omega) fun y' hy' => ?_
    rw [hx] at hx'; rw [hy] at hy'
    cases hx'; cases hy'
    have bx := hrb x (List.mem_of_getElem? hx)
    have by' := hrb y (List.mem_of_getElem? hy)
    have sb := sq_bd (a := x - y) (by omega)
    rw [w64_id (x := x - y) (by omega), w64_id (x := (x - y) * (x - y)) (by omega), w64_id (by omega)]
    exact .nx ⟨m - 1, by omega, by dsimp only; omega, by dsimp only; omega, by dsimp only; omega, by dsimp only; omega⟩
  obtain ⟨S, eS, hS⟩ := hgap
  refine .eq eS ?_
  rw [w64_id (x := (r.length : Int) - 1) (by omega)]
  refine .idx (by omega) (by omega) fun x hx => .idx (by omega) (by omega) fun y hy => ?_
  have bx := hrb x (List.mem_of_getElem? hx)
  have by' := hrb y (List.mem_of_getElem? hy)
  have hxy : y ≤ x := by
    have a := (List.getElem?_eq_some_iff.1 hx); have b := (List.getElem?_eq_some_iff.1 hy)
    have := List.pairwise_iff_getElem.1 hs (Int.toNat 0) ((r.length : Int) - 1).toNat (get_lt hy) (get_lt hx) (by simp; omega)
    rw [a.2, b.2] at this; exact this
  rw [w64_id (x := x - y) (by omega), w64_id (by omega)]
  refine .ok ⟨x - y, rfl, ?_, hS, by omega⟩
  unfold s_l22Wait
  rw [hins]
  simp only [Option.bind_some, gap_eq, eS]
  rw [w64_id (x := (r.length : Int) - 1) (by omega), idx_of (by omega) hx]
  simp only [Option.bind_some]
  rw [idx_of (by omega) hy]
  simp only [Option.bind_some]
  rw [w64_id (by omega)]
def ExP (l : List Visit) (stop : Int) : Prop := GoodVL l ∧ 0 ≤ stop ∧ stop ≤ 7
noncomputable instance (l : List Visit) (stop : Int) : Decidable (ExP l stop) := Classical.propDecidable _
theorem gI_two (a b : Int) : gI (2 * a) (2 * b) = 2 * gI a b := by
  unfold gI
  rw [Int.gcd_mul_left]
  simp
theorem mul_bd {a b M N : Int} (ha : 0 ≤ a ∧ a ≤ M) (hb : 0 ≤ b ∧ b ≤ N) : 0 ≤ a * b ∧ a * b ≤ M * N := ⟨Int.mul_nonneg ha.1 hb.1, Int.mul_le_mul ha.2 hb.2 hb.1 (by omega)⟩
theorem excess_eq {l : List Visit} (hb : BdVL l) (stop : Int) : ∃ r, i_ExcessWait l stop = some r ∧ s_ExcessWait l stop = some r := by
  by_cases hq : GoodVL l ∧ 0 ≤ stop ∧ stop ≤ 7
  · obtain ⟨hg, hst⟩ := hq
    have hl := hg.1
    unfold i_ExcessWait s_ExcessWait
    rw [valid_eq l hb, good_eq l hb, decide_eq_true hg]
    simp only [Option.bind_some, Bool.not_true, Bool.false_eq_true, if_false, within_eq, l1In_eq, decide_eq_true hst, visitsAt_eq l stop (by omega), l22At_eq l stop (by omega)]
    have hfl := List.length_filter_le (fun v : Visit => v.Stop == stop) l
    have hfg : ∀ v ∈ l.filter (fun v => v.Stop == stop), GoodV v := fun v hv => hg.2 v (List.mem_filter.1 hv).1
    revert hfl hfg
    generalize l.filter (fun v => v.Stop == stop) = q
    intro hfl hfg
    rw [ssplit_eq q (by omega), isplit_eq q (by omega)]
    simp only [Option.bind_some]
    by_cases h2 : (q.length : Int) < 2
    · rw [if_pos (by simpa using h2), if_pos (by simpa using h2)]
      exact ⟨_, rfl, rfl⟩
    · rw [if_neg (by simpa using h2), if_neg (by simpa using h2)]
      obtain ⟨ra, ea, Da, a1, a2, a3, a4⟩ := wait_ok (q.map (·.Actual)) (by rw [List.length_map]; omega) (by rw [List.length_map]; omega) (fun t ht => by
        obtain ⟨v, hv, rfl⟩ := List.mem_map.1 ht
        have := hfg v hv
        unfold GoodV at this
        omega)
      obtain ⟨rp, ep, Dp, p1, p2, p3, p4⟩ := wait_ok (q.map (·.Planned)) (by rw [List.length_map]; omega) (by rw [List.length_map]; omega) (fun t ht => by
        obtain ⟨v, hv, rfl⟩ := List.mem_map.1 ht
        have := hfg v hv
        unfold GoodV at this
        omega)
      rw [ea, ep, a2, p2]
      obtain ⟨Sa, xa, ya⟩ := ra
      obtain ⟨Sp, xp, yp⟩ := rp
      dsimp only at a1 a3 p1 p3 ⊢
      subst a1; subst p1
      simp only [Option.bind_some]
      by_cases hz : Da = 0 ∨ Dp = 0
      · refine ⟨(0, 0, false), ?_, ?_⟩
        · rcases hz with rfl | rfl
          · simp
          · by_cases h : 2 * Da = 0 <;> simp [h]
        · rcases hz with rfl | rfl
          · simp
          · by_cases h : Da = 0 <;> simp [h]
      · have za : Da ≠ 0 := fun h => hz (.inl h)
        have zp : Dp ≠ 0 := fun h => hz (.inr h)
        have c1 : (2 * Da == 0) = false := beq_eq_false_iff_ne.2 (by omega)
        have c2 : (2 * Dp == 0) = false := beq_eq_false_iff_ne.2 (by omega)
        have c3 : (Da == 0) = false := beq_eq_false_iff_ne.2 za
        have c4 : (Dp == 0) = false := beq_eq_false_iff_ne.2 zp
        simp only [c1, c2, c3, c4, Bool.false_eq_true, if_false, Option.bind_some]
        have m1 := mul_bd a3 p4
        have m2 := mul_bd p3 a4
        have m3 := mul_bd a4 p4
        have k1 : Sa * (2 * Dp) = 2 * (Sa * Dp) := Int.mul_left_comm ..
        have k2 : Sp * (2 * Da) = 2 * (Sp * Da) := Int.mul_left_comm ..
        have k3 : 2 * Da * (2 * Dp) = 2 * (2 * (Da * Dp)) := by rw [Int.mul_assoc, Int.mul_left_comm Da]
        have k4 : 2 * Da * Dp = 2 * (Da * Dp) := Int.mul_assoc ..
        have m4 : 0 < Da * Dp := Int.mul_pos (by omega) (by omega)
        rw [k1, k2, k3, w64_id (x := 2 * (Sa * Dp)) (by omega), w64_id (x := 2 * (Sp * Da)) (by omega), w64_id (x := 2 * (Sa * Dp) - 2 * (Sp * Da)) (by omega), w64_id (x := 2 * (2 * (Da * Dp))) (by omega), w64_id (x := Sa * Dp) (by omega), w64_id (x := Sp * Da) (by omega), w64_id (x := Sa * Dp - Sp * Da) (by omega), w64_id (x := 2 * Da) (by omega), k4, w64_id (x := 2 * (Da * Dp)) (by omega)]
        rw [fraction_eq (2 * (Sa * Dp) - 2 * (Sp * Da)) (2 * (2 * (Da * Dp))) (by omega) (by omega) (by omega), reduce_eq (Sa * Dp - Sp * Da) (2 * (Da * Dp)) (by omega) (by omega) (by omega)]
        have e1 : 2 * (Sa * Dp) - 2 * (Sp * Da) = 2 * (Sa * Dp - Sp * Da) := by omega
        rw [e1, gI_two, Int.mul_ediv_mul_of_pos _ _ (by omega), Int.mul_ediv_mul_of_pos _ _ (by omega)]
        exact ⟨_, rfl, rfl⟩
  · refine ⟨(0, 0, false), ?_, ?_⟩
    · unfold i_ExcessWait
      rw [valid_eq l hb]
      by_cases hg : GoodVL l
      · have hs : ¬ (0 ≤ stop ∧ stop ≤ 7) := fun a => hq ⟨hg, a⟩
        simp only [Option.bind_some, within_eq, decide_eq_true hg, decide_eq_false hs]; rfl
      · simp only [Option.bind_some, decide_eq_false hg]; rfl
    · unfold s_ExcessWait
      rw [good_eq l hb]
      by_cases hg : GoodVL l
      · have hs : ¬ (0 ≤ stop ∧ stop ≤ 7) := fun a => hq ⟨hg, a⟩
        simp only [Option.bind_some, l1In_eq, decide_eq_true hg, decide_eq_false hs]; rfl
      · simp only [Option.bind_some, decide_eq_false hg]; rfl
/-! The draws of visits, and the law. -/
theorem t_pick {k : Nat} {c : l1Cur} (n : Int) (h : Cur k c) (hk : k ≤ 3000000000) : Tot (s_l1Cur_pick c n) fun r => Cur (k + 2) r.2 ∧ 0 ≤ r.1 ∧ (r.1 < n ∨ r.1 = 0) := pick_ok n h hk
theorem t_one {k : Nat} {c : l1Cur} (n : Int) (h : Cur k c) (hk : k ≤ 3000000000) : Tot (s_l1Cur_one c n) fun r => Cur (k + 2) r.2 := one_ok n h hk
theorem t_among {k : Nat} {c : l1Cur} (l : List Int) (hl : l ≠ []) (h : Cur k c) (hk : k ≤ 3000000000) : Tot (s_l1Cur_among c l) fun r => Cur (k + 2) r.2 ∧ r.1 ∈ l := among_ok l hl h hk
theorem t_amongw {k : Nat} {c : l1Cur} (l : List Int) (hl : l ≠ []) (h : Cur k c) (hk : k ≤ 3000000000) : Tot (s_l1Cur_among_w c l) fun r => Cur (k + 2) r.2 ∧ r.1 ∈ l := amongw_ok l hl h hk
def DrV (v : Visit) : Prop := (0 ≤ v.Planned ∧ v.Planned ≤ 1799) ∧ -200 ≤ v.Actual ∧ v.Actual ≤ 3000
theorem t_visits {k : Nat} {c : l1Cur} (h : Cur k c) (hk : k ≤ 1000) : Tot (s_l1Cur_visits c) fun r => Cur 5000 r.2 ∧ r.1.length ≤ 100 ∧ ∀ v ∈ r.1, DrV v := by
  unfold s_l1Cur_visits
  refine Tot.call (t_amongw _ (by simp) h (by omega)) fun r ⟨hr, hm⟩ => Tot.call (t_pick 9 hr (by omega)) fun r1 ⟨hr1, p0, p1⟩ => ?_
  have hn : 0 ≤ r.1 ∧ r.1 ≤ 1700 := by
    simp only [List.mem_cons, List.not_mem_nil, or_false] at hm; omega
  refine Tot.call (P := fun (x : List UInt8 × Int × Int × List Visit) => Cur 2000 ⟨x.1, x.2.1, ⟨x.2.2.1⟩⟩ ∧ x.2.2.2.length ≤ 10 ∧ ∀ v ∈ x.2.2.2, DrV v) ?_ fun ⟨v3, v4, v5, t1⟩ ⟨h1, h2, h3⟩ => ?_
  · refine Tot.iter (fun m (s : Int × Int × List UInt8 × Int × Int × List Visit) => s.2.1 = m ∧ m + s.2.2.2.2.2.length ≤ 8 ∧ 0 ≤ s.1 ∧ s.1 ≤ 1700 + 15 * s.2.2.2.2.2.length ∧ Cur (1010 + 12 * s.2.2.2.2.2.length) ⟨s.2.2.1, s.2.2.2.1, ⟨s.2.2.2.2.1⟩⟩ ∧ ∀ v ∈ s.2.2.2.2.2, DrV v) (n := r1.1.toNat) ⟨by dsimp only; omega, by simp; omega, by dsimp only; omega, by simp; omega, hr1.mono (by simp; omega), by simp⟩ ?_
    rintro m ⟨n, x, v, v1, v2, t⟩ ⟨g1, g2, g3, g4, g5, g6⟩
    dsimp only at g1 g2 g3 g4 g5 g6
    unfold s_l1Cur_visits_L1
    dsimp only
    refine .iteP (fun hc => ?_) (fun hc => .dn ⟨g5.mono (by omega), by dsimp only; omega, g6⟩)
    refine Tot.call (t_pick 3 g5 (by omega)) fun r2 ⟨hr2, _⟩ => Tot.call (P := fun (z : Int) => 0 ≤ z ∧ z ≤ 1799) ?_ fun r3 hr3 => ?_
    · unfold s_l1Least
      exact .iteP (fun h => .ok (by omega)) (fun h => .ok (by omega))
    refine Tot.call (t_amongw _ (by simp) hr2 (by omega)) fun r4 ⟨hr4, _⟩ => Tot.call (t_amongw _ (by simp) hr4 (by omega)) fun r6 ⟨hr6, hm6⟩ => .chk (by simp; omega) (Tot.call (t_amongw _ (by simp) hr6 (by omega)) fun r7 ⟨hr7, hm7⟩ => ?_)
    simp only [List.mem_cons, List.not_mem_nil, or_false] at hm6 hm7
    rw [w64_id (x := r3 + r6.1) (by omega), w64_id (x := n + r7.1) (by omega), w64_id (x := x - 1) (by omega)]
    refine .nx ⟨m - 1, by omega, by dsimp only; omega, by simp; omega, by dsimp only; omega, by simp; omega, hr7.mono (by simp; omega), fun z hz => ?_⟩
    rcases List.mem_append.1 hz with hz | hz
    · exact g6 z hz
    · have : z = ⟨r2.1, r3, r3 + r6.1, r4.1⟩ := by simpa using hz
      subst this
      unfold DrV
      dsimp only; omega
  · dsimp only at h1 h2 h3 ⊢
    refine .ite (fun _ => .ok ⟨h1.mono (by omega), by dsimp only; omega, h3⟩) (fun hne => ?_)
    have hne : t1.length ≠ 0 := by
      have := beq_eq_false_iff_ne.1 hne; omega
    refine Tot.call (t_pick (t1.length : Int) h1 (by omega)) fun r8 ⟨hr8, q0, q1⟩ => .idx q0 (by omega) fun e he => ?_
    have hde := h3 e (List.mem_of_getElem? he)
    unfold DrV at hde
    refine Tot.call (P := fun (x : List UInt8 × Int × Int × List Visit × Int × Int × Int) => Cur 4000 ⟨x.1, x.2.1, ⟨x.2.2.1⟩⟩ ∧ t1.length ≤ x.2.2.2.1.length ∧ x.2.2.2.1.length ≤ 100 ∧ (∀ v ∈ x.2.2.2.1, DrV v) ∧ -200 ≤ x.2.2.2.2.2.1 ∧ x.2.2.2.2.2.1 ≤ 3000) ?_ fun ⟨v6, v7, v8, t2, v9, v10, v11⟩ ⟨k1, k2, k3, k4, k5⟩ => ?_
    · refine Tot.call (t_pick 40 hr8 (by omega)) fun r9 ⟨hr9, _⟩ => .ite (fun _ => Tot.call (t_amongw _ (by simp) hr9 (by omega)) fun r11 ⟨hr11, hm11⟩ => .ok ?_) (fun _ => .ite (fun _ => Tot.call (t_amongw _ (by simp) hr9 (by omega)) fun r11 ⟨hr11, hm11⟩ => .ok ⟨hr11.mono (by omega), Nat.le_refl _, by dsimp only; omega, h3, by dsimp only; omega, by dsimp only; omega⟩) (fun _ => .ite (fun _ => Tot.call (t_amongw _ (by simp) hr9 (by omega)) fun r11 ⟨hr11, hm11⟩ => .ok ⟨hr11.mono (by omega), Nat.le_refl _, by dsimp only; omega, h3, by dsimp only; omega, by dsimp only; omega⟩) (fun _ => .ite (fun _ => ?_) (fun _ => .ok ⟨hr9.mono (by omega), Nat.le_refl _, by dsimp only; omega, h3, by dsimp only; omega, by dsimp only; omega⟩))))
      · simp only [List.mem_cons, List.not_mem_nil, or_false] at hm11
        rw [w64_id (by omega)]
        exact ⟨hr11.mono (by omega), Nat.le_refl _, by dsimp only; omega, h3, by dsimp only; omega, by dsimp only; omega⟩
      · refine Tot.call (P := fun (x : List UInt8 × Int × Int × List Visit) => Cur 4000 ⟨x.1, x.2.1, ⟨x.2.2.1⟩⟩ ∧ t1.length ≤ x.2.2.2.length ∧ x.2.2.2.length ≤ 100 ∧ ∀ v ∈ x.2.2.2, DrV v) ?_ fun ⟨v15, v16, v17, t4⟩ ⟨k1, k2, k3, k4⟩ => .ok ⟨k1, k2, k3, k4, by dsimp only; omega, by dsimp only; omega⟩
        refine Tot.iter (fun m (s : List UInt8 × Int × Int × List Visit) => m + s.2.2.2.length = 60 ∧ t1.length ≤ s.2.2.2.length ∧ Cur (2100 + 2 * s.2.2.2.length) ⟨s.1, s.2.1, ⟨s.2.2.1⟩⟩ ∧ ∀ v ∈ s.2.2.2, DrV v) (n := 60 - t1.length) ⟨by dsimp only; omega, Nat.le_refl _, hr9.mono (by dsimp only; omega), h3⟩ ?_
        rintro m ⟨v12, v13, v14, t3⟩ ⟨g1, g2, g3, g4⟩
        dsimp only at g1 g2 g3 g4
        unfold s_l1Cur_visits_L2
        dsimp only
        refine Tot.call (t_pick 2 g3 (by omega)) fun r14 ⟨hr14, w0, w1⟩ => ?_
        rw [w64_id (x := 30 + r14.1) (by omega)]
        refine .iteP (fun hc => .chk (by simp; omega) (.nx ⟨m - 1, by omega, by simp; omega, by simp; omega, hr14.mono (by simp; omega), fun z hz => ?_⟩)) (fun hc => .dn ⟨hr14.mono (by omega), g2, by dsimp only; omega, g4⟩)
        rcases List.mem_append.1 hz with hz | hz
        · exact g4 z hz
        · have : z = e := by simpa using hz
          subst this
          exact hde
    · dsimp only at k1 k2 k3 k4 k5 ⊢
      refine .idx q0 (by omega) fun e1 _ => .ok ⟨k1.mono (by omega), by simpa using k3, fun v hv => ?_⟩
      rcases List.mem_or_eq_of_mem_set hv with hv | rfl
      · exact k4 v hv
      · unfold DrV
        dsimp only; omega
theorem drv_bd {l : List Visit} (hl : l.length ≤ 100) (h : ∀ v ∈ l, DrV v) : BdVL l := ⟨by omega, fun v hv => by have := h v hv; unfold DrV at this; unfold BdV; omega⟩
theorem d_shift (code : List UInt8) : Tot (s_DrawShiftVisits code) fun r => BdVL r.1 := by
  unfold s_DrawShiftVisits
  exact Tot.call (t_visits (cur0 code) (by omega)) fun r ⟨hr, h1, h2⟩ => Tot.call (t_among _ (by simp) hr (by omega)) fun r1 _ => .ok (drv_bd h1 h2)
theorem div11 {x : Int} (h0 : 0 ≤ x) (h : x < 24 ∨ x = 0) : 0 ≤ x.tdiv 11 ∧ x.tdiv 11 ≤ 2 := by
  rw [Int.tdiv_eq_ediv_of_nonneg h0]; omega
theorem div23 {x : Int} (h0 : 0 ≤ x) (h : x < 24 ∨ x = 0) : 0 ≤ x.tdiv 23 ∧ x.tdiv 23 ≤ 1 := by
  rw [Int.tdiv_eq_ediv_of_nonneg h0]; omega
theorem cut_ne {l : List Int} {n : Int} (h : 1 ≤ n) (hl : 0 < l.length) : (l.take n.toNat).drop (Int.toNat 0) ≠ [] := by
  intro e
  have := congrArg List.length e
  have z : Int.toNat 0 = 0 := rfl
  rw [List.length_drop, List.length_take, z, Nat.sub_zero] at this
  have : (([] : List Int)).length = 0 := rfl
  omega
theorem t_cut {k : Nat} {c : l1Cur} (b : Int) (l : List Int) (hb : 1 ≤ b ∧ b ≤ 100) (hl : b + 2 ≤ l.length) (hk : k ≤ 100000) (h : Cur k c) {β : Type} {K : Int × l1Cur → Option β} {Q : β → Prop} (hK : ∀ r, Cur (k + 4) r.2 → Tot (K r) Q) :
    Tot ((s_l1Cur_pick c 24).bind fun r2 => (chk ((11 : Int) ≠ 0)).bind fun _ => (chk ((0 : Int) ≤ 0 ∧ 0 ≤ w64 (b + w64 (r2.1.tdiv 11)) ∧ w64 (b + w64 (r2.1.tdiv 11)) ≤ (l.length : Int))).bind fun _ =>
      (s_l1Cur_among r2.2 ((l.take (w64 (b + w64 (r2.1.tdiv 11))).toNat).drop (Int.toNat 0))).bind K) Q := by
  refine Tot.call (t_pick 24 h (by omega)) fun r ⟨hr, p0, p1⟩ => .chk (by decide) ?_
  have hd := div11 p0 p1
  rw [w64_id (x := r.1.tdiv 11) (by omega), w64_id (x := b + r.1.tdiv 11) (by omega)]
  exact .chk ⟨Int.le_refl _, by omega, by omega⟩ (Tot.call (t_among _ (cut_ne (by omega) (by omega)) hr (by omega)) fun r1 ⟨hr1, _⟩ => hK r1 hr1)
theorem d_limits {k : Nat} {c : l1Cur} (h : Cur k c) (hk : k ≤ 10000) : Tot (s_l1Cur_limits22 c) fun r => Cur (k + 20) r.2.2 := by
  unfold s_l1Cur_limits22
  refine Tot.call (t_among _ (by simp) h (by omega)) fun r ⟨hr, _⟩ => ?_
  refine Tot.call (P := fun (x : Int × List UInt8 × Int × Int) => Cur (k + 6) ⟨x.2.1, x.2.2.1, ⟨x.2.2.2⟩⟩) ?_ fun ⟨v, v1, v2, v3⟩ hv => ?_
  · refine Tot.call (P := fun (x : Bool × List UInt8 × Int × Int) => Cur (k + 4) ⟨x.2.1, x.2.2.1, ⟨x.2.2.2⟩⟩) (.iteP (fun _ => Tot.call (t_one 8 hr (by omega)) fun r1 hr1 => .ok hr1) (fun _ => .ok (hr.mono (by omega)))) fun ⟨v4, v5, v6, v7⟩ hv => .ite (fun _ => .ok (hv.mono (by omega))) (fun _ => .ok (hv.mono (by omega)))
  · exact t_cut 5 _ (by omega) (by simp) (by omega) hv fun r hr => .ok (hr.mono (by omega))
theorem d_best (code : List UInt8) : Tot (s_DrawBestBuffer code) fun r => BdVL r.1 := by
  unfold s_DrawBestBuffer
  exact Tot.call (t_visits (cur0 code) (by omega)) fun r ⟨hr, h1, h2⟩ => Tot.call (d_limits hr (by omega)) fun r1 hr1 => t_cut 4 _ (by omega) (by simp) (by omega) hr1 fun r2 _ => .ok (drv_bd h1 h2)
theorem d_quant (code : List UInt8) : Tot (s_DrawDelayQuantile code) fun r => BdVL r.1 := by
  unfold s_DrawDelayQuantile
  refine Tot.call (t_visits (cur0 code) (by omega)) fun r ⟨hr, h1, h2⟩ => t_cut 5 _ (by omega) (by simp) (by omega) hr fun r2 hr2 => .chk (by decide) ?_
  have most : ∀ a b : Int, Tot (s_l1Most a b) fun _ => True := fun a b => by
    unfold s_l1Most
    exact .iteP (fun _ => .ok trivial) (fun _ => .ok trivial)
  refine Tot.call (most _ _) fun r3 _ => .chk (by decide) (Tot.call (most _ _) fun r4 _ => Tot.call (t_pick 24 hr2 (by omega)) fun r5 ⟨hr5, p0, p1⟩ => .chk (by decide) ?_)
  have hd := div23 p0 p1
  rw [w64_id (x := r5.1.tdiv 23) (by omega), w64_id (x := 4 + r5.1.tdiv 23) (by omega)]
  exact .chk ⟨Int.le_refl _, by omega, by simp; omega⟩ (Tot.call (t_among _ (cut_ne (by omega) (by simp)) hr5 (by omega)) fun r6 _ => .ok (drv_bd h1 h2))
theorem d_excess (code : List UInt8) : Tot (s_DrawExcessWait code) fun r => BdVL r.1 := by
  unfold s_DrawExcessWait
  exact Tot.call (t_visits (cur0 code) (by omega)) fun r ⟨hr, h1, h2⟩ => t_cut 5 _ (by omega) (by simp) (by omega) hr fun r2 _ => .ok (drv_bd h1 h2)
theorem rBig_eq (code : List UInt8) : v_rBig code = some (decide (65536 < (code.length : Int))) := rfl
theorem dl_shift (l : List Visit) (m : Int) : (l.map (sh m)).map dl = (l.map dl).map (· - m) := by
  rw [List.map_map, List.map_map]
  congr 1
  funext v
  show v.Actual - (v.Planned + m) = v.Actual - v.Planned - m
  omega
theorem punct_true (code : List UInt8) : v_FnPunctuality code = some true := by
  unfold v_FnPunctuality
  refine Tot.val (.eq (rBig_eq code) (.iteP (fun _ => .ok rfl) (fun _ => ?_)))
  refine Tot.call (d_shift code) fun ⟨l, m⟩ hl => ?_
  dsimp only at hl ⊢
  rw [iShift_eq hl m, sShift_eq hl m]
  simp only [Option.bind_some, beq_self_eq_true, Bool.not_true, Bool.false_eq_true, if_false, bne_self_eq_false]
  refine Tot.flb (Tot.mono (P := fun v => v = .go ()) ?_ fun v hv => ⟨fun r e => (by rw [hv] at e; cases e), fun u _ => ?_⟩)
  · by_cases hq : GoodVL l ∧ (-1799 ≤ m ∧ m ≤ 1799) ∧ GoodVL (l.map (sh m))
    · obtain ⟨hg, hm, hg2⟩ := id hq
      rw [if_pos hq]
      by_cases h0 : 0 < l.length
      · have hb2 := sh_bd hg hm
        obtain ⟨e1, b1⟩ := mean_eq hg hl h0
        obtain ⟨e2, b2⟩ := mean_eq hg2 hb2 (by rw [List.length_map]; exact h0)
        obtain ⟨⟨p, po⟩, eP, P1, _⟩ := iQ_ok hl 1 2
        obtain ⟨⟨q, qo⟩, eQ, Q1, _⟩ := iQ_ok hb2 1 2
        obtain ⟨po1, qp⟩ := P1 ⟨hg, h0, by omega, by omega, by omega⟩
        obtain ⟨qo1, qq⟩ := Q1 ⟨hg2, by rw [List.length_map]; exact h0, by omega, by omega, by omega⟩
        dsimp only at po1 qp qo1 qq
        subst po1; subst qo1
        rw [dl_shift] at qq
        have epq := qq.uniq (qp.shift (m := m))
        have hpb := delays_bd hg p qp.1
        have hl30 := hg.1
        have eL : (l.map (sh m)).length = l.length := List.length_map ..
        rw [eL, mean_shift, gI_shift] at e2
        simp only [Option.bind_some, if_true, e1, e2, eP, eQ]
        have hpos := gI_pos (a := (l.map dl).sum) (b := (l.length : Int)) (by omega)
        have hdv := gI_dvd (a := (l.map dl).sum) (b := (l.length : Int))
        revert hpos hdv
        generalize gI (l.map dl).sum (l.length : Int) = g
        generalize hS : (l.map dl).sum = S at *
        intro hpos hdv
        obtain ⟨⟨a, ha⟩, ⟨b, hb'⟩⟩ := hdv
        have d1 : S / g = a := by rw [ha, Int.mul_ediv_cancel_left a (by omega)]
        have d2 : (l.length : Int) / g = b := by rw [hb', Int.mul_ediv_cancel_left b (by omega)]
        have hml : m * (l.length : Int) = g * (m * b) := by rw [hb', Int.mul_left_comm]
        have d3 : (S - m * (l.length : Int)) / g = a - m * b := by
          rw [hml, ha, ← Int.mul_sub, Int.mul_ediv_cancel_left _ (by omega)]
        rw [d1, d2, d3]
        have hbb : 0 ≤ b ∧ b ≤ 30 := by
          have t0 := Int.ediv_nonneg (show 0 ≤ (l.length : Int) by omega) (show 0 ≤ g by omega)
          have t1 := Int.ediv_le_self g (show 0 ≤ (l.length : Int) by omega)
          omega
        have hmb : -54000 ≤ m * b ∧ m * b ≤ 54000 := by
          have u1 := mul_le_of (a := m) (b := 1799) (c := b) (by omega) hbb.1
          have u2 := mul_le_of (a := -1799) (b := m) (c := b) (by omega) hbb.1
          omega
        have hab : -2000 ≤ a ∧ a ≤ 20000 := by
          rcases Int.lt_or_le a 0 with h | h
          · have := Int.mul_le_mul_of_nonpos_right (show (1 : Int) ≤ g by omega) (show a ≤ 0 by omega)
            omega
          · have := Int.mul_le_mul_of_nonneg_right (show (1 : Int) ≤ g by omega) h
            omega
        rw [w64_id (x := m * b) (by omega), w64_id (x := a - m * b) (by omega), w64_id (x := p - m) (by omega), epq]
        refine .iteP (fun _ => ?_) (fun h => absurd (by omega) h)
        simp only [Bool.not_true, Bool.false_eq_true, if_false, bne_self_eq_false, Option.bind_some]
        exact .ok rfl
      · have hd : decide (0 < (l.length : Int)) = false := decide_eq_false (by omega)
        simp only [hd, if_true, Option.bind_some, Bool.false_eq_true, if_false]
        exact .ok rfl
    · rw [if_neg hq]
      simp only [Bool.false_eq_true, if_false, Option.bind_some]
      exact .ok rfl
  refine Tot.call (d_best code) fun ⟨so, early, late, limit⟩ hso => ?_
  dsimp only at hso ⊢
  refine Tot.call (iBest_ok hso early late limit) fun r10 ⟨x1, x2⟩ => Tot.call (sBest_ok hso early late limit) fun r11 ⟨y1, y2⟩ => ?_
  have e10 : r10 = r11 := by
    by_cases hq : BufP so early late limit
    · rw [x1 hq, y1 hq]
    · rw [x2 hq, y2 hq]
  subst e10
  simp only [Option.bind_some, beq_self_eq_true, Bool.not_true, Bool.false_eq_true, if_false, bne_self_eq_false]
  refine Tot.flb (Tot.mono (P := fun v => v = .go ()) ?_ fun v hv => ⟨fun r e => (by rw [hv] at e; cases e), fun u _ => ?_⟩)
  · by_cases hq : BufP so early late limit
    · rw [x1 hq]
      obtain ⟨hg, hp, hlim⟩ := id hq
      have hl30 := hg.1
      by_cases h0 : 0 < so.length
      · refine Tot.call (P := fun b => b = true) (.ite (fun _ => .ok (decide_eq_true (by omega))) (fun h => by cases h)) fun b hb => .ite (fun _ => ?_) (fun h => by rw [hb] at h; cases h)
        refine Tot.call (pshare_ok hso hg hp h0) fun ⟨a, b, o⟩ ⟨w1, w2, w3⟩ => ?_
        dsimp only at w1 w2 w3 ⊢
        subst w1
        have hbest := (best_bd so early late (limit + 1).toNat)
        have hge := hbest.2.2 hg (by omega)
        have hub := hbest.2.1
        have hnp := np_le (early := early) (late := late) (l := so)
        generalize (best so early late (limit + 1).toNat).2 = n at *
        have hpos := gI_pos (a := (np early late so : Int)) (b := (so.length : Int)) (by omega)
        have hdv := gI_dvd (a := (np early late so : Int)) (b := (so.length : Int))
        revert hpos hdv w2 w3
        generalize gI (np early late so : Int) (so.length : Int) = g
        intro w2 w3 hpos hdv
        obtain ⟨⟨a', ha⟩, ⟨b', hb'⟩⟩ := hdv
        rw [ha, Int.mul_ediv_cancel_left a' (by omega)] at w2
        rw [hb', Int.mul_ediv_cancel_left b' (by omega)] at w3
        subst w2; subst w3
        have hb0 : 0 ≤ b ∧ b ≤ 30 := by
          rcases Int.lt_or_le b 0 with h | h
          · have := Int.mul_le_mul_of_nonpos_right (show (1 : Int) ≤ g by omega) (show b ≤ 0 by omega)
            omega
          · have := Int.mul_le_mul_of_nonneg_right (show (1 : Int) ≤ g by omega) h
            omega
        have ha0 : 0 ≤ a ∧ a ≤ 30 := by
          rcases Int.lt_or_le a 0 with h | h
          · have := Int.mul_le_mul_of_nonpos_right (show (1 : Int) ≤ g by omega) (show a ≤ 0 by omega)
            omega
          · have := Int.mul_le_mul_of_nonneg_right (show (1 : Int) ≤ g by omega) h
            omega
        have hnb : (np early late so : Int) * b ≤ n * b := mul_le_of hge hb0.1
        have hk : (np early late so : Int) * b = a * (so.length : Int) := by rw [ha, hb', Int.mul_comm g a, Int.mul_assoc]
        have m1 := mul_bd (a := n) (b := b) (M := 30) (N := 30) (by omega) hb0
        have m2 := mul_bd (a := a) (b := (so.length : Int)) (M := 30) (N := 30) ha0 (by omega)
        rw [w64_id (x := n * b) (by omega), w64_id (x := a * (so.length : Int)) (by omega)]
        have hd : decide (n * b < a * (so.length : Int)) = false := decide_eq_false (by omega)
        rw [hd]
        exact .ok rfl
      · have hd : decide (0 < (so.length : Int)) = false := decide_eq_false (by omega)
        simp only [hd, if_true, Option.bind_some, Bool.false_eq_true, if_false]
        exact .ok rfl
    · rw [x2 hq]
      exact .ok rfl
  refine Tot.call (d_quant code) fun ⟨vs, num, den⟩ hvs => ?_
  dsimp only at hvs ⊢
  refine Tot.call (iQ_ok hvs num den) fun r15 ⟨a1, a2⟩ => Tot.call (sQ_ok hvs num den) fun r16 ⟨b1, b2⟩ => ?_
  have e15 : r15 = r16 := by
    by_cases hq : QP vs num den
    · obtain ⟨c1, c2⟩ := a1 hq
      obtain ⟨d1, d2⟩ := b1 hq
      exact Prod.ext (c2.uniq d2) (c1.trans d1.symm)
    · rw [a2 hq, b2 hq]
  subst e15
  refine Tot.call (d_excess code) fun ⟨os, stop⟩ hos => ?_
  dsimp only at hos ⊢
  obtain ⟨r, h1, h2⟩ := excess_eq hos stop
  refine .eq h1 (.eq h2 ?_)
  simp only [beq_self_eq_true, if_true, Option.bind_some]
  exact .ok rfl
end Go.Proofs.Ytepdapiceklppaa
