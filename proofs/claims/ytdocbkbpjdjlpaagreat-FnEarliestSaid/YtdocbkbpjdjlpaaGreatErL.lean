/- The plain law: what the models compute, no program in sight. -/
import Derived.Test.YtdocbkbpjdjlpaaGreatErM
import Derived.Test.YtdocbkbpjdjlpaaGreatAbPdq6
namespace Go.Proofs.YtdocbkbpjdjlpaaGreat
open Go Go.Ab
set_option maxHeartbeats 4000000
set_option linter.unusedVariables false
set_option linter.unusedSimpArgs false
theorem qb {α β : Type} (a : α) (f : α -> Option β) : (some a).bind f = f a := rfl
def Cur (k : Nat) (c : l1Cur) : Prop := 0 <= c.at_ /\ c.at_ <= k
theorem Cur.mono {k k' : Nat} {c : l1Cur} (h : Cur k c) (hk : k <= k') : Cur k' c := ⟨h.1, by have := h.2; omega⟩
theorem ylm {k : Nat} {c : l1Cur} (h : Cur k c) (hk : k <= 4000000000) : ∃ r, zq49 c = some r /\ Cur (k + 1) r.2 /\ 0 <= r.1 /\ r.1 <= 255 := by
 obtain ⟨h0, h1⟩ := h
 have hw : w64 (c.at_ + 1) = c.at_ + 1 := jah (by omega)
 have hcur : ∀ s, Cur (k + 1) ⟨c.code_, w64 (c.at_ + 1), s⟩ := fun s => by rw [hw]; exact ⟨by show 0 <= c.at_ + 1; omega, by show c.at_ + 1 <= _; omega⟩
 unfold zq49
 have hv : ∃ v, (if (decide (c.at_ < (c.code_.length : Int))) = true then (idx c.code_ c.at_).bind fun e1 => some (w64 ((e1.toNat : Int))) else some 0) = some v /\ 0 <= v /\ v <= 255 := by
  by_cases hlt : c.at_ < c.code_.length
  ·obtain ⟨x, hx, _, _⟩ := jc5 h0 hlt
   have := x.toNat_lt
   refine ⟨(x.toNat : Int), ?_, by omega, by omega⟩
   simp only [hlt, decide_true, if_true, hx, qb]
   rw [jah (by omega)]
  ·exact ⟨0, by simp [hlt], by omega, by omega⟩
 obtain ⟨v, hv, hv0, hv1⟩ := hv
 rw [hv]
 simp only [qb]
 split
 ·exact ⟨_, rfl, hcur _, hv0, hv1⟩
 ·rw [ja5 (by omega)]
  exact ⟨_, rfl, hcur _, jtp _⟩
theorem ya2 {k : Nat} {c : l1Cur} (n : Int) (h : Cur k c) (hk : k <= 3000000000) : ∃ r, zq53 c n = some r /\ Cur (k + 2) r.2 /\ 0 <= r.1 /\ (r.1 < n \/ r.1 = 0) := by
 unfold zq53
 by_cases hn : n <= 1
 ·exact ⟨(0, c), by simp [hn], h.mono (by omega), by simp, .inr rfl⟩
 ·obtain ⟨r, hr, hc, h0, h1⟩ := ylm h (by omega)
  have hn' : decide (n <= 1) = false := by simpa using hn
  simp only [hn', Bool.false_eq_true, if_false, hr, qb]
  have hne : chk (n ≠ 0) = some () := ja5 (by omega)
  by_cases h2 : 200 < n
  ·obtain ⟨r', hr', hc', h0', h1'⟩ := ylm hc (by omega)
   have e1 : w64 (r.1 * 256) = r.1 * 256 := jah (by omega)
   have e2 : w64 (r.1 * 256 + r'.1) = r.1 * 256 + r'.1 := jah (by omega)
   have h3 := jiq (a := r.1 * 256 + r'.1) (b := n) (by omega) (by omega)
   simp only [h2, decide_true, if_true, hr', qb, hne, e1, e2]
   exact ⟨_, rfl, hc'.mono (by omega), h3.1, .inl h3.2⟩
  ·have h2' : decide (200 < n) = false := by simpa using h2
   have h3 := jiq (a := r.1) (b := n) (by omega) (by omega)
   simp only [h2', Bool.false_eq_true, if_false, qb, hne]
   exact ⟨_, rfl, hc.mono (by omega), h3.1, .inl h3.2⟩
theorem ygi {k : Nat} {c : l1Cur} (l : List Int) (hl : l ≠ []) (h : Cur k c) (hk : k <= 3000000000) : ∃ r, zq41 c l = some r /\ Cur (k + 2) r.2 /\ r.1 ∈ l := by
 unfold zq41
 obtain ⟨r, hr, hc, h0, h1⟩ := ya2 (l.length : Int) h hk
 have hpos : 0 < l.length := List.length_pos_iff.2 hl
 obtain ⟨x, hx, _, hm⟩ := jc5 (l := l) h0 (by omega)
 simp only [hr, qb, hx]
 exact ⟨_, rfl, hc, hm⟩
theorem yfv {k : Nat} {c : l1Cur} (l : List Int) (hl : l ≠ []) (h : Cur k c) (hk : k <= 3000000000) : ∃ r, zq40 c l = some r /\ Cur (k + 2) r.2 /\ r.1 ∈ l := by
 have : zq40 c l = zq41 c l := rfl
 rw [this]; exact ygi l hl h hk
theorem yll {k : Nat} {c : l1Cur} (n : Int) (h : Cur k c) (hk : k <= 3000000000) : ∃ r, zq52 c n = some r /\ Cur (k + 2) r.2 := by
 unfold zq52
 obtain ⟨r, hr, hc, _, _⟩ := ya2 n h hk
 simp only [hr, qb]
 exact ⟨_, rfl, hc⟩
theorem yq1 {k : Nat} {c : l1Cur} (l : List ByteArray) (hl : l ≠ []) (h : Cur k c) (hk : k <= 3000000000) : ∃ r, zq50 c l = some r /\ Cur (k + 2) r.2 /\ r.1 ∈ l := by
 unfold zq50
 obtain ⟨r, hr, hc, h0, h1⟩ := ya2 (l.length : Int) h hk
 have hpos : 0 < l.length := List.length_pos_iff.2 hl
 obtain ⟨x, hx, _, hm⟩ := jc5 (l := l) h0 (by omega)
 simp only [hr, qb, hx]
 exact ⟨_, rfl, hc, hm⟩
theorem ynp {k : Nat} {c : l1Cur} (l : List ByteArray) (hl : l ≠ []) (h : Cur k c) (hk : k <= 3000000000) : ∃ r, zq51 c l = some r /\ Cur (k + 2) r.2 /\ r.1 ∈ l := by
 have : zq51 c l = zq50 c l := rfl
 rw [this]; exact yq1 l hl h hk
theorem cur0 (code : List UInt8) : Cur 0 ⟨code, 0, ⟨0⟩⟩ := ⟨by show (0 : Int) <= 0; omega, by show (0 : Int) <= _; omega⟩
theorem yp5 {x : Int} (h : 0 <= x) (k : Nat) : x.fdiv (2 ^ k) = x / (2 ^ k : Nat) := by
 rw [Int.fdiv_eq_ediv_of_nonneg _ (by exact_mod_cast Nat.zero_le (2 ^ k))]
 simp
theorem yi3 {x y : Int} {v k : Nat} (h : y * (2 ^ v : Nat) <= x) (hy : 0 <= y) : y / (2 ^ k : Nat) * (2 ^ (v + k) : Nat) <= x := by
 have h1 : y / (2 ^ k : Nat) * (2 ^ k : Nat) <= y := Int.ediv_mul_le _ (by have := Nat.two_pow_pos k; omega)
 have h2 : y / (2 ^ k : Nat) * (2 ^ k : Nat) * (2 ^ v : Nat) <= y * (2 ^ v : Nat) := Int.mul_le_mul_of_nonneg_right h1 (Int.natCast_nonneg _)
 rw [Nat.add_comm, Nat.pow_add, Int.natCast_mul, <- Int.mul_assoc]
 omega
theorem ym1 (x : IK .u64) (h0 : 0 <= x.v) (h1 : x.v < 8589934592) : Tot (zq37 x) fun r => 0 <= r /\ r <= 64 /\ (1 <= x.v -> ((2 ^ r.toNat : Nat) : Int) <= 2 * x.v) := by
 unfold zq37
 refine Tot.call (P := fun (r : Int × Int) => 0 <= r.1 /\ r.1 < 4294967296 /\ (1 <= x.v -> 1 <= r.1) /\ 0 <= r.2 /\ r.2 <= 32 /\ r.1 * (2 ^ r.2.toNat : Nat) <= x.v) (.iteP (fun hc => Tot.chk (by decide) (.ok ?_)) (fun hc => .ok ⟨h0, by dsimp only; omega, fun h => h, Int.le_refl _, by dsimp only; omega, by simp⟩)) fun ⟨x1, v⟩ ⟨p1, p2, p3, p4, p5, p6⟩ => ?_
 ·have e : ((2 ^ 32 : Nat) : Int) = 4294967296 := by decide
  have e2 : x.v.fdiv (2 ^ (min (32 : Int).toNat (IntKind.u64).bits)) = x.v / (2 ^ 32 : Nat) := yp5 h0 32
  simp only [e2]
  exact ⟨by omega, by omega, fun _ => by omega, by omega, by omega, Int.ediv_mul_le _ (by decide)⟩
 dsimp only at p1 p2 p3 p4 p5 p6 ⊢
 refine Tot.call (P := fun (r : Int × Int) => 0 <= r.1 /\ r.1 < 65536 /\ (1 <= x.v -> 1 <= r.1) /\ 0 <= r.2 /\ r.2 <= 48 /\ r.1 * (2 ^ r.2.toNat : Nat) <= x.v) (.iteP (fun hc => Tot.chk (by decide) (.ok ?_)) (fun hc => .ok ⟨p1, by dsimp only; omega, p3, p4, by dsimp only; omega, p6⟩)) fun ⟨x2, v1⟩ ⟨q1, q2, q3, q4, q5, q6⟩ => ?_
 ·have e : ((2 ^ 16 : Nat) : Int) = 65536 := by decide
  have e2 : x1.fdiv (2 ^ (min (16 : Int).toNat (IntKind.u64).bits)) = x1 / (2 ^ 16 : Nat) := yp5 p1 16
  have e3 : w64 (v + 16) = v + 16 := jah (by omega)
  have e4 : (v + 16).toNat = v.toNat + 16 := by omega
  simp only [e2, e3, e4]
  exact ⟨by omega, by omega, fun _ => by omega, by omega, by omega, yi3 p6 p1⟩
 dsimp only at q1 q2 q3 q4 q5 q6 ⊢
 refine Tot.call (P := fun (r : Int × Int) => 0 <= r.1 /\ r.1 < 256 /\ (1 <= x.v -> 1 <= r.1) /\ 0 <= r.2 /\ r.2 <= 56 /\ r.1 * (2 ^ r.2.toNat : Nat) <= x.v) (.iteP (fun hc => Tot.chk (by decide) (.ok ?_)) (fun hc => .ok ⟨q1, by dsimp only; omega, q3, q4, by dsimp only; omega, q6⟩)) fun ⟨x3, v2⟩ ⟨r1, r2, r3, r4, r5, r6⟩ => ?_
 ·have e : ((2 ^ 8 : Nat) : Int) = 256 := by decide
  have e2 : x2.fdiv (2 ^ (min (8 : Int).toNat (IntKind.u64).bits)) = x2 / (2 ^ 8 : Nat) := yp5 q1 8
  have e3 : w64 (v1 + 8) = v1 + 8 := jah (by omega)
  have e4 : (v1 + 8).toNat = v1.toNat + 8 := by omega
  simp only [e2, e3, e4]
  exact ⟨by omega, by omega, fun _ => by omega, by omega, by omega, yi3 q6 q1⟩
 dsimp only at r1 r2 r3 r4 r5 r6 ⊢
 have e8 : IntKind.u8.wrap x3 = x3 := Int.emod_eq_of_lt r1 r2
 rw [e8]
 generalize hs : str _ = S
 have hS : (Nat.beq S.size 256 && (List.range 256).all fun i => Nat.ble (S.data.toList.getD i 0).toNat 8 && (Nat.beq i 0 || Nat.ble (2 ^ (S.data.toList.getD i 0).toNat) (2 * i))) = true := by
  rw [<- hs]; kernel_rfl
 clear hs
 simp only [Bool.and_eq_true, List.all_eq_true, List.mem_range, Bool.or_eq_true] at hS
 obtain ⟨s1, s2⟩ := hS
 have s1 := Nat.eq_of_beq_eq_true s1
 obtain ⟨n, rfl⟩ : ∃ n : Nat, x3 = n := ⟨x3.toNat, by omega⟩
 have s2 := s2 n (by omega)
 have t1 := Nat.le_of_ble_eq_true s2.1
 refine Tot.chk (by omega) (.ok ?_)
 rw [Int.toNat_natCast]
 revert t1 s2
 generalize (S.data.toList.getD n 0).toNat = t
 intro s2 t1
 rw [jah (x := (t : Int)) (by omega), jah (by omega)]
 refine ⟨by omega, by omega, fun hx => ?_⟩
 have e1 : (v2 + (t : Int)).toNat = v2.toNat + t := by omega
 rw [e1, Nat.pow_add, Int.natCast_mul]
 have hn := r3 hx
 have t2 : 2 ^ t <= 2 * n := by
  rcases s2.2 with h | h
  ·have := Nat.eq_of_beq_eq_true h; omega
  ·exact Nat.le_of_ble_eq_true h
 have t3 : ((2 ^ v2.toNat : Nat) : Int) * (2 ^ t : Nat) <= (2 ^ v2.toNat : Nat) * (2 * n : Nat) := Int.mul_le_mul_of_nonneg_left (by exact_mod_cast t2) (by exact_mod_cast Nat.zero_le _)
 have t4 : ((2 ^ v2.toNat : Nat) : Int) * ((2 * n : Nat) : Int) = 2 * ((n : Int) * (2 ^ v2.toNat : Nat)) := by
  rw [Int.natCast_mul, Int.mul_comm ((2 ^ v2.toNat : Nat) : Int), Int.mul_assoc]; rfl
 omega
theorem yns (x : IK .u64) (h0 : 0 <= x.v) (h1 : x.v < 8589934592) : Tot (zq36 x) fun r => 0 <= r /\ r <= 64 /\ (1 <= x.v -> ((2 ^ r.toNat : Nat) : Int) <= 2 * x.v) := by
 unfold zq36
 exact Tot.call (ym1 x h0 h1) fun r hr => .ok hr
theorem yfp {n : Int} (h0 : 0 <= n) (h1 : n < 18446744073709551616) : IntKind.u64.wrap n = n := by
 show n % 18446744073709551616 = n
 exact Int.emod_eq_of_lt h0 h1
theorem hlp : Pdq.Hlp ycu ycj := by
 refine ⟨fun n h1 h2 => ?_, fun x => ?_⟩
 ·unfold ycu
  rw [yfp (by omega) (by omega)]
  refine Tot.call (yns ⟨n⟩ (by dsimp only; omega) (by dsimp only; omega)) fun r ⟨r1, r2, r3⟩ => Tot.chk r1 (.ok ?_)
  have r3 := r3 (by dsimp only; omega)
  dsimp only at r3 ⊢
  have e : min r.toNat (IntKind.u64).bits = r.toNat := Nat.min_eq_left (by show r.toNat <= 64; omega)
  have e2 : (1 : Int) * 2 ^ r.toNat = ((2 ^ r.toNat : Nat) : Int) := by rw [Int.one_mul]; norm_cast
  rw [e, e2]
  have := Nat.two_pow_pos r.toNat
  rw [yfp (by omega) (by omega)]
  omega
 ·unfold ycj
  exact Tot.chk (by decide) (Tot.chk (by decide) (Tot.chk (by decide) (.ok trivial)))
noncomputable def yat (x y : Int) : Option Int := some (if x < y then -1 else 0)
theorem yaw (x y : Int) : zq0 x y = some (decide (x < y)) := by
 unfold zq0 zq1
 simp
theorem yaz (x y : Int) : decide ((if x < y then (-1 : Int) else 0) < 0) = decide (x < y) := by
 by_cases h : x < y <;> simp [h]
theorem yaa (a : Int) : yde a = Pdq.insertionSort_L1 a yat := by
 funext ⟨s0, s1⟩
 simp only [yde, Pdq.insertionSort_L1, yat, yaw, yaz, qb]
theorem yab (a : Int) (b : Int) : ydd a b = Pdq.insertionSort_L2 a b yat := by
 funext ⟨s0, s1⟩
 simp only [ydd, Pdq.insertionSort_L2, yaa, yat, yaw, yaz, qb]
theorem yad (data : List Int) (a : Int) (b : Int) : yjg data a b = Pdq.insertionSort data a b yat := by
 simp only [yjg, Pdq.insertionSort, yaa, yab, yat, yaw, yaz, qb]
theorem yah (hi : Int) (first : Int) : ycy hi first = Pdq.siftDown_L1 hi first yat := by
 funext ⟨s0, s1⟩
 simp only [ycy, Pdq.siftDown_L1, yaa, yab, yad, yat, yaw, yaz, qb]
theorem yan (data : List Int) (lo : Int) (hi : Int) (first : Int) : yhf data lo hi first = Pdq.siftDown data lo hi first yat := by
 simp only [yhf, Pdq.siftDown, yaa, yab, yad, yah, yat, yaw, yaz, qb]
theorem yaj (a : Int) (b : Int) : ydg a b = Pdq.heapSort_L1 a b yat := by
 funext ⟨s0, s1⟩
 simp only [ydg, Pdq.heapSort_L1, yaa, yab, yad, yah, yan, yat, yaw, yaz, qb]
theorem yal (a : Int) : ydf a = Pdq.heapSort_L2 a yat := by
 funext ⟨s0, s1⟩
 simp only [ydf, Pdq.heapSort_L2, yaa, yab, yad, yah, yan, yaj, yat, yaw, yaz, qb]
theorem yar (data : List Int) (a : Int) (b : Int) : yjh data a b = Pdq.heapSort data a b yat := by
 simp only [yjh, Pdq.heapSort, yaa, yab, yad, yah, yan, yaj, yal, yat, yaw, yaz, qb]
theorem yav (data : List Int) (a : Int) (b : Int) (swaps : Int) : yf4 data a b swaps = Pdq.order2 data a b swaps yat := by
 simp only [yf4, Pdq.order2, yaa, yab, yad, yah, yan, yaj, yal, yar, yat, yaw, yaz, qb]
theorem yax (data : List Int) (a : Int) (b : Int) (c : Int) (swaps : Int) : yhm data a b c swaps = Pdq.median data a b c swaps yat := by
 simp only [yhm, Pdq.median, yaa, yab, yad, yah, yan, yaj, yal, yar, yav, yat, yaw, yaz, qb]
theorem yai (data : List Int) (a : Int) (swaps : Int) : yf5 data a swaps = Pdq.medianAdjacent data a swaps yat := by
 simp only [yf5, Pdq.medianAdjacent, yaa, yab, yad, yah, yan, yaj, yal, yar, yav, yax, yat, yaw, yaz, qb]
theorem yao (data : List Int) (a : Int) (b : Int) : yji data a b = Pdq.choosePivot data a b yat := by
 simp only [yji, Pdq.choosePivot, yaa, yab, yad, yah, yan, yaj, yal, yar, yav, yax, yai, yat, yaw, yaz, qb]
theorem yak : ycz = Pdq.reverseRange_L1 := by
 funext ⟨s0, s1, s2⟩
 simp only [ycz, Pdq.reverseRange_L1, yaa, yab, yad, yah, yan, yaj, yal, yar, yav, yax, yai, yao, yat, yaw, yaz, qb]
theorem yap (data : List Int) (a : Int) (b : Int) : yjc data a b = Pdq.reverseRange data a b yat := by
 simp only [yjc, Pdq.reverseRange, yaa, yab, yad, yah, yan, yaj, yal, yar, yav, yax, yai, yao, yak, yat, yaw, yaz, qb]
theorem yac (b : Int) (data1 : List Int) : ydc b data1 = Pdq.partialInsertionSort_L1 b yat data1 := by
 funext s0
 simp only [ydc, Pdq.partialInsertionSort_L1, yaa, yab, yad, yah, yan, yaj, yal, yar, yav, yax, yai, yao, yak, yap, yat, yaw, yaz, qb]
theorem yae : ydb = Pdq.partialInsertionSort_L2 yat := by
 funext ⟨s0, s1⟩
 simp only [ydb, Pdq.partialInsertionSort_L2, yaa, yab, yad, yah, yan, yaj, yal, yar, yav, yax, yai, yao, yak, yap, yac, yat, yaw, yaz, qb]
theorem yaf (b : Int) : yda b = Pdq.partialInsertionSort_L3 b yat := by
 funext ⟨s0, s1⟩
 simp only [yda, Pdq.partialInsertionSort_L3, yaa, yab, yad, yah, yan, yaj, yal, yar, yav, yax, yai, yao, yak, yap, yac, yae, yat, yaw, yaz, qb]
theorem yag (a : Int) (b : Int) : yc9 a b = Pdq.partialInsertionSort_L4 a b yat := by
 funext ⟨s0, s1, s2⟩
 simp only [yc9, Pdq.partialInsertionSort_L4, yaa, yab, yad, yah, yan, yaj, yal, yar, yav, yax, yai, yao, yak, yap, yac, yae, yaf, yat, yaw, yaz, qb]
theorem yam (data : List Int) (a : Int) (b : Int) : yjf data a b = Pdq.partialInsertionSort data a b yat := by
 simp only [yjf, Pdq.partialInsertionSort, yaa, yab, yad, yah, yan, yaj, yal, yar, yav, yax, yai, yao, yak, yap, yac, yae, yaf, yag, yat, yaw, yaz, qb]
theorem yaq (a : Int) (v1 : Int) (data1 : List Int) : yc8 a v1 data1 = Pdq.partitionEqual_L1 a yat v1 data1 := by
 funext s0
 simp only [yc8, Pdq.partitionEqual_L1, yaa, yab, yad, yah, yan, yaj, yal, yar, yav, yax, yai, yao, yak, yap, yac, yae, yaf, yag, yam, yat, yaw, yaz, qb]
theorem yas (a : Int) (data1 : List Int) (v4 : Int) : yc7 a data1 v4 = Pdq.partitionEqual_L2 a yat data1 v4 := by
 funext s0
 simp only [yc7, Pdq.partitionEqual_L2, yaa, yab, yad, yah, yan, yaj, yal, yar, yav, yax, yai, yao, yak, yap, yac, yae, yaf, yag, yam, yaq, yat, yaw, yaz, qb]
theorem yau (a : Int) : yc6 a = Pdq.partitionEqual_L3 a yat := by
 funext ⟨s0, s1, s2⟩
 simp only [yc6, Pdq.partitionEqual_L3, yaa, yab, yad, yah, yan, yaj, yal, yar, yav, yax, yai, yao, yak, yap, yac, yae, yaf, yag, yam, yaq, yas, yat, yaw, yaz, qb]
theorem yay (data : List Int) (a : Int) (b : Int) (pivot : Int) : yje data a b pivot = Pdq.partitionEqual data a b pivot yat := by
 simp only [yje, Pdq.partitionEqual, yaa, yab, yad, yah, yan, yaj, yal, yar, yav, yax, yai, yao, yak, yap, yac, yae, yaf, yag, yam, yaq, yas, yau, yat, yaw, yaz, qb]
theorem ya1 (data : List Int) (a : Int) (b : Int) (pivot : Int) (e4 : Int) (e5 : Int) : yc5 data a b pivot e4 e5 = Pdq.partition_L1 data a b pivot yat e4 e5 := by
 funext s0
 simp only [yc5, Pdq.partition_L1, yaa, yab, yad, yah, yan, yaj, yal, yar, yav, yax, yai, yao, yak, yap, yac, yae, yaf, yag, yam, yaq, yas, yau, yay, yat, yaw, yaz, qb]
theorem ya3 (data : List Int) (a : Int) (pivot : Int) (e4 : Int) (e5 : Int) (v2 : Int) : yc4 data a pivot e4 e5 v2 = Pdq.partition_L2 data a pivot yat e4 e5 v2 := by
 funext s0
 simp only [yc4, Pdq.partition_L2, yaa, yab, yad, yah, yan, yaj, yal, yar, yav, yax, yai, yao, yak, yap, yac, yae, yaf, yag, yam, yaq, yas, yau, yay, ya1, yat, yaw, yaz, qb]
theorem ya7 (a : Int) (v7 : Int) (data1 : List Int) : yc3 a v7 data1 = Pdq.partition_L3 a yat v7 data1 := by
 funext s0
 simp only [yc3, Pdq.partition_L3, yaa, yab, yad, yah, yan, yaj, yal, yar, yav, yax, yai, yao, yak, yap, yac, yae, yaf, yag, yam, yaq, yas, yau, yay, ya1, ya3, yat, yaw, yaz, qb]
theorem ya9 (a : Int) (data1 : List Int) (v10 : Int) : yc2 a data1 v10 = Pdq.partition_L4 a yat data1 v10 := by
 funext s0
 simp only [yc2, Pdq.partition_L4, yaa, yab, yad, yah, yan, yaj, yal, yar, yav, yax, yai, yao, yak, yap, yac, yae, yaf, yag, yam, yaq, yas, yau, yay, ya1, ya3, ya7, yat, yaw, yaz, qb]
theorem ybc (a : Int) : yc1 a = Pdq.partition_L5 a yat := by
 funext ⟨s0, s1, s2⟩
 simp only [yc1, Pdq.partition_L5, yaa, yab, yad, yah, yan, yaj, yal, yar, yav, yax, yai, yao, yak, yap, yac, yae, yaf, yag, yam, yaq, yas, yau, yay, ya1, ya3, ya7, ya9, yat, yaw, yaz, qb]
theorem ybp (data : List Int) (a : Int) (b : Int) (pivot : Int) : yjd data a b pivot = Pdq.partition data a b pivot yat := by
 simp only [yjd, Pdq.partition, yaa, yab, yad, yah, yan, yaj, yal, yar, yav, yax, yai, yao, yak, yap, yac, yae, yaf, yag, yam, yaq, yas, yau, yay, ya1, ya3, ya7, ya9, ybc, yat, yaw, yaz, qb]
theorem ybg (a : Int) (b : Int) (r : (IK .u64)) : yel a b r = Pdq.breakPatterns_L1 ycj a b r := by
 funext ⟨s0, s1, s2⟩
 simp only [yel, Pdq.breakPatterns_L1, yaa, yab, yad, yah, yan, yaj, yal, yar, yav, yax, yai, yao, yak, yap, yac, yae, yaf, yag, yam, yaq, yas, yau, yay, ya1, ya3, ya7, ya9, ybc, ybp, yat, yaw, yaz, qb]
theorem ycm (data : List Int) (a : Int) (b : Int) : zq99 data a b = Pdq.breakPatterns ycu ycj data a b yat := by
 simp only [zq99, Pdq.breakPatterns, yaa, yab, yad, yah, yan, yaj, yal, yar, yav, yax, yai, yao, yak, yap, yac, yae, yaf, yag, yam, yaq, yas, yau, yay, ya1, ya3, ya7, ya9, ybc, ybp, ybg, yat, yaw, yaz, qb]
theorem yjl (rec_ : List Int -> Int -> Int -> Int -> Option (List Int)) : yc0 rec_ = Pdq.pdq_L1 ycu ycj yat rec_ := by
 funext ⟨s0, s1, s2, s3, s4, s5⟩
 simp only [yc0, Pdq.pdq_L1, yaa, yab, yad, yah, yan, yaj, yal, yar, yav, yax, yai, yao, yak, yap, yac, yae, yaf, yag, yam, yaq, yas, yau, yay, ya1, ya3, ya7, ya9, ybc, ybp, ybg, ycm, yat, yaw, yaz, qb]
theorem ylk (rec_ : List Int -> Int -> Int -> Int -> Option (List Int)) (l : List Int) (a b k : Int) : ybt rec_ l a b k = Pdq.pdq_F ycu ycj yat rec_ l a b k := by
 unfold ybt Pdq.pdq_F
 rw [yjl]
theorem yi4 : ∀ n, ydu n = Pdq.pdq_k ycu ycj yat n
 | 0 => rfl
 | n + 1 => by
  funext l a b k
  show ybt (ydu n) l a b k = Pdq.pdq_F ycu ycj yat (Pdq.pdq_k ycu ycj yat n) l a b k
  rw [yi4 n, ylk]
theorem yqs : Pdq.Lt yat (· <= ·) := by
 refine ⟨fun x y => by omega, fun a b => by omega, fun x y => ⟨_, rfl, ?_⟩⟩
 by_cases h : x < y <;> simp [h] <;> omega
theorem ymw (l : List Int) (h : l.length < 4294967296) : Tot (zq98 l) fun l' => l'.Perm l /\ l'.Pairwise (· <= ·) := by
 unfold zq98
 refine Tot.call (yns _ (by dsimp only; rw [yfp (by omega) (by omega)]; omega) (by dsimp only; rw [yfp (by omega) (by omega)]; omega)) fun r _ => ?_
 unfold ymj
 rw [yi4]
 refine Tot.call (Pdq.pdq_ok yqs hlp (limit := r) h) fun l' hl' => .ok hl'
theorem ybh (n lo hi : Int) : zq35 n lo hi = some (decide (lo <= n /\ n <= hi)) := by
 unfold zq35
 by_cases h : lo <= n <;> simp [h]
theorem ybj (n lo hi : Int) : zq58 n lo hi = some (decide (lo <= n /\ n <= hi)) := by
 unfold zq58
 by_cases h : lo <= n <;> simp [h]
def ChOK (i : Nat) (c : UInt8) : Prop := (97 <= (c.toNat : Int) /\ (c.toNat : Int) <= 122) \/ (i ≠ 0 /\ 48 <= (c.toNat : Int) /\ (c.toNat : Int) <= 57)
def ybb (s : ByteArray) : Prop := (1 <= s.size /\ s.size <= 8) /\ ∀ (i : Nat) c, s.data.toList[i]? = some c -> ChOK i c
open Classical in
noncomputable instance (s : ByteArray) : Decidable (ybb s) := Classical.propDecidable _
theorem yf9 (s : ByteArray) : s.data.toList.length = s.size := by simp
theorem yhu {α : Type} {l : List α} {i : Nat} {x d : α} (h : l[i]? = some x) : l.getD i d = x := by rw [List.getD_eq_getElem?_getD, h]; rfl
theorem ylv (s : ByteArray) : zq24 s = some (decide (ybb s)) := by
 unfold zq24
 by_cases h1 : 1 <= s.size /\ s.size <= 8
 ·have e1 : decide ((s.size : Int) < 1) = false := by simp; omega
  have e2 : decide (8 < (s.size : Int)) = false := by simp; omega
  simp only [e1, e2, Bool.false_eq_true, if_false, qb]
  have hsz := yf9 s
  have key := Go.Ab.all_loop s.data.toList ChOK (step := ydr s) ?_ ?_ 0 0 rfl (by omega)
  ·rcases key with ⟨g1, g2⟩ | ⟨g1, g2⟩
   ·rw [g1, jc6]
    have : ybb s := ⟨h1, fun i c hc => g2 i c (by omega) hc⟩
    simp [this]
   ·rw [g1, jc9]
    have : ¬ ybb s := fun hn => g2 fun i c _ hc => hn.2 i c hc
    simp [this]
  ·intro i x hx
   have hi := (List.getElem?_eq_some_iff.1 hx).1
   have hg : s.data.toList.getD (i : Int).toNat 0 = x := by rw [Int.toNat_natCast]; exact yhu hx
   have hc : chk ((0 : Int) <= (i : Int) /\ (i : Int) < (s.size : Int)) = some () := ja5 (by omega)
   have hlt : decide ((i : Int) < (s.size : Int)) = true := by simp; omega
   unfold ydr
   simp only [hlt, if_true, hc, hg, qb, jaj (n := i) (by omega)]
   unfold ChOK
   by_cases a1 : (97 : Int) <= (x.toNat : Int)
   ·by_cases a2 : (x.toNat : Int) <= 122
    ·left; refine ⟨by simp [a1, a2], .inl ⟨a1, a2⟩⟩
    ·right
     refine ⟨?_, by omega⟩
     have b1 : decide ((x.toNat : Int) < 48) = false := by simp; omega
     have b2 : decide ((57 : Int) < (x.toNat : Int)) = true := by simp; omega
     have c1 : ¬ (x.toNat : Int) < 48 := by omega
     have c2 : (57 : Int) < (x.toNat : Int) := by omega
     by_cases hi0 : i = 0
     ·simp [a1, a2, hi0]
     ·have hi0' : ((i : Int) == 0) = false := by simp; omega
      simp [a1, a2, hi0', c1, c2]
   ·by_cases hi0 : i = 0
    ·right
     refine ⟨by simp [a1, hi0], by omega⟩
    ·have hi0' : ((i : Int) == 0) = false := by simp; omega
     by_cases b1 : (x.toNat : Int) < 48
     ·right
      refine ⟨by simp [a1, hi0', b1], by omega⟩
     ·by_cases b2 : (57 : Int) < (x.toNat : Int)
      ·right
       refine ⟨by simp [a1, hi0', b1, b2], by omega⟩
      ·left
       refine ⟨by simp [a1, hi0', b1, b2], .inr ⟨hi0, by omega, by omega⟩⟩
  ·unfold ydr
   rw [hsz]
   simp
 ·have : ¬ ybb s := fun h => h1 h.1
  have e : (if (decide ((s.size : Int) < 1)) = true then some true else some (decide (8 < (s.size : Int)))) = some true := by
   by_cases h2 : s.size < 1
   ·have : decide ((s.size : Int) < 1) = true := by simp; omega
    simp [this]
   ·have e1 : decide ((s.size : Int) < 1) = false := by simp; omega
    have e2 : decide (8 < (s.size : Int)) = true := by simp; omega
    simp [e1, e2]
  rw [e]
  simp [this]
theorem ygc (s : ByteArray) : zq69 s = some (decide (ybb s)) := by
 unfold zq69
 rw [ybj]
 simp only [qb]
 by_cases h1 : 1 <= s.size /\ s.size <= 8
 ·have e1 : decide ((1 : Int) <= (s.size : Int) /\ (s.size : Int) <= 8) = true := by simp; omega
  have hsz := yf9 s
  obtain ⟨x0, hx0⟩ := ja9 (l := s.data.toList) (i := 0) (by omega)
  have hg0 : s.data.toList.getD (0 : Int).toNat 0 = x0 := yhu hx0
  have hc0 : chk ((0 : Int) <= 0 /\ 0 < (s.size : Int)) = some () := ja5 (by omega)
  simp only [e1, Bool.not_true, Bool.false_eq_true, if_false, hc0, hg0, qb]
  by_cases a0 : 97 <= (x0.toNat : Int) /\ (x0.toNat : Int) <= 122
  ·have b1 : decide ((x0.toNat : Int) < 97) = false := by simp; omega
   have b2 : decide ((122 : Int) < (x0.toNat : Int)) = false := by simp; omega
   simp only [b1, b2, Bool.false_eq_true, if_false, qb]
   have key := Go.Ab.all_loop s.data.toList ChOK (step := ydn s) ?_ ?_ 0 0 rfl (by omega)
   ·rcases key with ⟨g1, g2⟩ | ⟨g1, g2⟩
    ·rw [g1, jc6]
     have : ybb s := ⟨h1, fun i c hc => g2 i c (by omega) hc⟩
     simp [this]
    ·rw [g1, jc9]
     have : ¬ ybb s := fun hn => g2 fun i c _ hc => hn.2 i c hc
     simp [this]
   ·intro i x hx
    have hi := (List.getElem?_eq_some_iff.1 hx).1
    have hg : s.data.toList.getD (i : Int).toNat 0 = x := by rw [Int.toNat_natCast]; exact yhu hx
    have hc : chk ((0 : Int) <= (i : Int) /\ (i : Int) < (s.size : Int)) = some () := ja5 (by omega)
    have hlt : decide ((i : Int) < (s.size : Int)) = true := by simp; omega
    have h0 : i = 0 -> x = x0 := fun h => by subst h; rw [hx0] at hx; cases hx; rfl
    unfold ydn
    simp only [hlt, if_true, hc, hg, qb, jaj (n := i) (by omega)]
    unfold ChOK
    by_cases a1 : (x.toNat : Int) < 97
    ·have hi0 : i ≠ 0 := fun h => by have := h0 h; subst this; omega
     by_cases c1 : (x.toNat : Int) < 48
     ·right; refine ⟨by simp [a1, c1], by omega⟩
     ·by_cases c2 : (57 : Int) < (x.toNat : Int)
      ·right; refine ⟨by simp [a1, c1, c2], by omega⟩
      ·left; refine ⟨by simp [a1, c1, c2], .inr ⟨hi0, by omega, by omega⟩⟩
    ·by_cases a2 : (122 : Int) < (x.toNat : Int)
     ·right
      have c1 : ¬ (x.toNat : Int) < 48 := by omega
      have c2 : (57 : Int) < (x.toNat : Int) := by omega
      refine ⟨by simp [a1, a2, c1, c2], by omega⟩
     ·left; refine ⟨by simp [a1, a2], .inl ⟨by omega, by omega⟩⟩
   ·unfold ydn
    rw [hsz]
    simp
  ·have : ¬ ybb s := fun hn => by
    have := hn.2 0 x0 hx0
    unfold ChOK at this
    omega
   have e : (if (decide ((x0.toNat : Int) < 97)) = true then some true else some (decide ((122 : Int) < (x0.toNat : Int)))) = some true := by
    by_cases h2 : (x0.toNat : Int) < 97
    ·simp [h2]
    ·have : (122 : Int) < (x0.toNat : Int) := by omega
     simp [h2, this]
   rw [e]
   simp [this]
 ·have e1 : decide ((1 : Int) <= (s.size : Int) /\ (s.size : Int) <= 8) = false := by simp; omega
  have : ¬ ybb s := fun h => h1 h.1
  simp [e1, this]
theorem yge (l : List ByteArray) (hl : l.length <= 4000000000) (v : ByteArray) : zq97 l v = some (fixI (fun e => v.toList == e.toList) l) := by
 unfold zq97
 refine jdq l (fun e => v.toList == e.toList) (fun i x hx => ?_) (by unfold yem; simp)
 have hi := (List.getElem?_eq_some_iff.1 hx).1
 unfold yem
 have hlt : decide ((i : Int) < (l.length : Int)) = true := by simp; omega
 simp only [hlt, if_true, jav, hx, qb, jaj (n := i) (by omega)]
 split <;> rfl
theorem ybx (l : List Int) (hl : l.length <= 4000000000) (v : Int) : zq96 l v = some (fixI (fun e => v == e) l) := by
 unfold zq96
 refine jdq l (fun e => v == e) (fun i x hx => ?_) (by unfold yen; simp)
 have hi := (List.getElem?_eq_some_iff.1 hx).1
 unfold yen
 have hlt : decide ((i : Int) < (l.length : Int)) = true := by simp; omega
 simp only [hlt, if_true, jav, hx, qb, jaj (n := i) (by omega)]
 split <;> rfl
theorem yb0 (x : Line) (hl : x.Stops.length <= 4000000000) (v : Int) : zq72 x v = some (fixI (fun e => v == e) x.Stops) := by
 have hc : fixI (fun e => v == e) x.Stops = fixI (fun e => e == v) x.Stops := jfo _ fun e => BEq.comm
 rw [hc]
 unfold zq72
 refine jdq x.Stops (fun e => e == v) (fun i y hx => ?_) (by unfold yev; simp)
 have hi := (List.getElem?_eq_some_iff.1 hx).1
 unfold yev
 have hlt : decide ((i : Int) < (x.Stops.length : Int)) = true := by simp; omega
 simp only [hlt, if_true, jav, hx, qb, jaj (n := i) (by omega)]
 split <;> rfl
theorem yl1 (a b : List UInt8) : (a == b) = (b == a) := BEq.comm
theorem yls (l : List ByteArray) (hl : l.length <= 4000000000) (v : ByteArray) : zq65 l v = some (fixI (fun e => v.toList == e.toList) l) := by
 rw [jfo l (q := fun e => e.toList == v.toList) fun e => yl1 _ _]
 unfold zq65
 refine jdq l (fun e => e.toList == v.toList) (fun i x hx => ?_) (by unfold ye2; simp)
 have hi := (List.getElem?_eq_some_iff.1 hx).1
 unfold ye2
 have hlt : decide ((i : Int) < (l.length : Int)) = true := by simp; omega
 simp only [hlt, if_true, jav, hx, qb, jaj (n := i) (by omega)]
 split <;> rfl
theorem yd7 (n : Network) (hl : n.Lines.length <= 4000000000) (v : ByteArray) : zq68 n v = some (fixI (fun e => v.toList == e.toList) (n.Lines.map (·.Name))) := by
 rw [jqz, jfo n.Lines (q := fun e => e.Name.toList == v.toList) fun e => yl1 _ _]
 unfold zq68
 refine jdq n.Lines (fun e => e.Name.toList == v.toList) (fun i x hx => ?_) (by unfold yex; simp)
 have hi := (List.getElem?_eq_some_iff.1 hx).1
 unfold yex
 have hlt : decide ((i : Int) < (n.Lines.length : Int)) = true := by simp; omega
 simp only [hlt, if_true, jav, hx, qb, jaj (n := i) (by omega)]
 split <;> rfl
def yct (l : List ByteArray) : Prop := ∀ (i : Nat) x, l[i]? = some x -> ybb x /\ fixI (fun e => x.toList == e.toList) l = (i : Int)
def ybd (st : Nat) (x : Line) : Prop := (2 <= x.Stops.length /\ x.Stops.length <= 6) /\ (x.Runs.length : Int) = (x.Stops.length : Int) - 1 /\
 (∀ (i : Nat) e, x.Stops[i]? = some e -> (0 <= e /\ e < (st : Int)) /\ fixI (fun y => e == y) x.Stops = (i : Int)) /\ ∀ (i : Nat) r, x.Runs[i]? = some r -> 1 <= r /\ r <= 60
def Good (n : Network) : Prop := (2 <= n.Stops.length /\ n.Stops.length <= 8) /\ (1 <= n.Lines.length /\ n.Lines.length <= 5) /\ yct n.Stops /\ yct (n.Lines.map (·.Name)) /\ ∀ (i : Nat) x, n.Lines[i]? = some x -> ybd n.Stops.length x
noncomputable instance (l : List ByteArray) : Decidable (yct l) := Classical.propDecidable _
noncomputable instance (st : Nat) (x : Line) : Decidable (ybd st x) := Classical.propDecidable _
noncomputable instance (n : Network) : Decidable (Good n) := Classical.propDecidable _
def Bd (n : Network) : Prop := n.Stops.length <= 1000 /\ n.Lines.length <= 1000 /\ ∀ x ∈ n.Lines, x.Stops.length <= 1000 /\ x.Runs.length <= 1000
theorem yd4 (l : List ByteArray) (hl : l.length <= 1000) : zq10 l = some (decide (yct l)) := by
 unfold zq10
 rw [jdr (hd := Classical.propDecidable _) l (fun i x => ybb x /\ fixI (fun e => x.toList == e.toList) l = (i : Int)) (fun i x hx => ?_) (by unfold yfn; simp)]
 ·by_cases h : yct l
  ·rw [if_pos (show ∀ (i : Nat) x, l[i]? = some x -> ybb x /\ fixI (fun e => x.toList == e.toList) l = (i : Int) from h)]; simp [h]
  ·rw [if_neg (show ¬ ∀ (i : Nat) x, l[i]? = some x -> ybb x /\ fixI (fun e => x.toList == e.toList) l = (i : Int) from h)]; simp [h]
 ·have hi := (List.getElem?_eq_some_iff.1 hx).1
  unfold yfn
  have hlt : decide ((i : Int) < (l.length : Int)) = true := by simp; omega
  simp only [hlt, if_true, jav, hx, qb, ylv, yge l (by omega), jaj (n := i) (by omega)]
  by_cases h1 : ybb x
  ·by_cases h2 : fixI (fun e => x.toList == e.toList) l = (i : Int)
   ·left; simp [h1, h2]
   ·right; simp [h1, h2]
  ·right; simp [h1]
theorem yga (n : Network) (hl : n.Lines.length <= 1000) : zq27 n = some (n.Lines.map (·.Name)) := by
 unfold zq27
 rw [ja5 (by omega)]
 simp only [qb]
 rw [jkk (fun x : Line => x.Name) n.Lines _ (by simp) (fun i a x y ha hy hx => ?_) (fun a ha => ?_)]
 ·rfl
 ·have hi := (List.getElem?_eq_some_iff.1 hx).1
  unfold yfe
  have hlt : decide ((i : Int) < (n.Lines.length : Int)) = true := by simp; omega
  simp only [hlt, if_true, jav, hx, hy, qb, jaj (n := i) (by omega), Int.toNat_natCast]
 ·unfold yfe; simp
theorem ycf (n : Network) (e : Int) : zq25 n e = some (decide (0 <= e /\ e < (n.Stops.length : Int))) := by
 unfold zq25
 by_cases h : 0 <= e <;> simp [h]
theorem ylw (n : Network) (e : Int) : zq23 n e = some (decide (0 <= e /\ e < (n.Lines.length : Int))) := by
 unfold zq23
 by_cases h : 0 <= e <;> simp [h]
theorem yd8 (n : Network) (l : Line) (h1 : l.Stops.length <= 1000) (h2 : l.Runs.length <= 1000) : zq26 n l = some (decide (ybd n.Stops.length l)) := by
 unfold zq26
 rw [ybh]
 have e0 : w64 ((l.Stops.length : Int) - 1) = (l.Stops.length : Int) - 1 := jah (by omega)
 simp only [qb, e0]
 by_cases a1 : 2 <= l.Stops.length /\ l.Stops.length <= 6
 ·have d1 : decide ((2 : Int) <= (l.Stops.length : Int) /\ (l.Stops.length : Int) <= 6) = true := by simp; omega
  simp only [d1, Bool.not_true, Bool.false_eq_true, if_false]
  by_cases a2 : (l.Runs.length : Int) = (l.Stops.length : Int) - 1
  ·have d2 : ((l.Runs.length : Int) != (l.Stops.length : Int) - 1) = false := by simp [a2]
   simp only [d2, qb, Bool.false_eq_true, if_false]
   rw [jdr (hd := Classical.propDecidable _) l.Stops (fun i e => (0 <= e /\ e < (n.Stops.length : Int)) /\ fixI (fun y => e == y) l.Stops = (i : Int)) (fun i x hx => ?_) (by unfold yfg; simp)]
   ·rw [jdr (hd := Classical.propDecidable _) l.Runs (fun i r => 1 <= r /\ r <= 60) (fun i x hx => ?_) (by unfold yff; simp)]
    ·by_cases b1 : ∀ (i : Nat) e, l.Stops[i]? = some e -> (0 <= e /\ e < (n.Stops.length : Int)) /\ fixI (fun y => e == y) l.Stops = (i : Int)
     ·rw [if_pos b1]
      by_cases b2 : ∀ (i : Nat) r, l.Runs[i]? = some r -> 1 <= r /\ r <= 60
      ·rw [if_pos b2]
       have : ybd n.Stops.length l := ⟨a1, a2, b1, b2⟩
       simp [this]
      ·rw [if_neg b2]
       have : ¬ ybd n.Stops.length l := fun h => b2 h.2.2.2
       simp [this]
     ·rw [if_neg b1]
      have : ¬ ybd n.Stops.length l := fun h => b1 h.2.2.1
      simp [this]
    ·have hi := (List.getElem?_eq_some_iff.1 hx).1
     unfold yff
     have hlt : decide ((i : Int) < (l.Runs.length : Int)) = true := by simp; omega
     simp only [hlt, if_true, jav, hx, qb, ybh, jaj (n := i) (by omega)]
     by_cases b : 1 <= x /\ x <= 60
     ·left; simp [b]
     ·right; simp [b]
   ·have hi := (List.getElem?_eq_some_iff.1 hx).1
    unfold yfg
    have hlt : decide ((i : Int) < (l.Stops.length : Int)) = true := by simp; omega
    simp only [hlt, if_true, jav, hx, qb, ycf, ybx l.Stops (by omega), jaj (n := i) (by omega)]
    by_cases b1 : 0 <= x /\ x < (n.Stops.length : Int)
    ·by_cases b2 : fixI (fun y => x == y) l.Stops = (i : Int)
     ·left; simp [b1, b2]
     ·right; simp [b1, b2]
    ·right; simp [b1]
  ·have d2 : ((l.Runs.length : Int) != (l.Stops.length : Int) - 1) = true := by simp [a2]
   have : ¬ ybd n.Stops.length l := fun h => a2 h.2.1
   simp [d2, this]
 ·have d1 : decide ((2 : Int) <= (l.Stops.length : Int) /\ (l.Stops.length : Int) <= 6) = false := by simp; omega
  have : ¬ ybd n.Stops.length l := fun h => a1 h.1
  simp [d1, this]
theorem ylr (l : Line) (st : Nat) (hst : st <= 1000) (h1 : l.Stops.length <= 1000) (h2 : l.Runs.length <= 1000) : zq67 l (st : Int) = some (decide (ybb l.Name /\ ybd st l)) := by
 unfold zq67
 rw [ygc]
 have e0 : w64 ((l.Stops.length : Int) - 1) = (l.Stops.length : Int) - 1 := jah (by omega)
 have e1 : w64 ((st : Int) - 1) = (st : Int) - 1 := jah (by omega)
 simp only [qb, e0, ybj]
 by_cases a0 : ybb l.Name
 ·simp only [a0, decide_true, Bool.not_true, Bool.false_eq_true, if_false, true_and]
  by_cases a1 : 2 <= l.Stops.length /\ l.Stops.length <= 6
  ·have d1 : decide ((2 : Int) <= (l.Stops.length : Int) /\ (l.Stops.length : Int) <= 6) = true := by simp; omega
   simp only [d1, Bool.not_true, Bool.false_eq_true, if_false]
   by_cases a2 : (l.Runs.length : Int) = (l.Stops.length : Int) - 1
   ·have d2 : ((l.Runs.length : Int) != (l.Stops.length : Int) - 1) = false := by simp [a2]
    simp only [d2, qb, Bool.false_eq_true, if_false]
    rw [jdr (hd := Classical.propDecidable _) l.Stops (fun i e => (0 <= e /\ e < (st : Int)) /\ fixI (fun y => e == y) l.Stops = (i : Int)) (fun i x hx => ?_) (by unfold yez; simp)]
    ·rw [jdr (hd := Classical.propDecidable _) l.Runs (fun i r => 1 <= r /\ r <= 60) (fun i x hx => ?_) (by unfold yey; simp)]
     ·by_cases b1 : ∀ (i : Nat) e, l.Stops[i]? = some e -> (0 <= e /\ e < (st : Int)) /\ fixI (fun y => e == y) l.Stops = (i : Int)
      ·rw [if_pos b1]
       by_cases b2 : ∀ (i : Nat) r, l.Runs[i]? = some r -> 1 <= r /\ r <= 60
       ·rw [if_pos b2]
        have : ybd st l := ⟨a1, a2, b1, b2⟩
        simp [this]
       ·rw [if_neg b2]
        have : ¬ ybd st l := fun h => b2 h.2.2.2
        simp [this]
      ·rw [if_neg b1]
       have : ¬ ybd st l := fun h => b1 h.2.2.1
       simp [this]
     ·have hi := (List.getElem?_eq_some_iff.1 hx).1
      unfold yey
      have hlt : decide ((i : Int) < (l.Runs.length : Int)) = true := by simp; omega
      simp only [hlt, if_true, jav, hx, qb, ybj, jaj (n := i) (by omega)]
      by_cases b : 1 <= x /\ x <= 60
      ·left; simp [b]
      ·right; simp [b]
    ·have hi := (List.getElem?_eq_some_iff.1 hx).1
     unfold yez
     have hlt : decide ((i : Int) < (l.Stops.length : Int)) = true := by simp; omega
     simp only [hlt, if_true, jav, hx, qb, ybj, e1, yb0 l (by omega), jaj (n := i) (by omega)]
     by_cases b1 : 0 <= x /\ x < (st : Int)
     ·have d3 : decide (0 <= x /\ x <= (st : Int) - 1) = true := by simp; omega
      by_cases b2 : fixI (fun y => x == y) l.Stops = (i : Int)
      ·left; simp only [d3]; simp [b1, b2]
      ·right; simp only [d3]; simp [b1, b2]
     ·have d3 : decide (0 <= x /\ x <= (st : Int) - 1) = false := by simp; omega
      right; simp only [d3]; simp [b1]
   ·have d2 : ((l.Runs.length : Int) != (l.Stops.length : Int) - 1) = true := by simp [a2]
    have : ¬ ybd st l := fun h => a2 h.2.1
    simp [d2, this]
  ·have d1 : decide ((2 : Int) <= (l.Stops.length : Int) /\ (l.Stops.length : Int) <= 6) = false := by simp; omega
   have : ¬ ybd st l := fun h => a1 h.1
   simp [d1, this]
 ·simp [a0]
theorem ymt (n : Network) (h : Bd n) : zq5 n = some (decide (Good n)) := by
 obtain ⟨h1, h2, h3⟩ := h
 unfold zq5
 simp only [ybh, qb, yd4 n.Stops h1, yga n h2, yd4 (n.Lines.map (·.Name)) (by simpa using h2)]
 by_cases a1 : 2 <= n.Stops.length /\ n.Stops.length <= 8
 ·have d1 : decide ((2 : Int) <= (n.Stops.length : Int) /\ (n.Stops.length : Int) <= 8) = true := by simp; omega
  simp only [d1, Bool.not_true, Bool.false_eq_true, if_false]
  by_cases a2 : 1 <= n.Lines.length /\ n.Lines.length <= 5
  ·have d2 : decide ((1 : Int) <= (n.Lines.length : Int) /\ (n.Lines.length : Int) <= 5) = true := by simp; omega
   simp only [d2, Bool.not_true, Bool.false_eq_true, if_false]
   by_cases a3 : yct n.Stops
   ·simp only [a3, decide_true, Bool.not_true, Bool.false_eq_true, if_false]
    by_cases a4 : yct (n.Lines.map (·.Name))
    ·simp only [a4, decide_true, Bool.not_true, qb, Bool.false_eq_true, if_false]
     rw [jdr (hd := Classical.propDecidable _) n.Lines (fun i x => ybd n.Stops.length x) (fun i x hx => ?_) (by unfold yig; simp)]
     ·by_cases b1 : ∀ (i : Nat) x, n.Lines[i]? = some x -> ybd n.Stops.length x
      ·rw [if_pos b1]
       have : Good n := ⟨a1, a2, a3, a4, b1⟩
       simp [this]
      ·rw [if_neg b1]
       have : ¬ Good n := fun h => b1 h.2.2.2.2
       simp [this]
     ·have hi := (List.getElem?_eq_some_iff.1 hx).1
      obtain ⟨g1, g2⟩ := h3 x (List.mem_of_getElem? hx)
      unfold yig
      have hlt : decide ((i : Int) < (n.Lines.length : Int)) = true := by simp; omega
      simp only [hlt, if_true, jav, hx, qb, yd8 n x g1 g2, jaj (n := i) (by omega)]
      by_cases b : ybd n.Stops.length x
      ·left; simp [b]
      ·right; simp [b]
    ·have : ¬ Good n := fun h => a4 h.2.2.2.1
     simp [a4, this]
   ·have : ¬ Good n := fun h => a3 h.2.2.1
    simp [a3, this]
  ·have d2 : decide ((1 : Int) <= (n.Lines.length : Int) /\ (n.Lines.length : Int) <= 5) = false := by simp; omega
   have : ¬ Good n := fun h => a2 h.2.1
   simp [d2, this]
 ·have d1 : decide ((2 : Int) <= (n.Stops.length : Int) /\ (n.Stops.length : Int) <= 8) = false := by simp; omega
  have : ¬ Good n := fun h => a1 h.1
  simp [d1, this]
theorem yp4 (n : Network) (h : Bd n) : zq66 n = some (decide (Good n)) := by
 obtain ⟨h1, h2, h3⟩ := h
 unfold zq66
 simp only [ybj, qb]
 by_cases a1 : 2 <= n.Stops.length /\ n.Stops.length <= 8
 ·have d1 : decide ((2 : Int) <= (n.Stops.length : Int) /\ (n.Stops.length : Int) <= 8) = true := by simp; omega
  simp only [d1, Bool.not_true, Bool.false_eq_true, if_false]
  by_cases a2 : 1 <= n.Lines.length /\ n.Lines.length <= 5
  ·have d2 : decide ((1 : Int) <= (n.Lines.length : Int) /\ (n.Lines.length : Int) <= 5) = true := by simp; omega
   simp only [d2, Bool.not_true, qb, Bool.false_eq_true, if_false]
   rw [jdr (hd := Classical.propDecidable _) n.Stops (fun i x => ybb x /\ fixI (fun e => x.toList == e.toList) n.Stops = (i : Int)) (fun i x hx => ?_) (by unfold ye1; simp)]
   ·rw [jdr (hd := Classical.propDecidable _) n.Lines (fun i x => (ybb x.Name /\ ybd n.Stops.length x) /\ fixI (fun e => x.Name.toList == e.toList) (n.Lines.map (·.Name)) = (i : Int)) (fun i x hx => ?_) (by unfold ye0; simp)]
    ·by_cases b1 : yct n.Stops
     ·rw [if_pos (show ∀ (i : Nat) x, n.Stops[i]? = some x -> ybb x /\ fixI (fun e => x.toList == e.toList) n.Stops = (i : Int) from b1)]
      by_cases b2 : ∀ (i : Nat) x, n.Lines[i]? = some x -> (ybb x.Name /\ ybd n.Stops.length x) /\ fixI (fun e => x.Name.toList == e.toList) (n.Lines.map (·.Name)) = (i : Int)
      ·rw [if_pos b2]
       have : Good n := ⟨a1, a2, b1, fun i y hy => by
        rw [List.getElem?_map] at hy
        obtain ⟨x, hx, rfl⟩ := Option.map_eq_some_iff.1 hy
        exact ⟨(b2 i x hx).1.1, (b2 i x hx).2⟩, fun i x hx => (b2 i x hx).1.2⟩
       simp [this]
      ·rw [if_neg b2]
       have : ¬ Good n := fun h => b2 fun i x hx => by
        have h4 := h.2.2.2.1 i x.Name (by rw [List.getElem?_map, hx]; rfl)
        exact ⟨⟨h4.1, h.2.2.2.2 i x hx⟩, h4.2⟩
       simp [this]
     ·rw [if_neg (show ¬ ∀ (i : Nat) x, n.Stops[i]? = some x -> ybb x /\ fixI (fun e => x.toList == e.toList) n.Stops = (i : Int) from b1)]
      have : ¬ Good n := fun h => b1 h.2.2.1
      simp [this]
    ·have hi := (List.getElem?_eq_some_iff.1 hx).1
     obtain ⟨g1, g2⟩ := h3 x (List.mem_of_getElem? hx)
     unfold ye0
     have hlt : decide ((i : Int) < (n.Lines.length : Int)) = true := by simp; omega
     simp only [hlt, if_true, jav, hx, qb, ylr x n.Stops.length h1 g1 g2, yd7 n (by omega), jaj (n := i) (by omega)]
     by_cases b1 : ybb x.Name /\ ybd n.Stops.length x
     ·by_cases b2 : fixI (fun e => x.Name.toList == e.toList) (n.Lines.map (·.Name)) = (i : Int)
      ·left; simp [b1, b2]
      ·right; simp [b1, b2]
     ·right; simp [b1]
   ·have hi := (List.getElem?_eq_some_iff.1 hx).1
    unfold ye1
    have hlt : decide ((i : Int) < (n.Stops.length : Int)) = true := by simp; omega
    simp only [hlt, if_true, jav, hx, qb, ygc, yls n.Stops (by omega), jaj (n := i) (by omega)]
    by_cases b1 : ybb x
    ·by_cases b2 : fixI (fun e => x.toList == e.toList) n.Stops = (i : Int)
     ·left; simp [b1, b2]
     ·right; simp [b1, b2]
    ·right; simp [b1]
  ·have d2 : decide ((1 : Int) <= (n.Lines.length : Int) /\ (n.Lines.length : Int) <= 5) = false := by simp; omega
   have : ¬ Good n := fun h => a2 h.2.1
   simp [d2, this]
 ·have d1 : decide ((2 : Int) <= (n.Stops.length : Int) /\ (n.Stops.length : Int) <= 8) = false := by simp; omega
  have : ¬ Good n := fun h => a1 h.1
  simp [d1, this]
theorem yi6 (l : List Int) (h : l.length <= 1000) : zq62 l = some l := by
 unfold zq62
 rw [ja5 (by simp; omega)]; rfl
theorem ym7 (n : Network) (h : Bd n) : zq70 n = some n := by
 obtain ⟨h1, h2, h3⟩ := h
 unfold zq70
 rw [ja5 (by simp; omega)]
 simp only [qb]
 rw [jq3 (fun x : Line => x) n.Lines (fun i a x ha hx => ?_) (fun a ha => ?_)]
 ·simp only [qb, List.map_id', List.nil_append]
 ·have hi := (List.getElem?_eq_some_iff.1 hx).1
  obtain ⟨g1, g2⟩ := h3 x (List.mem_of_getElem? hx)
  unfold yew
  have hlt : decide ((i : Int) < (n.Lines.length : Int)) = true := by simp; omega
  have hch : ∀ y : Line, chk (a.length + ([y] : List Line).length <= 4294967296) = some () := fun y => ja5 (by simp; omega)
  simp only [hlt, if_true, jav, hx, qb, yi6 _ g1, yi6 _ g2, hch, jaj (n := i) (by omega)]
 ·unfold yew; simp
theorem yjp (n : Network) (h : Bd n) : zq71 n = some n := by
 have : zq71 n = zq70 n := rfl
 rw [this]; exact ym7 n h
theorem ylt (s : List Int) (hs : s.length <= 1000) : zq63 s = some s.reverse := by
 unfold zq63
 have e0 : w64 ((s.length : Int) - 1) = (s.length : Int) - 1 := jah (by omega)
 rw [e0]
 have h := jbu (step := ye3 s) (fun m a => ∃ j : Nat, a.1 = (s.length : Int) - 1 - j /\ m + j = s.length /\ a.2 = s.reverse.take j) (fun b => b = s.reverse) ?_ (k := s.length) (a := ((s.length : Int) - 1, [])) ⟨0, by simp, by omega, by simp⟩
 ·obtain ⟨b, hb, rfl⟩ := h
  rw [hb]; rfl
 rintro m ⟨v, i⟩ ⟨j, hv, hm, hi⟩
 simp only at hv hi
 subst hv
 by_cases hlt : j < s.length
 ·left
  have ev : (s.length : Int) - 1 - j = ((s.length - 1 - j : Nat) : Int) := by omega
  rw [ev]
  obtain ⟨e, he⟩ := ja9 (l := s) (i := s.length - 1 - j) (by omega)
  have hd : decide ((0 : Int) <= ((s.length - 1 - j : Nat) : Int)) = true := by simp
  have hlen : i.length = j := by rw [hi]; simp; omega
  have hch : chk (i.length + ([e] : List Int).length <= 4294967296) = some () := ja5 (by simp; omega)
  have ev2 : w64 (((s.length - 1 - j : Nat) : Int) - 1) = (s.length : Int) - 1 - ((j + 1 : Nat) : Int) := by rw [jah (by omega)]; omega
  refine ⟨((s.length : Int) - 1 - ((j + 1 : Nat) : Int), i ++ [e]), m - 1, ?_, by omega, j + 1, rfl, by omega, ?_⟩
  ·unfold ye3
   simp only [hd, if_true, jav, he, hch, qb, ev2]
  ·show i ++ [e] = _
   rw [jcs (x := e) (by rw [List.getElem?_reverse hlt]; exact he), hi]
 ·right
  have ej : j = s.length := by omega
  subst ej
  have hd : decide ((0 : Int) <= (s.length : Int) - 1 - (s.length : Int)) = false := by simp; omega
  refine ⟨i, by unfold ye3; simp only [hd, Bool.false_eq_true, if_false], ?_⟩
  rw [hi, List.take_of_length_le (by simp)]
theorem yeg (s : List Int) (hs : s.length <= 1000) : zq64 s = some s.reverse := ylt s hs
def LB (x : Line) : Prop := (2 <= x.Stops.length /\ x.Stops.length <= 10) /\ 1 <= x.Runs.length /\ x.Runs.length <= 10
def NB (n : Network) : Prop := (2 <= n.Stops.length /\ n.Stops.length <= 6) /\ (1 <= n.Lines.length /\ n.Lines.length <= 8) /\ ∀ x ∈ n.Lines, LB x
theorem NB.bd {n : Network} (h : NB n) : Bd n := ⟨by have := h.1; omega, by have := h.2.1; omega, fun x hx => by have := h.2.2 x hx; unfold LB at this; omega⟩
theorem yi7 (n : Int) (h0 : 0 <= n) (h1 : n < 10) : ∃ r, zq60 n = some r /\ r.size <= 10 := by
 have e : zq60 n = ydo (yie 4294967295) n := rfl
 rw [e]
 unfold ydo
 have d1 : decide (n < 0) = false := by simp; omega
 have d2 : decide (n < 10) = true := by simp; omega
 have e1 : w64 (n + 1) = n + 1 := jah (by omega)
 have hs : (str [48, 49, 50, 51, 52, 53, 54, 55, 56, 57]).size = 10 := rfl
 simp only [d1, d2, Bool.false_eq_true, if_false, if_true, e1, hs]
 rw [ja5 (by omega)]
 refine ⟨_, rfl, ?_⟩
 rw [ByteArray.size_extract, hs]
 omega
theorem yln {k : Nat} {c : l1Cur} (name : ByteArray) (stops : Int) (hs : 2 <= stops /\ stops <= 1000) (h : Cur k c) (hk : k <= 1000000000) : ∃ r, zq45 c name stops = some r /\ Cur (k + 40) r.2 /\ LB r.1 := by
 unfold zq45
 obtain ⟨r, hr, hc, h0, h1⟩ := ya2 stops h (by omega)
 obtain ⟨r1, hr1, hc1, h10, h11⟩ := ya2 3 hc (by omega)
 simp only [hr, hr1, qb]
 have e1 : w64 (2 + r1.1) = ((2 + r1.1.toNat : Nat) : Int) := by rw [jah (by omega)]; omega
 rw [e1]
 have loop : ∃ b, iter (ye6 name stops) (r.1, ((2 + r1.1.toNat : Nat) : Int), r1.2.code_, r1.2.at_, r1.2.seed_.v, []) = some b /\ (Cur (k + 4 + 2 * 4) ⟨b.1, b.2.1, ⟨b.2.2.1⟩⟩ /\ 1 <= b.2.2.2.length /\ b.2.2.2.length <= 4) := by
  refine jbu (fun m a => (0 <= a.1 /\ a.1 < stops) /\ a.2.1 = (m : Int) /\ m + a.2.2.2.2.2.length <= 4 /\ (1 <= m \/ 1 <= a.2.2.2.2.2.length) /\ Cur (k + 4 + 2 * (4 - m)) ⟨a.2.2.1, a.2.2.2.1, ⟨a.2.2.2.2.1⟩⟩) _ ?_ (k := 2 + r1.1.toNat) ⟨⟨h0, by show r.1 < stops; omega⟩, rfl, by simp; omega, .inl (by omega), hc1.mono (by omega)⟩
  rintro m ⟨v, v1, v2, v3, v4, v5⟩ ⟨hv, hv1, hl, hne, hcur⟩
  simp only at hv hv1 hl hne hcur
  subst hv1
  unfold ye6
  cases m with
  | zero => right; exact ⟨_, by simp; rfl, hcur, by show 1 <= v5.length; omega, by show v5.length <= 4; omega⟩
  | succ m =>
   left
   have hpos : decide ((0 : Int) < ((m + 1 : Nat) : Int)) = true := by simp
   obtain ⟨r3, hr3, hc3, h30, h31⟩ := ya2 2 hcur (by omega)
   have hpl := yb0 (⟨name, v5, []⟩ : Line) (by show v5.length <= _; omega) v
   have hch : chk (v5.length + ([v] : List Int).length <= 4294967296) = some () := ja5 (by simp; omega)
   have hne0 : chk (stops ≠ 0) = some () := ja5 (by omega)
   have w1 : w64 (v + 1) = v + 1 := jah (by omega)
   have w2 : w64 (v + 1 + r3.1) = v + 1 + r3.1 := jah (by omega)
   have ht := jiq (a := v + 1 + r3.1) (b := stops) (by omega) (by omega)
   simp only [hpos, if_true, hpl, hch, hr3, hne0, w1, w2, qb]
   have w3 : w64 (((m + 1 : Nat) : Int) - 1) = (m : Int) := jlw (by omega)
   split
   ·refine ⟨_, m, by simp only [qb]; rfl, by omega, ht, w3, ?_, .inr ?_, ?_⟩
    ·simp; omega
    ·simp
    ·exact hc3.mono (by omega)
   ·rename_i hn
    refine ⟨_, m, by simp only [qb]; rfl, by omega, ht, w3, ?_, .inr ?_, ?_⟩
    ·show m + v5.length <= 4; omega
    ·show 1 <= v5.length
     cases v5 with
     | nil => simp [fixI] at hn
     | cons a l => simp
    ·exact hc3.mono (by omega)
 obtain ⟨⟨v7, v8, v9, v10⟩, hb, hcb, hlb⟩ := loop
 simp only at hcb hlb
 rw [hb]
 simp only [qb]
 -- at least two stops
 have two : ∃ v11 : List Int, (if decide ((v10.length : Int) < 2) = true then (idx v10 0).bind fun e1 => (chk ((stops : Int) ≠ 0)).bind fun u4 => (chk (v10.length + ([((w64 (e1 + 1)).tmod stops)] : List Int).length <= 4294967296)).bind fun u5 => some (v10 ++ ([((w64 (e1 + 1)).tmod stops)] : List Int)) else some v10) = some v11 /\ 2 <= v11.length /\ v11.length <= 5 := by
  by_cases h2 : (v10.length : Int) < 2
  ·obtain ⟨e, he, _⟩ := jc5 (l := v10) (i := 0) (by omega) (by omega)
   have hch : ∀ y : Int, chk (v10.length + ([y] : List Int).length <= 4294967296) = some () := fun y => ja5 (by simp; omega)
   have hne0 : chk (stops ≠ 0) = some () := ja5 (by omega)
   refine ⟨v10 ++ [(w64 (e + 1)).tmod stops], by simp only [h2, decide_true, if_true, he, hne0, hch, qb], ?_, ?_⟩
   ·simp; omega
   ·simp; omega
  ·exact ⟨v10, by simp [h2], by omega, by omega⟩
 obtain ⟨v11, hv11, l1, l2⟩ := two
 rw [hv11]
 simp only [qb]
 have loop2 : ∃ b, iter (ye5 v11) (1, v7, v8, v9, []) = some b /\ (Cur (k + 40) ⟨b.1, b.2.1, ⟨b.2.2.1⟩⟩ /\ b.2.2.2.length + 1 = v11.length) := by
  refine jbu (fun m a => ∃ i : Nat, a.1 = (i : Int) /\ m + i = v11.length /\ a.2.2.2.2.length + 1 = i /\ Cur (k + 12 + 2 * i) ⟨a.2.1, a.2.2.1, ⟨a.2.2.2.1⟩⟩) _ ?_ (k := v11.length - 1) ⟨1, rfl, by omega, rfl, hcb.mono (by omega)⟩
  rintro m ⟨v12, v13, v14, v15, v16⟩ ⟨i, hi, hm, hl, hcur⟩
  simp only at hi hl hcur
  subst hi
  unfold ye5
  by_cases hlt : i < v11.length
  ·left
   have hd : decide ((i : Int) < (v11.length : Int)) = true := by simp; omega
   obtain ⟨r5, hr5, hc5, _⟩ := ya2 12 hcur (by omega)
   have hch : ∀ y : Int, chk (v16.length + ([y] : List Int).length <= 4294967296) = some () := fun y => ja5 (by simp; omega)
   refine ⟨_, m - 1, by simp only [hd, if_true, hr5, hch, qb, jaj (n := i) (by omega)]; rfl, by omega, i + 1, rfl, by omega, ?_, ?_⟩
   ·simp; omega
   ·exact hc5.mono (by omega)
  ·right
   have hd : decide ((i : Int) < (v11.length : Int)) = false := by simp; omega
   refine ⟨_, by simp only [hd, Bool.false_eq_true, if_false]; rfl, ?_, ?_⟩
   ·exact hcur.mono (by omega)
   ·show v16.length + 1 = _; omega
 obtain ⟨⟨v17, v18, v19, v20⟩, hb2, hcb2, hl2⟩ := loop2
 simp only at hcb2 hl2
 rw [hb2]
 simp only [qb]
 exact ⟨_, rfl, hcb2, ⟨l1, by show v11.length <= 10; omega⟩, by show 1 <= v20.length; omega, by show v20.length <= 10; omega⟩
theorem ym0 {k : Nat} {c : l1Cur} (name : ByteArray) (stops : Int) (hs : 2 <= stops /\ stops <= 1000) (h : Cur k c) (hk : k <= 1000000000) : ∃ r, zq46 c name stops = some r /\ Cur (k + 40) r.2 /\ LB r.1 := yln name stops hs h hk
theorem ypr (i : Nat) (h2 : 2 <= i) (h6 : i <= 6) (l : List ByteArray) (hl : l.length = 6) : 2 <= ((l.take i).drop (0 : Int).toNat).length /\ ((l.take i).drop (0 : Int).toNat).length <= 6 := by
 simp; omega
theorem yb7 {k : Nat} {c : l1Cur} (h : Cur k c) (hk : k <= 500000000) : ∃ r, zq48 c = some r /\ Cur (k + 300) r.2 /\ NB r.1 := by
 unfold zq48
 obtain ⟨r, hr, hc, h0, h1⟩ := ya2 5 h (by omega)
 have e1 : w64 (2 + r.1) = 2 + r.1 := jah (by omega)
 have hsix : ([(str [112, 111, 114, 116]), (str [109, 105, 108, 108]), (str [112, 97, 114, 107]), (str [104, 97, 108, 108]), (str [100, 111, 99, 107]), (str [102, 97, 105, 114])] : List ByteArray).length = 6 := rfl
 simp only [hr, qb, e1, hsix]
 rw [ja5 (by omega)]
 obtain ⟨r1, hr1, hc1, h10, h11⟩ := ya2 3 hc (by omega)
 have e2 : w64 (1 + r1.1) = ((1 + r1.1.toNat : Nat) : Int) := by rw [jah (by omega)]; omega
 simp only [hr1, qb, e2]
 have loop : ∃ b, iter (ye4 r) (((1 + r1.1.toNat : Nat) : Int), r1.2.code_, r1.2.at_, r1.2.seed_.v, []) = some b /\ (Cur (k + 4 + 40 * 3) ⟨b.1, b.2.1, ⟨b.2.2.1⟩⟩ /\ (1 <= b.2.2.2.length /\ b.2.2.2.length <= 3) /\ ∀ x ∈ b.2.2.2, LB x) := by
  refine jbu (fun m a => a.1 = (m : Int) /\ m + a.2.2.2.2.length <= 3 /\ 1 <= m + a.2.2.2.2.length /\ (∀ x ∈ a.2.2.2.2, LB x) /\ Cur (k + 4 + 40 * (3 - m)) ⟨a.2.1, a.2.2.1, ⟨a.2.2.2.1⟩⟩) _ ?_ (k := 1 + r1.1.toNat) ⟨rfl, by simp; omega, by simp, by simp, hc1.mono (by omega)⟩
  rintro m ⟨x, v, v1, v2, v3⟩ ⟨hx, hl, hl1, hlb, hcur⟩
  simp only at hx hl hl1 hlb hcur
  subst hx
  unfold ye4
  cases m with
  | zero => right; exact ⟨_, by simp; rfl, hcur, ⟨by show 1 <= v3.length; omega, by show v3.length <= 3; omega⟩, hlb⟩
  | succ m =>
   left
   have hpos : decide ((0 : Int) < ((m + 1 : Nat) : Int)) = true := by simp
   obtain ⟨r4, hr4, hs4⟩ := yi7 ((m + 1 : Nat) : Int) (by omega) (by omega)
   have hs : (str [108]).size = 1 := rfl
   have hch : chk ((str [108]).size + r4.size <= 4294967296) = some () := ja5 (by omega)
   obtain ⟨r5, hr5, hc5, hb5⟩ := ym0 (str [108] ++ r4) (2 + r.1) (by omega) hcur (by omega)
   have hch2 : ∀ y : Line, chk (v3.length + ([y] : List Line).length <= 4294967296) = some () := fun y => ja5 (by simp; omega)
   refine ⟨_, m, by simp only [hpos, if_true, hr4, hch, e1, hr5, hch2, qb]; rfl, by omega, ?_, ?_, ?_, ?_, ?_⟩
   ·exact jlw (by omega)
   ·simp; omega
   ·simp; omega
   ·intro y hy
    rcases List.mem_append.1 hy with hy | hy
    ·exact hlb y hy
    ·simp at hy; subst hy; exact hb5
   ·exact hc5.mono (by omega)
 obtain ⟨⟨v4, v5, v6, v7⟩, hb, hcb, hlb, hall⟩ := loop
 simp only at hcb hlb hall
 rw [hb]
 simp only [qb]
 obtain ⟨r6, hr6, hc6⟩ := yll 2 hcb (by omega)
 simp only [hr6, qb]
 have fin : ∀ (v8 : List UInt8) (v9 v10 : Int) (v11 : List Line), Cur (k + 200) ⟨v8, v9, ⟨v10⟩⟩ -> (1 <= v11.length /\ v11.length <= 8) -> (∀ x ∈ v11, LB x) ->
   ∃ r', ((zq71 (⟨((([(str [112, 111, 114, 116]), (str [109, 105, 108, 108]), (str [112, 97, 114, 107]), (str [104, 97, 108, 108]), (str [100, 111, 99, 107]), (str [102, 97, 105, 114])] : List ByteArray).take (2 + r.1).toNat).drop (0 : Int).toNat), v11⟩ : Network)).bind fun r11 => some ((⟨r11.Stops, r11.Lines⟩ : Network), (⟨v8, v9, (⟨v10⟩ : IK .u64)⟩ : l1Cur))) = some r' /\ Cur (k + 300) r'.2 /\ NB r'.1 := by
  intro v8 v9 v10 v11 g1 g2 g3
  have hst := ypr (2 + r.1).toNat (by omega) (by omega) _ hsix
  have hnb : NB (⟨((([(str [112, 111, 114, 116]), (str [109, 105, 108, 108]), (str [112, 97, 114, 107]), (str [104, 97, 108, 108]), (str [100, 111, 99, 107]), (str [102, 97, 105, 114])] : List ByteArray).take (2 + r.1).toNat).drop (0 : Int).toNat), v11⟩ : Network) := ⟨hst, g2, g3⟩
  rw [yjp _ hnb.bd]
  exact ⟨_, rfl, g1.mono (by omega), hnb⟩
 split
 ·obtain ⟨e, he, _, hem⟩ := jc5 (l := v7) (i := 0) (by omega) (by omega)
  obtain ⟨g1, g2⟩ := hall e hem
  have hch2 : ∀ y : Line, chk (v7.length + ([y] : List Line).length <= 4294967296) = some () := fun y => ja5 (by simp; omega)
  simp only [he, yeg e.Stops (by omega), yeg e.Runs (by omega), hch2, qb]
  refine fin _ _ _ _ (hc6.mono (by omega)) (by simp; omega) fun y hy => ?_
  rcases List.mem_append.1 hy with hy | hy
  ·exact hall y hy
  ·simp at hy; subst hy
   exact ⟨by simpa using g1, by simpa using g2⟩
 ·simp only [qb]
  exact fin _ _ _ _ (hc6.mono (by omega)) (by omega) hall
theorem yfu {k : Nat} {c : l1Cur} (h : Cur k c) (hk : k <= 200000000) : ∃ r, zq42 c = some r /\ Cur (k + 1000) r.2 /\ Bd r.1 := by
 unfold zq42
 obtain ⟨r, hr, hc, hnb⟩ := yb7 h (by omega)
 obtain ⟨n1, n2, n3⟩ := hnb
 obtain ⟨r1, hr1, hc1, h10, h11⟩ := ya2 (r.1.Lines.length : Int) hc (by omega)
 obtain ⟨e, he, he2, hem⟩ := jc5 (l := r.1.Lines) (i := r1.1) h10 (by omega)
 obtain ⟨g1, g2⟩ := n3 e hem
 obtain ⟨r2, hr2, hc2, _⟩ := ya2 24 hc1 (by omega)
 simp only [hr, hr1, he, hr2, qb]
 have fin : ∀ (v : List UInt8) (v1 v2 : Int) (v3 : ByteArray) (v4 : List ByteArray) (v5 : List Line) (v6 : List Int), Cur (k + 900) ⟨v, v1, ⟨v2⟩⟩ -> v4.length <= 6 -> v5.length = r.1.Lines.length -> (∀ x ∈ v5, LB x) -> v6.length <= 11 ->
   ∃ r', ((idx v5 r1.1).bind fun e9 => some ((⟨v4, (v5.set r1.1.toNat (⟨v3, e9.Stops, v6⟩ : Line))⟩ : Network), (⟨v, v1, (⟨v2⟩ : IK .u64)⟩ : l1Cur))) = some r' /\ Cur (k + 1000) r'.2 /\ Bd r'.1 := by
  intro v v1 v2 v3 v4 v5 v6 q1 q2 q3 q4 q5
  obtain ⟨e9, he9, _, hm9⟩ := jc5 (l := v5) (i := r1.1) h10 (by omega)
  rw [he9]
  refine ⟨_, rfl, q1.mono (by omega), by show v4.length <= _; omega, by simp; omega, fun x hx => ?_⟩
  rcases List.mem_or_eq_of_mem_set hx with hx | hx
  ·have := q4 x hx
   unfold LB at this; omega
  ·subst hx
   have := q4 e9 hm9
   unfold LB at this
   exact ⟨by show e9.Stops.length <= _; omega, by show v6.length <= _; omega⟩
 split
 ·obtain ⟨r4, hr4, hc4, _⟩ := ynp ([(str [109, 105, 108, 108]), (str []), (str [65]), (str [97, 98, 99, 100, 101, 102, 103, 104]), (str [97, 98, 99, 100, 101, 102, 103, 104, 105])] : List ByteArray) (by simp) hc2 (by omega)
  obtain ⟨e2, he2', _⟩ := jc5 (l := r.1.Stops) (i := 0) (by omega) (by omega)
  simp only [hr4, he2', qb, jc6]
  exact fin _ _ _ _ _ _ _ (hc4.mono (by omega)) (by simp; omega) rfl n3 (by omega)
 split
 ·obtain ⟨r5, hr5, hc5, _⟩ := ynp ([(str [114, 49]), (str [108, 49]), (str []), (str [88])] : List ByteArray) (by simp) hc2 (by omega)
  simp only [hr5, qb, jc6]
  exact fin _ _ _ _ _ _ _ (hc5.mono (by omega)) (by omega) rfl n3 (by omega)
 split
 ·obtain ⟨r8, hr8, hc8, h80, h81⟩ := ya2 (e.Stops.length : Int) hc2 (by omega)
  obtain ⟨r9, hr9, hc9, _⟩ := ya2 10 hc8 (by omega)
  obtain ⟨e4, he4, _⟩ := jc5 (l := e.Stops) (i := r8.1) h80 (by omega)
  simp only [hr8, hr9, he4, qb, jc6]
  refine fin _ _ _ _ _ _ _ (hc9.mono (by omega)) (by omega) (by simp) (fun x hx => ?_) (by show e.Runs.length <= 11; omega)
  rcases List.mem_or_eq_of_mem_set hx with hx | hx
  ·exact n3 x hx
  ·subst hx; exact ⟨by simpa using g1, g2⟩
 split
 ·obtain ⟨r12, hr12, hc12, h120, h121⟩ := ya2 (e.Runs.length : Int) hc2 (by omega)
  obtain ⟨r13, hr13, hc13, _⟩ := ygi ([0, 60, 61, (-1)] : List Int) (by simp) hc12 (by omega)
  obtain ⟨e6, he6, _⟩ := jc5 (l := e.Runs) (i := r12.1) h120 (by omega)
  simp only [hr12, hr13, he6, qb, jc6]
  refine fin _ _ _ _ _ _ _ (hc13.mono (by omega)) (by omega) (by simp) (fun x hx => ?_) (by simp; omega)
  rcases List.mem_or_eq_of_mem_set hx with hx | hx
  ·exact n3 x hx
  ·subst hx; exact ⟨g1, by simpa using g2⟩
 split
 ·have hch : chk (e.Runs.length + ([3] : List Int).length <= 4294967296) = some () := ja5 (by simp; omega)
  simp only [hch, qb, jc6]
  exact fin _ _ _ _ _ _ _ (hc2.mono (by omega)) (by omega) rfl n3 (by simp; omega)
 split
 ·simp only [jc9]
  exact ⟨_, rfl, hc2.mono (by omega), by show r.1.Stops.length <= _; omega, by simp, by simp⟩
 split
 ·have loop : ∃ b, iter (ye7 r) (0, r2.2.code_, r2.2.at_, r2.2.seed_.v, r.1.Lines) = some b /\ (Cur (k + 900) ⟨b.1, b.2.1, ⟨b.2.2.1⟩⟩ /\ b.2.2.2.length <= 20 /\ ∀ x ∈ b.2.2.2, LB x) := by
   refine jbu (fun m a => ∃ i : Nat, a.1 = (i : Int) /\ m + i = 8 /\ i <= 7 /\ a.2.2.2.2.length <= 8 + i /\ (∀ x ∈ a.2.2.2.2, LB x) /\ Cur (k + 310 + 50 * i) ⟨a.2.1, a.2.2.1, ⟨a.2.2.2.1⟩⟩) _ ?_ (k := 8) ⟨0, rfl, rfl, by omega, by simpa using n2.2, n3, hc2.mono (by omega)⟩
   rintro m ⟨v7, v8, v9, v10, v11⟩ ⟨i, hi, hm, hi7, hl, hlb, hcur⟩
   simp only at hi hl hlb hcur
   subst hi
   unfold ye7
   obtain ⟨r16, hr16, hc16, h160, h161⟩ := ya2 2 hcur (by omega)
   have w1 : w64 (5 + r16.1) = 5 + r16.1 := jah (by omega)
   simp only [hr16, w1, qb]
   by_cases a1 : (v11.length : Int) < 5 + r16.1 /\ (i : Int) < 7
   ·left
    have d1 : decide ((v11.length : Int) < 5 + r16.1) = true := by simp; omega
    have d2 : decide ((i : Int) < 7) = true := by simp; omega
    obtain ⟨r19, hr19, hs19⟩ := yi7 (i : Int) (by omega) (by omega)
    have hs : (str [120]).size = 1 := rfl
    have hch : chk ((str [120]).size + r19.size <= 4294967296) = some () := ja5 (by omega)
    obtain ⟨r20, hr20, hc20, hb20⟩ := yln (str [120] ++ r19) (r.1.Stops.length : Int) (by omega) hc16 (by omega)
    have hch2 : ∀ y : Line, chk (v11.length + ([y] : List Line).length <= 4294967296) = some () := fun y => ja5 (by simp; omega)
    refine ⟨_, m - 1, by simp only [d1, d2, if_true, hr19, hch, hr20, hch2, qb, jaj (n := i) (by omega)]; rfl, by omega, i + 1, rfl, by omega, by omega, ?_, fun x hx => ?_, ?_⟩
    ·simp; omega
    ·rcases List.mem_append.1 hx with hx | hx
     ·exact hlb x hx
     ·simp at hx; subst hx; exact hb20
    ·exact hc20.mono (by omega)
   ·right
    have hcond : (if decide ((v11.length : Int) < 5 + r16.1) = true then some (decide ((i : Int) < 7)) else some false) = some false := by
     by_cases b1 : (v11.length : Int) < 5 + r16.1
     ·have : decide ((i : Int) < 7) = false := by simp; omega
      simp [b1, this]
     ·simp [b1]
    refine ⟨_, by simp only [hcond, qb, Bool.false_eq_true, if_false]; rfl, ?_, ?_, hlb⟩
    ·exact hc16.mono (by omega)
    ·show v11.length <= 20; omega
  obtain ⟨⟨v13, v14, v15, v16⟩, hb, hcb, hlb, hall⟩ := loop
  simp only at hcb hlb hall
  rw [hb]
  simp only [qb, jc9]
  refine ⟨_, rfl, hcb.mono (by omega), by show r.1.Stops.length <= _; omega, by show v16.length <= _; omega, fun x hx => ?_⟩
  have := hall x hx
  unfold LB at this; omega
 ·simp only [jc6]
  exact fin _ _ _ _ _ _ _ (hc2.mono (by omega)) (by omega) rfl n3 (by omega)
def TB (t : Timetable) : Prop := Bd t.Network /\ t.Trips.length <= 1000
def yci (n : Network) (x : Trip) : Prop := (1 <= x.Id /\ x.Id <= 999) /\ ∃ l, idx n.Lines x.Line = some l /\ (0 <= x.Start /\ x.Start <= 1799) /\ 0 <= x.Start + l.Runs.sum /\ x.Start + l.Runs.sum <= 1799
def ya4 (t : Timetable) : Prop := Good t.Network /\ t.Trips.length <= 12 /\ (∀ (i : Nat) x, t.Trips[i]? = some x -> yci t.Network x) /\ ∀ (i : Nat) a b, t.Trips[i]? = some a -> t.Trips[i + 1]? = some b -> a.Id < b.Id
noncomputable instance (t : Timetable) : Decidable (ya4 t) := Classical.propDecidable _
noncomputable instance (n : Network) (x : Trip) : Decidable (yci n x) := Classical.propDecidable _
theorem yfq (t : Int) : zq6 t = some (decide (0 <= t /\ t <= 1799)) := by
 unfold zq6; rw [ybh]; rfl
theorem yd1 (t : Int) : zq74 t = some (decide (0 <= t /\ t <= 1799)) := by
 unfold zq74; rw [ybj]; rfl
theorem ymv (l : List Int) (h1 : l.length <= 1000000) (h2 : ∀ x ∈ l, 0 <= x /\ x <= 1000000) : zq32 l = some l.sum := by
 unfold zq32
 rw [jqm (fun x : Int => x) l h1 h2 (fun i s x hx => ?_) (fun s => ?_)]
 ·simp
 ·have := jbf hx
  unfold ye8
  simp (disch := omega) only [if_pos, if_neg, decide_eq_true_eq, decide_true, decide_false, Bool.not_true, Bool.not_false, Bool.false_eq_true, Bool.not_eq_true', decide_eq_false_iff_not, if_true, if_false, jah, ja5, jav, qb, Option.map_some, Int.toNat_natCast, not_true_eq_false, not_false_eq_true, true_and, and_true, and_self, false_and, and_false, reduceIte, jc6, jc9, beq_self_eq_true, ne_eq, bne_self_eq_false, Int.ofNat_lt.2 this, hx]
 ·unfold ye8; simp
theorem ym6 (x : Line) (a b : Nat) (hab : a <= b) (hb : b <= x.Runs.length) (hl : x.Runs.length <= 1000) (h2 : ∀ r ∈ x.Runs, 0 <= r /\ r <= 1000000) : zq73 x (a : Int) (b : Int) = some (((x.Runs.take b).drop a).sum) := by
 unfold zq73
 refine Tot.val (.call (P := fun v => v = ((x.Runs.take b).drop a).sum) ?_ fun v h => .ok h)
 refine .iter (fun m s => ∃ k : Nat, s.2 = ((a + k : Nat) : Int) /\ m + k = b - a /\ s.1 = (((x.Runs.take b).drop a).take k).sum) (n := b - a) ⟨0, by simp, by omega, by simp⟩ ?_
 rintro m ⟨s, v⟩ ⟨k, hk, hm, hs⟩
 simp only at hk hs
 subst hk
 unfold ygr
 refine .iteP (fun hc => ?_) (fun hc => .dn ?_)
 ·obtain ⟨r, hr⟩ := ja9 (l := x.Runs) (i := a + k) (by omega)
  have hr2 : ((x.Runs.take b).drop a)[k]? = some r := by
   rw [List.getElem?_drop, List.getElem?_take_of_lt (by omega)]; exact hr
  have hb1 := h2 r (List.mem_of_getElem? hr)
  have hb2 := jn1 (l := ((x.Runs.take b).drop a).take k) (M := 1000000) fun y hy => h2 y (List.mem_of_mem_take (List.mem_of_mem_drop (List.mem_of_mem_take hy)))
  have hlen : ((((x.Runs.take b).drop a).take k).length : Int) <= 1000 := by simp; omega
  rw [<- hs] at hb2
  refine .eq (by rw [jav]; exact hr) (.nx ⟨m - 1, by omega, k + 1, ?_, by omega, ?_⟩)
  ·show w64 (((a + k : Nat) : Int) + 1) = _
   rw [jah (by omega)]; omega
  ·show w64 (s + r) = _
   rw [jah (by omega), jdk hr2, hs]
 ·rw [hs, List.take_of_length_le (by rw [List.length_drop, List.length_take]; omega)]
theorem ycg {n : Network} (h : Good n) {k : Int} {l : Line} (hl : idx n.Lines k = some l) : ybd n.Stops.length l := h.2.2.2.2 _ l (jjd hl).2.2
theorem ycc {st : Nat} {l : Line} (h : ybd st l) {j : Nat} {s : Int} (hs : l.Stops[j]? = some s) : 0 <= s /\ s < (st : Int) := (h.2.2.1 j s hs).1
theorem ya6 {st : Nat} {l : Line} (h : ybd st l) : (l.Runs.length + 1 = l.Stops.length /\ 1 <= l.Runs.length /\ l.Runs.length <= 5) /\ ∀ r ∈ l.Runs, 1 <= r /\ r <= 60 := by
 obtain ⟨h1, h2, h3, h4⟩ := h
 refine ⟨by omega, fun r hr => ?_⟩
 obtain ⟨i, hi⟩ := List.getElem?_of_mem hr
 exact h4 i r hi
theorem ybo {st : Nat} {l : Line} (h : ybd st l) (k : Nat) : 0 <= (l.Runs.take k).sum /\ (l.Runs.take k).sum <= 300 := by
 obtain ⟨⟨h1, h2, h3⟩, h4⟩ := ya6 h
 have := jn1 (l := l.Runs.take k) (M := 60) fun x hx => by have := h4 x (List.mem_of_mem_take hx); omega
 have hl : ((l.Runs.take k).length : Int) <= 5 := by simp; omega
 omega
theorem yli {st : Nat} {l : Line} (h : ybd st l) : 0 <= l.Runs.sum /\ l.Runs.sum <= 300 := by
 have := ybo h l.Runs.length
 rwa [List.take_length] at this
theorem ync {t : Timetable} (hg : Good t.Network) {x : Trip} {l : Line} (hl : idx t.Network.Lines x.Line = some l) (hs : 0 <= x.Start /\ x.Start <= 1799) : zq15 t x = some (x.Start + l.Runs.sum) := by
 have h := ycg hg hl
 obtain ⟨⟨h1, h2, h3⟩, h4⟩ := ya6 h
 have h5 := yli h
 unfold zq15
 rw [hl]
 simp only [qb]
 rw [ymv l.Runs (by omega) (fun x hx => by have := h4 x hx; omega)]
 simp (disch := omega) only [if_pos, if_neg, decide_eq_true_eq, decide_true, decide_false, Bool.not_true, Bool.not_false, Bool.false_eq_true, Bool.not_eq_true', decide_eq_false_iff_not, if_true, if_false, jah, ja5, jav, qb, Option.map_some, Int.toNat_natCast, not_true_eq_false, not_false_eq_true, true_and, and_true, and_self, false_and, and_false, reduceIte, jc6, jc9, beq_self_eq_true, ne_eq, bne_self_eq_false]
theorem yce {t : Timetable} {i : Nat} {x : Trip} {l : Line} (hx : t.Trips[i]? = some x) (hl : idx t.Network.Lines x.Line = some l) : zq78 t (i : Int) = some l := by
 unfold zq78
 simp (disch := omega) only [if_pos, if_neg, decide_eq_true_eq, decide_true, decide_false, Bool.not_true, Bool.not_false, Bool.false_eq_true, Bool.not_eq_true', decide_eq_false_iff_not, if_true, if_false, jah, ja5, jav, qb, Option.map_some, Int.toNat_natCast, not_true_eq_false, not_false_eq_true, true_and, and_true, and_self, false_and, and_false, reduceIte, jc6, jc9, beq_self_eq_true, ne_eq, bne_self_eq_false, hx, hl]
theorem ybz {t : Timetable} {i : Nat} {x : Trip} {l : Line} (hx : t.Trips[i]? = some x) (hl : idx t.Network.Lines x.Line = some l) : zq79 t (i : Int) = some l.Stops := by
 unfold zq79
 rw [yce hx hl]; rfl
theorem ycl {t : Timetable} (hg : Good t.Network) {i : Nat} {x : Trip} {l : Line} (hx : t.Trips[i]? = some x) (hl : idx t.Network.Lines x.Line = some l) (hs : 0 <= x.Start /\ x.Start <= 1799) {k : Nat} (hk : k <= l.Runs.length) : zq75 t (i : Int) (k : Int) = some (x.Start + (l.Runs.take k).sum) := by
 have h := ycg hg hl
 obtain ⟨⟨h1, h2, h3⟩, h4⟩ := ya6 h
 have h5 := ybo h k
 have e := ym6 l 0 k (by omega) hk (by omega) (fun x hx => by have := h4 x hx; omega)
 rw [List.drop_zero] at e
 have e' : zq73 l 0 (k : Int) = some (l.Runs.take k).sum := e
 unfold zq75
 simp (disch := omega) only [if_pos, if_neg, decide_eq_true_eq, decide_true, decide_false, Bool.not_true, Bool.not_false, Bool.false_eq_true, Bool.not_eq_true', decide_eq_false_iff_not, if_true, if_false, jah, ja5, jav, qb, Option.map_some, Int.toNat_natCast, not_true_eq_false, not_false_eq_true, true_and, and_true, and_self, false_and, and_false, reduceIte, jc6, jc9, beq_self_eq_true, ne_eq, bne_self_eq_false, hx, yce hx hl, e']
theorem ym5 {t : Timetable} (hg : Good t.Network) {i : Nat} {x : Trip} {l : Line} (hx : t.Trips[i]? = some x) (hl : idx t.Network.Lines x.Line = some l) (hs : 0 <= x.Start /\ x.Start <= 1799) : zq76 t (i : Int) = some (x.Start + l.Runs.sum) := by
 have h := ycg hg hl
 obtain ⟨⟨h1, h2, h3⟩, h4⟩ := ya6 h
 have e : w64 ((l.Stops.length : Int) - 1) = (l.Runs.length : Int) := by rw [jah (by omega)]; omega
 unfold zq76
 rw [ybz hx hl]
 simp only [qb, e, ycl hg hx hl hs (Nat.le_refl _), List.take_length]
def yek (t : Timetable) : Prop := (∀ (i : Nat) x, t.Trips[i]? = some x -> yci t.Network x) /\ ∀ (i : Nat) a b, t.Trips[i]? = some a -> t.Trips[i + 1]? = some b -> a.Id < b.Id
noncomputable instance (t : Timetable) : Decidable (yek t) := Classical.propDecidable _
theorem yqo {t : Timetable} (hb : TB t) (hg : Good t.Network) (x : Trip) (last : Int) (hlast : 0 <= last) : ((if (decide (x.Id <= last)) = true then some true else if (decide (999 < x.Id)) = true then some true else (zq23 t.Network x.Line).bind fun r =>
   if (!r) = true then some true else (zq6 x.Start).bind fun r1 =>
   if (!r1) = true then some true else (zq15 t x).bind fun r2 =>
   (zq6 r2).bind fun r3 =>
   some (!r3))) = some (!decide (last < x.Id /\ yci t.Network x)) := by
 by_cases c1 : x.Id <= last
 ·have : ¬ (last < x.Id /\ yci t.Network x) := fun h => by omega
  simp [c1, this]
 ·by_cases c2 : 999 < x.Id
  ·have : ¬ (last < x.Id /\ yci t.Network x) := fun h => by have := h.2.1; omega
   simp [c1, c2, this]
  ·simp only [ylw, yfq, qb, c1, c2, decide_false, Bool.false_eq_true, if_false]
   by_cases c3 : 0 <= x.Line /\ x.Line < (t.Network.Lines.length : Int)
   ·obtain ⟨l, hl, _⟩ := jc5 (l := t.Network.Lines) c3.1 c3.2
    by_cases c4 : 0 <= x.Start /\ x.Start <= 1799
    ·have hT : (last < x.Id /\ yci t.Network x) ↔ (0 <= x.Start + l.Runs.sum /\ x.Start + l.Runs.sum <= 1799) := by
      constructor
      ·rintro ⟨_, _, l', hl', _, h⟩
       rw [hl] at hl'; cases hl'; exact h
      ·intro h; exact ⟨by omega, ⟨by omega, by omega⟩, l, hl, c4, h⟩
     simp only [c3, c4, and_self, decide_true, Bool.not_true, Bool.false_eq_true, if_false, ync hg hl c4, yfq, qb, hT]
    ·have : ¬ (last < x.Id /\ yci t.Network x) := fun h => by
      obtain ⟨_, _, l', _, h4, _⟩ := h
      exact c4 h4
     simp only [c3, c4, this, and_self, decide_true, decide_false, Bool.not_true, Bool.not_false, Bool.false_eq_true, if_false, if_true]
   ·have : ¬ (last < x.Id /\ yci t.Network x) := fun h => by
     obtain ⟨_, _, l', hl', _⟩ := h
     have := jjd hl'
     exact c3 ⟨this.1, this.2.1⟩
    simp only [c3, this, decide_false, Bool.not_false, if_true]
theorem yhw {t : Timetable} (hb : TB t) (hg : Good t.Network) : zq11 t = some (decide (t.Trips.length <= 12 /\ yek t)) := by
 unfold zq11
 by_cases h12 : t.Trips.length <= 12
 ·have d : decide ((12 : Int) < (t.Trips.length : Int)) = false := by simp; omega
  have e : decide (t.Trips.length <= 12 /\ yek t) = decide (yek t) := by simp [h12]
  rw [d, e]
  simp only [Bool.false_eq_true, if_false]
  refine jpi (.iter (fun m a => ∃ i : Nat, a.2 = (i : Int) /\ m + i = t.Trips.length /\ 0 <= a.1 /\ (∀ y, 0 < i -> t.Trips[i - 1]? = some y -> a.1 = y.Id) /\ (i = 0 -> a.1 = 0) /\ (∀ (j : Nat) x, j < i -> t.Trips[j]? = some x -> yci t.Network x) /\ ∀ (j : Nat) a b, j + 1 < i -> t.Trips[j]? = some a -> t.Trips[j + 1]? = some b -> a.Id < b.Id)
   (n := t.Trips.length) ⟨0, rfl, rfl, by simp, by simp, by simp, fun j x h => by omega, fun j a b h => by omega⟩ ?_)
  rintro m ⟨last, v⟩ ⟨i, hv, hm, h0, h1, h2, h3, h4⟩
  simp only at hv h0 h1 h2
  subst hv
  unfold yha
  refine .iteP (fun hc => ?_) (fun hc => .dn (.inl ⟨rfl, fun j x hx => h3 j x (by have := jbf hx; omega) hx, fun j a b ha hb' => h4 j a b (by have := jbf hb'; omega) ha hb'⟩))
  obtain ⟨x, hx⟩ := ja9 (l := t.Trips) (i := i) (by omega)
  refine .eq (by rw [jav]; exact hx) (.eq (yqo hb hg x last h0) (.iteN (fun hn => .dn (.inr ⟨rfl, fun hp => hn ⟨?_, hp.1 i x hx⟩⟩)) (fun hp => .nx ⟨m - 1, by omega, i + 1, jaj (by omega), by omega, ?_, ?_, by simp, ?_, ?_⟩)))
  ·by_cases hi : i = 0
   ·rw [h2 hi]; have := (hp.1 i x hx).1; omega
   ·obtain ⟨y, hy⟩ := ja9 (l := t.Trips) (i := i - 1) (by omega)
    rw [h1 y (by omega) hy]
    exact hp.2 (i - 1) y x hy (by rw [show i - 1 + 1 = i by omega]; exact hx)
  ·show 0 <= x.Id
   have := hp.2.1; omega
  ·intro y _ hy
   rw [show i + 1 - 1 = i by omega, hx] at hy; cases hy; rfl
  ·intro j y hj hy
   by_cases hji : j = i
   ·subst hji; rw [hx] at hy; cases hy; exact hp.2
   ·exact h3 j y (by omega) hy
  ·intro j a b hj ha hb'
   by_cases hji : j + 1 = i
   ·subst hji; rw [hx] at hb'; cases hb'
    have := h1 a (by omega) (by simpa using ha)
    omega
   ·exact h4 j a b (by omega) ha hb'
 ·have d : decide ((12 : Int) < (t.Trips.length : Int)) = true := by simp; omega
  simp [d, h12]
def yhx (t : Timetable) (i : Nat) (x : Trip) : Prop := yci t.Network x /\ ∀ y, 0 < i -> t.Trips[i - 1]? = some y -> y.Id < x.Id
noncomputable instance (t : Timetable) (i : Nat) (x : Trip) : Decidable (yhx t i x) := Classical.propDecidable _
theorem ygf (t : Timetable) : ya4 t ↔ Good t.Network /\ t.Trips.length <= 12 /\ yek t := Iff.rfl
theorem yf6 {t : Timetable} (hb : TB t) : zq7 t = some (decide (ya4 t)) := by
 unfold zq7
 rw [ymt _ hb.1]
 by_cases hg : Good t.Network
 ·simp only [hg, decide_true, if_true, qb, yhw hb hg, ygf, true_and]
 ·have : ¬ ya4 t := fun h => hg h.1
  simp [hg, this]
theorem ym8 {t : Timetable} (hb : TB t) : zq77 t = some (decide (ya4 t)) := by
 unfold zq77
 rw [yp4 _ hb.1]
 by_cases hg : Good t.Network
 ·by_cases h12 : t.Trips.length <= 12
  ·have d : decide ((12 : Int) < (t.Trips.length : Int)) = false := by simp; omega
   have e : decide (ya4 t) = decide (yek t) := by rw [decide_eq_decide, ygf]; simp [hg, h12]
   simp only [hg, decide_true, Bool.not_true, Bool.false_eq_true, if_false, qb, d, e]
   refine jpi (.iter (fun m a => ∃ i : Nat, a = (i : Int) /\ m + i = t.Trips.length /\ (∀ (j : Nat) x, j < i -> t.Trips[j]? = some x -> yci t.Network x) /\ ∀ (j : Nat) a b, j + 1 < i -> t.Trips[j]? = some a -> t.Trips[j + 1]? = some b -> a.Id < b.Id)
    (n := t.Trips.length) ⟨0, rfl, rfl, fun j x h => by omega, fun j a b h => by omega⟩ ?_)
   rintro m v ⟨i, hv, hm, h3, h4⟩
   subst hv
   unfold ygq
   refine .iteP (fun hc => ?_) (fun hc => .dn (.inl ⟨rfl, fun j x hx => h3 j x (by have := jbf hx; omega) hx, fun j a b ha hb' => h4 j a b (by have := jbf hb'; omega) ha hb'⟩))
   obtain ⟨x, hx⟩ := ja9 (l := t.Trips) (i := i) (by omega)
   refine .eq (by rw [jav]; exact hx) ?_
   have hll := hg.2.1
   have ew : w64 ((t.Network.Lines.length : Int) - 1) = (t.Network.Lines.length : Int) - 1 := jah (by omega)
   have key : ((zq58 x.Id 1 999).bind fun r6 =>
   (if (!r6) = true then some true else (zq58 x.Line 0 (w64 ((t.Network.Lines.length : Int) - 1))).bind fun r7 =>
   if (!r7) = true then some true else (zq74 x.Start).bind fun r8 =>
   if (!r8) = true then some true else (zq76 t (i : Int)).bind fun r9 =>
   (zq74 r9).bind fun r10 =>
   if (!r10) = true then some true else if (decide (0 < (i : Int))) = true then (idx t.Trips (w64 ((i : Int) - 1))).bind fun e2 =>
   some (decide (x.Id <= e2.Id)) else some false)) = some (!decide (yhx t i x)) := by
    have no : ¬ yci t.Network x -> (!decide (yhx t i x)) = true := fun h => (by simp [show ¬ yhx t i x from fun q => h q.1])
    simp only [ybj, yd1, ew, qb]
    by_cases c1 : 1 <= x.Id /\ x.Id <= 999
    ·by_cases c3 : 0 <= x.Line /\ x.Line <= (t.Network.Lines.length : Int) - 1
     ·obtain ⟨l, hl, _⟩ := jc5 (l := t.Network.Lines) c3.1 (by omega)
      by_cases c4 : 0 <= x.Start /\ x.Start <= 1799
      ·simp only [c1, c3, c4, and_self, decide_true, Bool.not_true, Bool.false_eq_true, if_false, ym5 hg hx hl c4, yd1, qb]
       by_cases c5 : 0 <= x.Start + l.Runs.sum /\ x.Start + l.Runs.sum <= 1799
       ·have hT : yci t.Network x := ⟨c1, l, hl, c4, c5⟩
        simp only [c5, and_self, decide_true, Bool.not_true, Bool.false_eq_true, if_false, ]
        by_cases c6 : 0 < i
        ·obtain ⟨y, hy⟩ := ja9 (l := t.Trips) (i := i - 1) (by omega)
         have e1 : w64 ((i : Int) - 1) = ((i - 1 : Nat) : Int) := by rw [jah (by omega)]; omega
         have c6' : (0 : Int) < (i : Int) := by omega
         simp only [c6', decide_true, if_true, e1, jav, hy, qb, Option.some.injEq]
         by_cases c7 : x.Id <= y.Id
         ·have : ¬ yhx t i x := fun h => by have := h.2 y c6 hy; omega
          simp only [c7, decide_true, this, decide_false, Bool.not_false]
         ·have : yhx t i x := ⟨hT, fun z _ hz => by rw [hy] at hz; cases hz; omega⟩
          simp only [c7, decide_false, this, decide_true, Bool.not_true]
        ·have c6' : ¬ (0 : Int) < (i : Int) := by omega
         have : yhx t i x := ⟨hT, fun z h0 _ => absurd h0 c6⟩
         simp only [c6', decide_false, Bool.false_eq_true, if_false, this, decide_true, Bool.not_true]
       ·rw [no (fun hT => by
         obtain ⟨_, l', hl', _, h⟩ := hT
         rw [hl] at hl'; cases hl'; exact c5 h)]
        simp only [c5, decide_false, Bool.not_false, if_true]
      ·rw [no (fun hT => by obtain ⟨_, l', _, h, _⟩ := hT; exact c4 h)]
       simp only [c1, c3, c4, and_self, decide_true, decide_false, Bool.not_true, Bool.not_false, Bool.false_eq_true, if_false, if_true]
     ·rw [no (fun hT => by
       obtain ⟨_, l', hl', _⟩ := hT
       have := jjd hl'
       exact c3 ⟨this.1, by omega⟩)]
      simp only [c1, c3, and_self, decide_true, decide_false, Bool.not_true, Bool.not_false, Bool.false_eq_true, if_false, if_true]
    ·rw [no (fun hT => c1 hT.1)]
     simp only [c1, decide_false, Bool.not_false, if_true]
   rw [jli, key]
   refine .iteN (fun hn => .dn (.inr ⟨rfl, fun hp => hn ⟨hp.1 i x hx, fun y hi hy => hp.2 (i - 1) y x hy (by rw [show i - 1 + 1 = i by omega]; exact hx)⟩⟩)) (fun hp => .nx ⟨m - 1, by omega, i + 1, jaj (by omega), by omega, ?_, ?_⟩)
   ·intro j y hj hy
    by_cases hji : j = i
    ·subst hji; rw [hx] at hy; cases hy; exact hp.1
    ·exact h3 j y (by omega) hy
   ·intro j a b hj ha hb'
    by_cases hji : j + 1 = i
    ·subst hji; rw [hx] at hb'; cases hb'
     exact hp.2 a (by omega) (by simpa using ha)
    ·exact h4 j a b (by omega) ha hb'
  ·have d : decide ((12 : Int) < (t.Trips.length : Int)) = true := by simp; omega
   have : ¬ ya4 t := fun h => h12 h.2.1
   simp [hg, d, this]
 ·have : ¬ ya4 t := fun h => hg h.1
  simp [hg, this]
theorem yf7 (t : Timetable) (h : t.Trips.length <= 1000) (id : Int) : zq33 t id = some (fixI (fun x => x.Id == id) t.Trips) := by
 unfold zq33 zq95 zq94
 rw [jdq t.Trips (fun x => x.Id == id) (fun i x hx => ?_) (by unfold yeo; simp)]
 ·rfl
 ·have := jbf hx
  unfold yeo zq34
  simp (disch := omega) only [if_pos, if_neg, decide_eq_true_eq, decide_true, decide_false, Bool.not_true, Bool.not_false, Bool.false_eq_true, Bool.not_eq_true', decide_eq_false_iff_not, if_true, if_false, jah, ja5, jav, qb, Option.map_some, Int.toNat_natCast, not_true_eq_false, not_false_eq_true, true_and, and_true, and_self, false_and, and_false, reduceIte, jc6, jc9, beq_self_eq_true, ne_eq, bne_self_eq_false, hx, Int.ofNat_lt.2 this]
  split <;> simp [*] <;> omega
theorem ycd {t : Timetable} {x : Trip} {l : Line} (hl : idx t.Network.Lines x.Line = some l) : zq28 t x = some l := by
 unfold zq28; rw [hl]; rfl
theorem ya5 {t : Timetable} (h : ya4 t) {i : Nat} {x : Trip} (hx : t.Trips[i]? = some x) : ∃ l, idx t.Network.Lines x.Line = some l /\ ybd t.Network.Stops.length l /\ (1 <= x.Id /\ x.Id <= 999) /\ (0 <= x.Start /\ x.Start <= 1799) /\ 0 <= x.Start + l.Runs.sum /\ x.Start + l.Runs.sum <= 1799 := by
 obtain ⟨h1, l, hl, h2, h3⟩ := h.2.2.1 i x hx
 exact ⟨l, hl, ycg h.1 hl, h1, h2, h3⟩
theorem ylx {t : Timetable} (h : ya4 t) {i j : Nat} {a b : Trip} (hij : i < j) (ha : t.Trips[i]? = some a) (hb : t.Trips[j]? = some b) : a.Id < b.Id := by
 induction j generalizing b with
 | zero => omega
 | succ j ih =>
  obtain ⟨c, hc⟩ := ja9 (l := t.Trips) (i := j) (by have := jbf hb; omega)
  have h1 := h.2.2.2 j c b hc hb
  by_cases hji : i = j
  ·subst hji; rw [ha] at hc; cases hc; exact h1
  ·have := ih (by omega) hc; omega
theorem yi2 {t : Timetable} (h : ya4 t) {i : Nat} {x : Trip} (hx : t.Trips[i]? = some x) : fixI (fun y => y.Id == x.Id) t.Trips = (i : Int) := by
 refine jpn hx (by simp) fun j y hj hy => ?_
 have := ylx h hj hy hx
 simp; omega
def ST (l : Line) (s : Int) : List Int := (List.range (l.Runs.length + 1)).map fun k => s + (l.Runs.take k).sum
theorem yqx (l : Line) (s : Int) : (ST l s).length = l.Runs.length + 1 := by simp [ST]
theorem yhy {l : Line} {s : Int} {k : Nat} (hk : k <= l.Runs.length) : (ST l s)[k]? = some (s + (l.Runs.take k).sum) := by
 unfold ST; rw [List.getElem?_map, List.getElem?_range (by omega)]; rfl
theorem ybu {t : Timetable} {x : Trip} {l : Line} {st : Nat} (hl : idx t.Network.Lines x.Line = some l) (hp : ybd st l) (hs : 0 <= x.Start /\ x.Start <= 1799) : zq31 t x = some (ST l x.Start) := by
 obtain ⟨⟨h1, h2, h3⟩, h4⟩ := ya6 hp
 unfold zq31
 rw [ycd hl]
 simp only [qb]
 refine Tot.val (.call (P := fun v => v = ST l x.Start) ?_ fun v h => .ok h)
 refine .iter (fun m s => ∃ k : Nat, s.1 = (k : Int) /\ m + k = l.Runs.length /\ s.2 = (ST l x.Start).take (k + 1)) (n := l.Runs.length) ⟨0, rfl, rfl, ?_⟩ ?_
 ·rw [jcs (x := x.Start) (by have := yhy (l := l) (s := x.Start) (k := 0) (by omega); simpa using this)]; rfl
 ·rintro m ⟨v, r⟩ ⟨k, hk, hm, hr⟩
  simp only at hk hr
  subst hk
  unfold ygz
  have hlen := yqx l x.Start
  refine .iteP (fun hc => ?_) (fun hc => .dn (by rw [hr, List.take_of_length_le (by omega)]))
  obtain ⟨e, he⟩ := ja9 (l := l.Runs) (i := k) (by omega)
  have hk1 := yhy (l := l) (s := x.Start) (k := k) (by omega)
  have hk2 := yhy (l := l) (s := x.Start) (k := k + 1) (by omega)
  have b1 := ybo hp k
  have b2 := h4 e (List.mem_of_getElem? he)
  refine .eq (by rw [jav]; exact he) (.eq (by rw [jav, hr, List.getElem?_take_of_lt (by omega)]; exact hk1) (.chk (by rw [hr]; simp; omega) (.nx ⟨m - 1, by omega, k + 1, jaj (by omega), by omega, ?_⟩)))
  show r ++ [w64 (x.Start + (l.Runs.take k).sum + e)] = _
  rw [jcs hk2, hr, jah (by omega), jdk he, Int.add_assoc]
theorem yna {t : Timetable} (id : Int) : (fixI (fun x => x.Id == id) t.Trips < 0 /\ ∀ (k : Nat) y, t.Trips[k]? = some y -> y.Id ≠ id) \/ ∃ (k : Nat) (y : Trip), t.Trips[k]? = some y /\ y.Id = id := by
 by_cases h : fixI (fun x => x.Id == id) t.Trips < 0
 ·refine .inl ⟨h, fun k y hy => ?_⟩
  have := jml h y (List.mem_of_getElem? hy)
  simpa using this
 ·obtain ⟨k, y, _, h2, h3, _⟩ := jsf h
  exact .inr ⟨k, y, h2, by simpa using h3⟩
theorem yl3 {k : Nat} {c : l1Cur} (h : Cur k c) (hk : k <= 200000000) : Tot (zq42 c) fun r => Cur (k + 1000) r.2 /\ Bd r.1 := yfu h hk
def DT (t : Timetable) : Prop := Bd t.Network /\ t.Trips.length <= 30
theorem DT.tb {t : Timetable} (h : DT t) : TB t := ⟨h.1, by have := h.2; omega⟩
theorem yf8 {k : Nat} {c : l1Cur} (h : Cur k c) (hk : k <= 100000000) : Tot (zq56 c) fun r => Cur (k + 400) r.2 /\ DT r.1 /\ NB r.1.Network /\ r.1.Trips.length <= 8 := by
 unfold zq56
 refine .call (yb7 h (by omega)) fun r ⟨hc, hn⟩ => .call (ya2 8 hc (by omega)) fun r1 ⟨hc1, h0, h1⟩ => ?_
 refine .call (P := fun o => Cur (k + 400) ⟨o.1, o.2.1, ⟨o.2.2.1⟩⟩ /\ o.2.2.2.length <= 8) ?_ fun o ⟨ho1, ho2⟩ => .ok ⟨ho1, ⟨hn.bd, by show o.2.2.2.length <= 30; omega⟩, hn, ho2⟩
 refine .iter (fun m s => s.2.1 = (m : Int) /\ m + s.2.2.2.2.2.length <= 8 /\ Cur (k + 302 + 6 * (8 - m)) ⟨s.2.2.1, s.2.2.2.1, ⟨s.2.2.2.2.1⟩⟩) (n := r1.1.toNat) ⟨by show r1.1 = _; omega, by show r1.1.toNat + 0 <= 8; omega, hc1.mono (by omega)⟩ ?_
 rintro m ⟨n, v, v1, v2, v3, v4⟩ ⟨hv, hl, hcur⟩
 simp only at hv hl hcur
 subst hv
 unfold ygv
 refine .iteP (fun hc => ?_) (fun hc => .dn ⟨hcur.mono (by omega), by show v4.length <= 8; omega⟩)
 refine .call (ya2 3 hcur (by omega)) fun r2 ⟨hc2, _⟩ => .call (ya2 _ hc2 (by omega)) fun r5 ⟨hc5, _⟩ => .call (ya2 24 hc5 (by omega)) fun r6 ⟨hc6, _⟩ => .chk (by simp; omega) (.nx ⟨m - 1, by omega, ?_, ?_, ?_⟩)
 ·show w64 ((m : Int) - 1) = _; rw [jah (by omega)]; omega
 ·show m - 1 + (v4 ++ [_]).length <= 8; simp; omega
 ·exact hc6.mono (by omega)
theorem yd5 {k : Nat} {c : l1Cur} (h : Cur k c) (hk : k <= 50000000) : Tot (zq43 c) fun r => Cur (k + 2000) r.2 /\ DT r.1 := by
 unfold zq43
 refine .call (yf8 h (by omega)) fun r ⟨hc, hd, hn, hl⟩ => ?_
 refine .ite (fun _ => .ok ⟨hc.mono (by omega), hd⟩) fun he => ?_
 have hpos : 0 < r.1.Trips.length := by
  have : (r.1.Trips.length : Int) ≠ 0 := by simpa using he
  omega
 refine .call (ya2 _ hc (by omega)) fun r1 ⟨hc1, h10, h11⟩ => ?_
 have h12 : r1.1 < (r.1.Trips.length : Int) := by omega
 refine .idx h10 h12 fun e _ => ?_
 have fin : ∀ (v : List UInt8) (v1 v2 : Int) (v3 : List Line) (v4 v5 v6 : Int) (v7 : List ByteArray), Cur (k + 2000) ⟨v, v1, ⟨v2⟩⟩ -> Bd ⟨v7, v3⟩ -> Tot ((idx r.1.Trips r1.1).bind fun e2 => some ((⟨(⟨v7, v3⟩ : Network), (r.1.Trips.set r1.1.toNat (⟨v4, v5, v6⟩ : Trip))⟩ : Timetable), (⟨v, v1, (⟨v2⟩ : IK .u64)⟩ : l1Cur))) fun r => Cur (k + 2000) r.2 /\ DT r.1 := fun v v1 v2 v3 v4 v5 v6 v7 q1 q2 =>
  .idx h10 h12 fun e2 _ => .ok ⟨q1, q2, by show (r.1.Trips.set _ _).length <= 30; rw [List.length_set]; omega⟩
 refine .flb (.call (ya2 24 hc1 (by omega)) fun r2 ⟨hc2, _⟩ => ?_)
 refine .ite (fun _ => .call (yfv _ (by simp) hc2 (by omega)) fun r3 ⟨hc3, _⟩ => .go (fin _ _ _ _ _ _ _ _ (hc3.mono (by omega)) hd.1)) fun _ => ?_
 refine .ite (fun _ => .call (ya2 7 hc2 (by omega)) fun r3 ⟨hc3, _⟩ => .go (fin _ _ _ _ _ _ _ _ (hc3.mono (by omega)) hd.1)) fun _ => ?_
 refine .ite (fun _ => .call (yfv _ (by simp) hc2 (by omega)) fun r3 ⟨hc3, _⟩ => .go (fin _ _ _ _ _ _ _ _ (hc3.mono (by omega)) hd.1)) fun _ => ?_
 refine .ite (fun _ => .call (yl3 hc2 (by omega)) fun r3 ⟨hc3, hb⟩ => .go (fin _ _ _ _ _ _ _ _ (hc3.mono (by omega)) hb)) fun _ => ?_
 refine .ite (fun _ => ?_) fun _ => .go (fin _ _ _ _ _ _ _ _ (hc2.mono (by omega)) hd.1)
 refine .call (P := fun o => Cur (k + 2000) ⟨o.1, o.2.1, ⟨o.2.2.1⟩⟩ /\ o.2.2.2.length <= 30) ?_ fun o ⟨ho1, ho2⟩ => .ret ⟨ho1, hd.1, ho2⟩
 refine .iter (fun m s => ∃ i : Nat, s.1 = (i : Int) /\ m + i = 14 /\ s.2.2.2.2.length <= 8 + i /\ Cur (k + 500 + 2 * i) ⟨s.2.1, s.2.2.1, ⟨s.2.2.2.1⟩⟩) (n := 14) ⟨0, rfl, rfl, by simpa using hl, hc2.mono (by omega)⟩ ?_
 rintro m ⟨v8, v9, v10, v11, v12⟩ ⟨i, hv, hm, hl12, hcur⟩
 simp only at hv hl12 hcur
 subst hv
 unfold ygw
 refine .call (ya2 2 hcur (by omega)) fun r8 ⟨hc8, _⟩ => ?_
 refine .call (P := fun b => b = true -> i < 14) (.ite (fun _ => .ok fun hb => by simp at hb; omega) fun _ => .ok fun hb => by cases hb) fun b hb => ?_
 refine .ite (fun ht => .chk (by simp; omega) (.nx ⟨m - 1, by have := hb ht; omega, i + 1, jaj (by omega), by have := hb ht; omega, ?_, hc8.mono (by omega)⟩)) (fun _ => .dn ⟨hc8.mono (by omega), by show v12.length <= 30; omega⟩)
 show (v12 ++ [_]).length <= 8 + (i + 1); simp; omega
theorem ymu {k : Nat} {c : l1Cur} (h : Cur k c) (hk : k <= 40000000) : Tot (zq57 c) fun r => Cur (k + 3000) r.2 /\ DT r.1 := by
 unfold zq57
 refine .call (yll 16 h (by omega)) fun r hc => ?_
 refine .ite (fun _ => .call (yd5 hc (by omega)) fun r1 ⟨hc1, hd⟩ => .ok ⟨hc1.mono (by omega), hd⟩) fun _ => ?_
 refine .call (yb7 hc (by omega)) fun r2 ⟨hc2, hn⟩ => .call (ya2 6 hc2 (by omega)) fun r3 ⟨hc3, h30, h31⟩ => ?_
 refine .call (P := fun o => Cur (k + 3000) ⟨o.1, o.2.1, ⟨o.2.2.1⟩⟩ /\ o.2.2.2.length <= 10) ?_ fun o ⟨ho1, ho2⟩ => ?_
 ·refine .iter (fun m s => s.1 = (m : Int) /\ m + s.2.2.2.2.length <= 10 /\ Cur (k + 310 + 6 * (10 - m)) ⟨s.2.1, s.2.2.1, ⟨s.2.2.2.1⟩⟩) (n := 3 + r3.1.toNat) ⟨by show w64 (3 + r3.1) = _; rw [jah (by omega)]; omega, by show 3 + r3.1.toNat + 0 <= 10; omega, hc3.mono (by omega)⟩ ?_
  rintro m ⟨i, v, v1, v2, v3⟩ ⟨hv, hl, hcur⟩
  simp only at hv hl hcur
  subst hv
  unfold ygu
  refine .iteP (fun hc => ?_) (fun hc => .dn ⟨hcur.mono (by omega), by show v3.length <= 10; omega⟩)
  refine .call (ya2 2 hcur (by omega)) fun r7 ⟨hc7, _⟩ => .call (ya2 _ hc7 (by omega)) fun r8 ⟨hc8, _⟩ => .call (ya2 16 hc8 (by omega)) fun r9 ⟨hc9, _⟩ => .chk (by simp; omega) (.nx ⟨m - 1, by omega, ?_, ?_, ?_⟩)
  ·show w64 ((m : Int) - 1) = _; rw [jah (by omega)]; omega
  ·show m - 1 + (v3 ++ [_]).length <= 10; simp; omega
  ·exact hc9.mono (by omega)
 ·refine .call (P := fun l => l.length <= 10) ?_ fun l hl => .ok ⟨ho1, hn.bd, by show l.length <= 30; omega⟩
  refine .iter (fun m s => ∃ i : Nat, s.1 = (i : Int) /\ 1 <= i /\ m + i = 11 /\ s.2.length <= 10) (n := 10) ⟨1, rfl, by omega, by omega, ho2⟩ ?_
  rintro m ⟨x, v8⟩ ⟨i, hx, h1, hm, hl⟩
  simp only at hx hl
  subst hx
  unfold ygt
  refine .iteP (fun hc => ?_) (fun hc => .dn hl)
  have e1 : w64 ((i : Int) - 1) = (i : Int) - 1 := jah (by omega)
  refine .idx (by omega) hc fun e _ => ?_
  rw [e1]
  refine .idx (by omega) (by omega) fun e2 _ => ?_
  refine .call (P := fun _ => True) ?_ fun r11 _ => .idx (by omega) hc fun e3 _ => .nx ⟨m - 1, by omega, i + 1, jaj (by omega), by omega, by omega, by show (v8.set _ _).length <= 10; rw [List.length_set]; exact hl⟩
  unfold zq59
  exact .ite (fun _ => .ok trivial) fun _ => .ok trivial
theorem yee {k : Nat} {c : l1Cur} (n : Int) (h : Cur k c) (hk : k <= 3000000000) : Tot (zq53 c n) fun r => Cur (k + 2) r.2 /\ 0 <= r.1 /\ (r.1 < n \/ r.1 = 0) := ya2 n h hk
theorem yqp {k : Nat} {c : l1Cur} (n : Int) (h : Cur k c) (hk : k <= 3000000000) : Tot (zq52 c n) fun r => Cur (k + 2) r.2 := yll n h hk
theorem yle {k : Nat} {c : l1Cur} (l : List Int) (hl : l ≠ []) (h : Cur k c) (hk : k <= 3000000000) : Tot (zq40 c l) fun r => Cur (k + 2) r.2 /\ r.1 ∈ l := yfv l hl h hk
theorem ypo (l : List Int) (h : l.length <= 1000) (x : Int) (hx : x ∈ l) : yjb l x = some true := by
 unfold yjb
 rw [jkj l (fun e => e == x) (fun _ => true) (fun i y hy => ?_) (by unfold ycx; simp)]
 ·have : l.findIdx? (fun e => e == x) ≠ none := fun hn => by
   have := List.findIdx?_eq_none_iff.1 hn x hx
   simp at this
  cases hf : l.findIdx? (fun e => e == x) with
  | none => exact absurd hf this
  | some i => rfl
 ·have hi := (List.getElem?_eq_some_iff.1 hy).1
  unfold ycx
  have hlt : decide ((i : Int) < (l.length : Int)) = true := by simp; omega
  simp only [hlt, if_true, jav, hy, qb, jaj (n := i) (by omega)]
  split <;> rfl
theorem ym4 {t : Timetable} (hT : ya4 t) {i : Nat} {x : Trip} {l : Line} (hx : t.Trips[i]? = some x) (hl : idx t.Network.Lines x.Line = some l) {a b : Nat} {p q : Int} (ha : l.Stops[a]? = some p) (hb : l.Stops[b]? = some q) : zq85 t (i : Int) (a : Int) (b : Int) = some ⟨x.Id, p, q, x.Start + (l.Runs.take a).sum, x.Start + (l.Runs.take b).sum⟩ := by
 obtain ⟨l', hl', hp, _, hs, _⟩ := ya5 hT hx
 rw [hl] at hl'; cases hl'
 obtain ⟨⟨r1, r2, r3⟩, _⟩ := ya6 hp
 have := jbf ha; have := jbf hb
 unfold zq85
 simp only [ybz hx hl, qb, jav, hx, ha, hb, ycl hT.1 hx hl hs (k := a) (by omega), ycl hT.1 hx hl hs (k := b) (by omega)]
theorem yqw (x : l8Search) (legs : List Leg) (stop at_ more : Int) : zq87 x legs stop at_ more = yb9 4294967297 x legs stop at_ more := rfl
theorem ynd {t : Timetable} (hb : TB t) (change : Int) : zq81 t change = some (decide (ya4 t /\ 0 <= change /\ change <= 30)) := by
 unfold zq81
 simp only [ym8 hb, ybj, qb]
 by_cases h : ya4 t <;> simp [h]
theorem ygh {k : Nat} {c : l1Cur} (h : Cur k c) (hk : k <= 1000000) : Tot (zq44 c) fun r => Cur (k + 2) r.2 := by
 unfold zq44
 exact .call (yle _ (by simp) h (by omega)) fun r hr => .ok hr.1
def fl (x : Trip) (l : Line) (from_ to : Int) : Leg × Bool :=
 if fixI (fun e => from_ == e) l.Stops < 0 \/ fixI (fun e => to == e) l.Stops <= fixI (fun e => from_ == e) l.Stops then (⟨0, 0, 0, 0, 0⟩, false)
 else (⟨x.Id, from_, to, x.Start + (l.Runs.take (fixI (fun e => from_ == e) l.Stops).toNat).sum, x.Start + (l.Runs.take (fixI (fun e => to == e) l.Stops).toNat).sum⟩, true)
theorem or2 {A B : Prop} [Decidable A] [Decidable B] : (if (decide A) = true then some true else some (decide B)) = some (decide (A \/ B)) := by
 by_cases a : A <;> simp [a]
theorem yei {t : Timetable} (hT : ya4 t) {i : Nat} {x : Trip} {l : Line} (hx : t.Trips[i]? = some x) (hl : idx t.Network.Lines x.Line = some l) (from_ to : Int) : zq16 t x from_ to = some (fl x l from_ to) := by
 obtain ⟨l', hl', hp, _, hs, _⟩ := ya5 hT hx
 rw [hl] at hl'; cases hl'
 obtain ⟨⟨r1, r2, r3⟩, _⟩ := ya6 hp
 have q1 := jed (fun e => from_ == e) l.Stops
 have q2 := jed (fun e => to == e) l.Stops
 unfold zq16 fl
 rw [ycd hl]
 simp only [qb, ybx l.Stops (by omega), or2]
 revert q1 q2
 generalize fixI (fun e => from_ == e) l.Stops = p
 generalize fixI (fun e => to == e) l.Stops = q
 intro q1 q2
 by_cases h : p < 0 \/ q <= p
 ·simp only [h, decide_true, if_true]
 ·obtain ⟨a, rfl⟩ : ∃ a : Nat, p = a := ⟨p.toNat, by omega⟩
  obtain ⟨b, rfl⟩ : ∃ b : Nat, q = b := ⟨q.toNat, by omega⟩
  simp only [h, decide_false, Bool.false_eq_true, if_false, ybu hl hp hs, qb, jav, yhy (l := l) (s := x.Start) (k := a) (by omega), yhy (l := l) (s := x.Start) (k := b) (by omega), Int.toNat_natCast]
def yhz (t : Timetable) (g : Leg) : Prop := ∃ (i : Nat) (x : Trip) (l : Line), t.Trips[i]? = some x /\ idx t.Network.Lines x.Line = some l /\ x.Id = g.Trip /\ fl x l g.From g.To = (g, true)
def OrdQ (change : Int) (legs : List Leg) (i : Nat) (g : Leg) : Prop := ∀ p, 0 < i -> legs[i - 1]? = some p -> p.To = g.From /\ ¬ g.Depart < w64 (p.Arrive + change)
noncomputable instance (change : Int) (legs : List Leg) (i : Nat) (g : Leg) : Decidable (OrdQ change legs i g) := Classical.propDecidable _
def LegQ (t : Timetable) (change : Int) (legs : List Leg) (i : Nat) (g : Leg) : Prop := yhz t g /\ OrdQ change legs i g /\ ∀ (j : Nat) p, j < i -> legs[j]? = some p -> p.Trip ≠ g.Trip
def ybr (t : Timetable) (change : Int) (legs : List Leg) : Prop := (1 <= legs.length /\ legs.length <= 4) /\ ∀ (i : Nat) g, legs[i]? = some g -> LegQ t change legs i g
noncomputable instance (t : Timetable) (change : Int) (legs : List Leg) : Decidable (ybr t change legs) := Classical.propDecidable _
noncomputable instance (t : Timetable) (change : Int) (legs : List Leg) (i : Nat) (g : Leg) : Decidable (LegQ t change legs i g) := Classical.propDecidable _
noncomputable instance (a b : Leg) : Decidable (a = b) := Classical.propDecidable _
theorem yp0 (a b : Leg) : ((a.Trip == b.Trip) && ((a.From == b.From) && ((a.To == b.To) && ((a.Depart == b.Depart) && ((a.Arrive == b.Arrive) && true))))) = decide (a = b) := by
 cases a; cases b
 simp only [Leg.mk.injEq, Bool.and_true]
 rw [Bool.eq_iff_iff]
 simp
theorem ylo {t : Timetable} (hb : TB t) (hT : ya4 t) (g : Leg) : (fixI (fun x => x.Id == g.Trip) t.Trips < 0 /\ ¬ yhz t g) \/ ∃ (i : Nat) (x : Trip) (l : Line), t.Trips[i]? = some x /\ idx t.Network.Lines x.Line = some l /\ x.Id = g.Trip /\ fixI (fun x => x.Id == g.Trip) t.Trips = (i : Int) /\ (yhz t g ↔ fl x l g.From g.To = (g, true)) := by
 rcases yna (t := t) g.Trip with ⟨h1, h2⟩ | ⟨k, y, h1, h2⟩
 ·left
  refine ⟨h1, ?_⟩
  rintro ⟨i, x, l, a, _, b, _⟩
  exact h2 i x a b
 ·right
  obtain ⟨l, hl, _⟩ := ya5 hT h1
  have hf := yi2 hT h1
  rw [h2] at hf
  refine ⟨k, y, l, h1, hl, h2, hf, ?_, fun h => ⟨k, y, l, h1, hl, h2, h⟩⟩
  rintro ⟨i, x, l', a, b, c, d⟩
  have hf2 := yi2 hT a
  rw [c, hf] at hf2
  have : k = i := by omega
  subst this
  rw [h1] at a; cases a
  rw [hl] at b; cases b
  exact d
theorem ygg (l : List Leg) (h : l.length <= 1000) (c : Leg) : zq91 l c = some (decide (∃ p ∈ l, p.Trip = c.Trip)) := by
 unfold zq91 zq90 zq92
 rw [jdq l (fun x => x.Trip == c.Trip) (fun i x hx => ?_) (by unfold yep; simp)]
 ·simp only [qb]
  congr 1
  rw [decide_eq_decide]
  constructor
  ·intro h0
   obtain ⟨k, hk⟩ : ∃ k : Nat, fixI (fun x : Leg => x.Trip == c.Trip) l = k := ⟨(fixI (fun x : Leg => x.Trip == c.Trip) l).toNat, by omega⟩
   obtain ⟨x, a, b, _⟩ := jep hk
   exact ⟨x, List.mem_of_getElem? a, by simpa using b⟩
  ·rintro ⟨p, hp, he⟩
   by_cases hn : fixI (fun x : Leg => x.Trip == c.Trip) l < 0
   ·have := jml hn p hp
    simp [he] at this
   ·omega
 ·have := jbf hx
  unfold yep zq22
  simp (disch := omega) only [if_pos, if_neg, decide_eq_true_eq, decide_true, decide_false, Bool.not_true, Bool.not_false, Bool.false_eq_true, Bool.not_eq_true', decide_eq_false_iff_not, if_true, if_false, jah, ja5, jav, qb, Option.map_some, Int.toNat_natCast, not_true_eq_false, not_false_eq_true, true_and, and_true, and_self, false_and, and_false, reduceIte, jc6, jc9, beq_self_eq_true, ne_eq, bne_self_eq_false, hx, Int.ofNat_lt.2 this]
  split <;> simp [*] <;> omega
theorem yp2 {t : Timetable} (hb : TB t) (hT : ya4 t) (change : Int) (legs : List Leg) (h4 : legs.length <= 4) {j : Nat} {g : Leg} (hg : legs[j]? = some g) : yds t change legs (j : Int) = some (if LegQ t change legs j g then .nx ((j + 1 : Nat) : Int) else .dn (.ret false)) := by
 have hj := jbf hg
 have no : ¬ LegQ t change legs j g -> (Lp.dn (Fl.ret false) : Lp Int (Fl Bool Unit)) = if LegQ t change legs j g then .nx ((j + 1 : Nat) : Int) else .dn (.ret false) := fun h => (by rw [if_neg h])
 have yes : LegQ t change legs j g -> (Lp.nx (w64 ((j : Int) + 1)) : Lp Int (Fl Bool Unit)) = if LegQ t change legs j g then .nx ((j + 1 : Nat) : Int) else .dn (.ret false) := fun h => (by rw [if_pos h, jaj (by omega)])
 refine Tot.val ?_
 unfold yds
 refine .iteP (fun hc => .flb (.eq (ixs hg) (.eq (yf7 t hb.2 g.Trip) ?_))) (fun hc => absurd (Int.ofNat_lt.2 hj) hc)
 rcases ylo hb hT g with ⟨h1, h2⟩ | ⟨i, x, l, hx, hl, hid, hf, hiff⟩
 ·exact .iteP (fun _ => .ret (no fun hq => h2 hq.1)) (fun h => absurd h1 h)
 rw [hf]
 refine .iteP (fun h => by omega) fun _ => .eq (ixs hx) (.eq (yei hT hx hl g.From g.To) ?_)
 refine .call (P := fun b => (b = true -> ¬ yhz t g) /\ (b = false -> yhz t g)) ?_ fun b hB => .ite (fun h => .ret (no fun hq => hB.1 h hq.1)) fun h => ?_
 ·rw [yp0]
  refine .ite (fun h2 => .ok ⟨fun _ hF => ?_, fun h => by cases h⟩) fun h2 => .ok ⟨fun h1 hF => ?_, fun h => hiff.2 ?_⟩
  ·rw [hiff.1 hF] at h2; cases h2
  ·rw [hiff.1 hF] at h1; simp at h1
  ·have h2 : (fl x l g.From g.To).2 = true := by simpa using h2
   have h1 : (fl x l g.From g.To).1 = g := by simpa using h
   exact Prod.ext h1 h2
 have hF := hB.2 h
 refine .ite (fun h0 => .go (.ok (yes ⟨hF, fun p hp => ?_, fun i p hi => ?_⟩))) fun h0 => ?_
 ·have : j = 0 := by simpa using h0
  omega
 ·have : j = 0 := by simpa using h0
  omega
 have hj0 : 0 < j := by
  have : j ≠ 0 := by simpa using h0
  omega
 obtain ⟨p, hp⟩ := ja9 (l := legs) (i := j - 1) (by omega)
 have ew : w64 ((j : Int) - 1) = ((j - 1 : Nat) : Int) := by rw [jah (by omega)]; omega
 rw [ew]
 refine .eq (ixs hp) (.call (P := fun b => b = decide (¬ (p.To = g.From /\ ¬ g.Depart < w64 (p.Arrive + change)))) (.ite (fun h => .ok ?_) fun h => .eq (ixs hp) (.ok ?_)) fun b hB => ?_)
 ·have : g.From ≠ p.To := by simpa using h
  simp; exact .inl fun e => absurd e.symm this
 ·have : g.From = p.To := by simpa using h
  simp [this]
 subst hB
 refine .iteP (fun hn => .ret (no fun hq => hn (hq.2.1 p hj0 hp))) fun hn => ?_
 have hn := Decidable.not_not.1 hn
 refine .chk (by omega) (.eq (ygg _ (by simp; omega) g) (.iteP (fun hc => .ret (no fun hq => ?_)) fun hc => .go (.ok (yes ⟨hF, fun p' _ hp' => (by rw [hp] at hp'; cases hp'; exact hn), fun i q hi hq e => hc ⟨q, ?_, e⟩⟩))))
 ·obtain ⟨q, hq1, hq2⟩ := hc
  rw [Int.toNat_zero, List.drop_zero] at hq1
  obtain ⟨i, hi⟩ := List.getElem?_of_mem hq1
  have hlt := jbf hi
  rw [List.length_take] at hlt
  rw [List.getElem?_take_of_lt (by omega)] at hi
  exact hq.2.2 i q (by omega) hi hq2
 ·rw [Int.toNat_zero, List.drop_zero]
  refine List.mem_of_getElem? (i := i) ?_
  rw [Int.toNat_natCast, List.getElem?_take_of_lt (by omega)]; exact hq
theorem ygd {t : Timetable} (hb : TB t) (hT : ya4 t) (change : Int) (legs : List Leg) : zq21 t change legs = some (decide (ybr t change legs)) := by
 unfold zq21
 simp only [ybh, qb]
 by_cases h4 : 1 <= legs.length /\ legs.length <= 4
 ·have h4' : 1 <= (legs.length : Int) /\ (legs.length : Int) <= 4 := by omega
  simp only [h4', and_self, decide_true, Bool.not_true, Bool.false_eq_true, if_false]
  rw [jdr (hd := Classical.propDecidable _) legs (LegQ t change legs) (fun i x hx => ?_) (by unfold yds; simp)]
  ·by_cases h : ∀ (i : Nat) x, legs[i]? = some x -> LegQ t change legs i x
   ·rw [if_pos h, decide_eq_true (show ybr t change legs from ⟨h4, h⟩)]
   ·rw [if_neg h, decide_eq_false (fun q : ybr t change legs => h q.2)]
  ·rw [yp2 hb hT change legs h4.2 hx]
   by_cases h : LegQ t change legs i x
   ·exact .inl ⟨by rw [if_pos h], h⟩
   ·exact .inr ⟨by rw [if_neg h], h⟩
 ·have h4' : ¬ (1 <= (legs.length : Int) /\ (legs.length : Int) <= 4) := by omega
  simp only [h4', decide_false, Bool.not_false, if_true]
  rw [decide_eq_false (fun q : ybr t change legs => h4 q.1)]
def yej (t : Timetable) (change : Int) (legs : List Leg) : Prop := (ya4 t /\ 0 <= change /\ change <= 30) /\ ybr t change legs
noncomputable instance (t : Timetable) (change : Int) (legs : List Leg) : Decidable (yej t change legs) := Classical.propDecidable _
theorem yld {t : Timetable} (hb : TB t) (change : Int) (legs : List Leg) : zq4 t change legs = some (decide (yej t change legs)) := by
 unfold zq4 zq19
 rw [yf6 hb]
 by_cases hT : ya4 t
 ·simp only [hT, decide_true, if_true, qb, ybh, ygd hb hT]
  by_cases hc : 0 <= change /\ change <= 30
  ·by_cases hj : ybr t change legs <;> simp [yej, hT, hc, hj]
  ·simp [yej, hc]
 ·simp [yej, hT]
theorem ypz {t : Timetable} (hT : ya4 t) {g : Leg} (h : yhz t g) : (0 <= g.Depart /\ g.Depart <= 1799) /\ (0 <= g.Arrive /\ g.Arrive <= 1799) /\ g.Depart <= g.Arrive := by
 obtain ⟨i, x, l, hx, hl, hid, hfl⟩ := h
 obtain ⟨l', hl', hp, _, hs, he⟩ := ya5 hT hx
 rw [hl] at hl'; cases hl'
 obtain ⟨⟨r1, r2, r3⟩, r4⟩ := ya6 hp
 unfold fl at hfl
 split at hfl
 ·cases hfl
 ·rename_i hn
  have hg := congrArg Prod.fst hfl
  dsimp only at hg
  have e1 : g.Depart = x.Start + (l.Runs.take (fixI (fun e => g.From == e) l.Stops).toNat).sum := (congrArg Leg.Depart hg).symm
  have e2 : g.Arrive = x.Start + (l.Runs.take (fixI (fun e => g.To == e) l.Stops).toNat).sum := (congrArg Leg.Arrive hg).symm
  have mono : ∀ (a b : Nat), a <= b -> (l.Runs.take a).sum <= (l.Runs.take b).sum := by
   intro a b hab
   have : l.Runs.take b = l.Runs.take a ++ (l.Runs.take b).drop a := by
    have := List.take_append_drop a (l.Runs.take b)
    rw [List.take_take, Nat.min_eq_left hab] at this
    exact this.symm
   rw [this, List.sum_append]
   have := jm6 (l := (l.Runs.take b).drop a) fun y hy => by have := r4 y (List.mem_of_mem_take (List.mem_of_mem_drop hy)); omega
   omega
  have m1 := mono (fixI (fun e => g.From == e) l.Stops).toNat (fixI (fun e => g.To == e) l.Stops).toNat (by omega)
  have m2 := mono (fixI (fun e => g.To == e) l.Stops).toNat l.Runs.length (by
   rcases jed (fun e => g.To == e) l.Stops with h | h <;> omega)
  rw [List.take_length] at m2
  have s1 := ybo hp (fixI (fun e => g.From == e) l.Stops).toNat
  omega
def Chn (R : Nat -> Int -> Int -> Int -> Int -> Prop) (ch : Int) : Nat -> Int -> Int -> Int -> Int -> Prop
 | 0, _, _, _, _ => False
 | n + 1, a, w, c, s => ∃ (i : Nat) (d b r : Int), R i a d b r /\ w <= d /\ ((n = 0 /\ b = c /\ r = s) \/ Chn R ch n b (r + ch) c s)
def ybi (R : Nat -> Int -> Int -> Int -> Int -> Prop) (N : Int) : Prop :=
 (∀ i a d b r, R i a d b r -> (0 <= a /\ a < N) /\ (0 <= b /\ b < N) /\ 0 <= d /\ d < r /\ r <= 1799) /\ (∀ i a d b r a' d' b' r', R i a d b r -> R i a' d' b' r' -> r <= d' -> R i a d b' r') /\ ∀ i a d b r d' r', R i a d b r -> R i a d' b r' -> d = d' /\ r = r'
theorem ybq {R : Nat -> Int -> Int -> Int -> Int -> Prop} {ch : Int} {i : Nat} {a d b r w : Int} (h : R i a d b r) (hw : w <= d) : Chn R ch 1 a w b r := ⟨i, d, b, r, h, hw, .inl ⟨rfl, rfl, rfl⟩⟩
theorem ych {R : Nat -> Int -> Int -> Int -> Int -> Prop} {ch : Int} {n i : Nat} {a d b r w c s : Int} (h : R i a d b r) (hw : w <= d) (h2 : Chn R ch n b (r + ch) c s) : Chn R ch (n + 1) a w c s := ⟨i, d, b, r, h, hw, .inr h2⟩
theorem yl0 {R : Nat -> Int -> Int -> Int -> Int -> Prop} {ch : Int} : ∀ {n m : Nat} {a w b r c s : Int}, Chn R ch n a w b r -> Chn R ch m b (r + ch) c s -> Chn R ch (n + m) a w c s
 | 0, _, _, _, _, _, _, _, h, _ => h.elim
 | n + 1, m, a, w, b, r, c, s, ⟨i, d, b', r', h1, h2, h3⟩, h => by
  rw [show n + 1 + m = (n + m) + 1 by omega]
  rcases h3 with ⟨rfl, rfl, rfl⟩ | h3
  ·rw [show 0 + m = m by omega]; exact ych h1 h2 h
  ·exact ych h1 h2 (yl0 h3 h)
theorem yfr {R : Nat -> Int -> Int -> Int -> Int -> Prop} {ch : Int} {n i : Nat} {a w b r d c s : Int} (h : Chn R ch n a w b r) (h2 : R i b d c s) (hd : r + ch <= d) : Chn R ch (n + 1) a w c s := yl0 h (ybq h2 hd)
theorem yfs {R : Nat -> Int -> Int -> Int -> Int -> Prop} {ch : Int} : ∀ {n : Nat} {a w c s : Int}, Chn R ch (n + 1) a w c s -> (n = 0 /\ ∃ (i : Nat) (d : Int), R i a d c s /\ w <= d) \/ ∃ (i : Nat) (b r d : Int), Chn R ch n a w b r /\ R i b d c s /\ r + ch <= d
 | 0, a, w, c, s, ⟨i, d, b, r, h1, h2, h3⟩ => by
  rcases h3 with ⟨_, rfl, rfl⟩ | h3
  ·exact .inl ⟨rfl, i, d, h1, h2⟩
  ·exact h3.elim
 | n + 1, a, w, c, s, ⟨i, d, b, r, h1, h2, h3⟩ => by
  rcases h3 with ⟨h0, _⟩ | h3
  ·omega
  right
  rcases yfs h3 with ⟨rfl, i', d', h4, h5⟩ | ⟨i', b', r', d', h4, h5, h6⟩
  ·exact ⟨i', b, r, d', ybq h1 h2, h4, h5⟩
  ·exact ⟨i', b', r', d', ych h1 h2 h4, h5, h6⟩
theorem ybm {R : Nat -> Int -> Int -> Int -> Int -> Prop} {ch N : Int} (hR : ybi R N) (hc : 0 <= ch) : ∀ {n : Nat} {a w c s : Int}, Chn R ch n a w c s -> w < s /\ s <= 1799 /\ 0 <= s /\ (0 <= a /\ a < N) /\ 0 <= c /\ c < N
 | 0, _, _, _, _, h => h.elim
 | n + 1, a, w, c, s, ⟨i, d, b, r, h1, h2, h3⟩ => by
  have := hR.1 _ _ _ _ _ h1
  rcases h3 with ⟨_, rfl, rfl⟩ | h3
  ·omega
  ·have := ybm hR hc h3
   omega
def MinA (R : Nat -> Int -> Int -> Int -> Int -> Prop) (ch : Int) (n : Nat) (a w c s : Int) : Prop := (∃ k, k <= n /\ Chn R ch k a w c s) /\ ∀ k τ, k <= n -> Chn R ch k a w c τ -> s <= τ
def NoA (R : Nat -> Int -> Int -> Int -> Int -> Prop) (ch : Int) (n : Nat) (a w c : Int) : Prop := ∀ k τ, k <= n -> ¬ Chn R ch k a w c τ
def AB (R : Nat -> Int -> Int -> Int -> Int -> Prop) (ch : Int) (n : Nat) (a w c s : Int) : Prop := (s = 1073741824 /\ NoA R ch n a w c) \/ MinA R ch n a w c s
theorem yfw {R : Nat -> Int -> Int -> Int -> Int -> Prop} {ch : Int} {n : Nat} {a w c s s' : Int} (h : AB R ch n a w c s) (h' : AB R ch n a w c s') : s = s' := by
 rcases h with ⟨h1, h2⟩ | ⟨⟨k, h1, h2⟩, h3⟩ <;> rcases h' with ⟨g1, g2⟩ | ⟨⟨k', g1, g2⟩, g3⟩
 ·omega
 ·exact absurd g2 (h2 _ _ g1)
 ·exact absurd h2 (g2 _ _ h1)
 ·have := h3 _ _ g1 g2; have := g3 _ _ h1 h2; omega
theorem yl4 {R : Nat -> Int -> Int -> Int -> Int -> Prop} {ch N : Int} (hR : ybi R N) (hc : 0 <= ch) {n : Nat} {a w c s : Int} (h : AB R ch n a w c s) : s = 1073741824 \/ (w < s /\ s <= 1799 /\ 0 <= s) := by
 rcases h with ⟨h1, _⟩ | ⟨⟨k, h1, h2⟩, h3⟩
 ·exact .inl h1
 ·have := ybm hR hc h2; exact .inr ⟨this.1, this.2.1, this.2.2.1⟩
def EA (R : Nat -> Int -> Int -> Int -> Int -> Prop) (ch : Int) (n : Nat) (a w c by_ : Int) : Prop := ∃ k τ, k <= n /\ Chn R ch k a w c τ /\ τ <= by_
theorem yl5 {R : Nat -> Int -> Int -> Int -> Int -> Prop} {ch N : Int} (hR : ybi R N) (hc : 0 <= ch) {n : Nat} {a w c s by_ : Int} (h : AB R ch n a w c s) (hb : by_ < 1073741824) : s <= by_ ↔ EA R ch n a w c by_ := by
 constructor
 ·intro hs
  rcases h with ⟨h1, _⟩ | ⟨⟨k, h1, h2⟩, h3⟩
  ·omega
  ·exact ⟨k, s, h1, h2, hs⟩
 ·rintro ⟨k, τ, h1, h2, h3⟩
  rcases h with ⟨_, g2⟩ | ⟨_, g3⟩
  ·exact absurd h2 (g2 _ _ h1)
  ·have := g3 _ _ h1 h2; omega
def yd6 (R : Nat -> Int -> Int -> Int -> Int -> Prop) (N : Int) (rd out : Int -> Int) : Prop := ∀ s, 0 <= s -> s < N -> (out s = 1073741824 /\ ∀ i u d r, R i u d s r -> ¬ rd u <= d) \/ ((∃ (i : Nat) (u d : Int), R i u d s (out s) /\ rd u <= d) /\ ∀ i u d r, R i u d s r -> rd u <= d -> out s <= r)
def ArrI (R : Nat -> Int -> Int -> Int -> Int -> Prop) (ch N : Int) (n : Nat) (a w : Int) (best rd : Int -> Int) : Prop := (∀ s, 0 <= s -> s < N -> AB R ch n a w s (best s)) /\
 ∀ s, 0 <= s -> s < N -> (n = 0 /\ rd s = if s = a then w else 1073741824) \/ (0 < n /\ ((rd s = 1073741824 /\ AB R ch (n - 1) a w s (best s)) \/ (rd s = best s + ch /\ Chn R ch n a w s (best s))))
theorem yne {R : Nat -> Int -> Int -> Int -> Int -> Prop} {ch N : Int} {a w : Int} {best rd : Int -> Int} (hb : ∀ s, 0 <= s -> s < N -> best s = 1073741824) (hr : ∀ s, 0 <= s -> s < N -> rd s = if s = a then w else 1073741824) : ArrI R ch N 0 a w best rd := by
 refine ⟨fun s h0 h1 => .inl ⟨hb s h0 h1, fun k τ hk h => ?_⟩, fun s h0 h1 => .inl ⟨rfl, hr s h0 h1⟩⟩
 have : k = 0 := by omega
 subst this
 exact h
theorem ynf {R : Nat -> Int -> Int -> Int -> Int -> Prop} {ch N : Int} (hR : ybi R N) (hc : 0 <= ch) {n : Nat} {a w : Int} (ha : 0 <= a /\ a < N) {best rd next best' rd' : Int -> Int} (h : ArrI R ch N n a w best rd) (hn : yd6 R N rd next)
  (hb' : ∀ s, 0 <= s -> s < N -> best' s = if next s < best s then next s else best s) (hr' : ∀ s, 0 <= s -> s < N -> rd' s = if next s < best s then next s + ch else 1073741824) : ArrI R ch N (n + 1) a w best' rd' := by
 obtain ⟨h1, h2⟩ := h
 -- what is ridden is a chain
 have snd : ∀ s, 0 <= s -> s < N -> next s = 1073741824 \/ Chn R ch (n + 1) a w s (next s) := by
  intro s s0 s1
  rcases hn s s0 s1 with ⟨g, _⟩ | ⟨⟨i, u, d, g1, g2⟩, _⟩
  ·exact .inl g
  ·right
   have hl := hR.1 _ _ _ _ _ g1
   rcases h2 u hl.1.1 hl.1.2 with ⟨q1, q2⟩ | ⟨q1, ⟨q2, _⟩ | ⟨q2, q3⟩⟩
   ·subst q1
    by_cases hu : u = a
    ·subst hu
     rw [if_pos rfl] at q2
     exact ybq g1 (by omega)
    ·rw [if_neg hu] at q2; omega
   ·omega
   ·exact yfr q3 g1 (by omega)
 -- no chain is earlier
 have low : ∀ s, 0 <= s -> s < N -> ∀ k τ, k <= n + 1 -> Chn R ch k a w s τ -> best s <= τ \/ next s <= τ := by
  intro s s0 s1 k τ hk hch
  have old : ∀ k', k' <= n -> Chn R ch k' a w s τ -> best s <= τ := by
   intro k' hk' hch'
   rcases h1 s s0 s1 with ⟨_, g⟩ | ⟨_, g⟩
   ·exact absurd hch' (g _ _ hk')
   ·exact g _ _ hk' hch'
  have new : ∀ i u d, R i u d s τ -> rd u <= d -> next s <= τ := by
   intro i u d g1 g2
   rcases hn s s0 s1 with ⟨_, g⟩ | ⟨_, g⟩
   ·exact absurd g2 (g _ _ _ _ g1)
   ·exact g _ _ _ _ g1 g2
  by_cases hkn : k <= n
  ·exact .inl (old k hkn hch)
  have : k = n + 1 := by omega
  subst this
  rcases yfs hch with ⟨rfl, i, d, g1, g2⟩ | ⟨i, u, r, d, g1, g2, g3⟩
  ·right
   refine new i a d g1 ?_
   rcases h2 a ha.1 ha.2 with ⟨_, q2⟩ | ⟨q1, _⟩
   ·rw [q2, if_pos rfl]; exact g2
   ·omega
  ·have hl := hR.1 _ _ _ _ _ g2
   rcases h2 u hl.1.1 hl.1.2 with ⟨q1, _⟩ | ⟨q1, ⟨_, q2⟩ | ⟨q2, q3⟩⟩
   ·subst q1; exact g1.elim
   ·left
    rcases h1 u hl.1.1 hl.1.2 with ⟨_, g⟩ | ⟨_, g⟩
    ·exact absurd g1 (g _ _ (Nat.le_refl _))
    ·have hle := g _ _ (Nat.le_refl _) g1
     rcases q2 with ⟨e1, e2⟩ | ⟨⟨k', e1, e2⟩, _⟩
     ·have := ybm hR hc g1; omega
     ·exact old (k' + 1) (by omega) (yfr e2 g2 (by omega))
   ·right
    refine new i u d g2 ?_
    rcases h1 u hl.1.1 hl.1.2 with ⟨_, g⟩ | ⟨_, g⟩
    ·exact absurd g1 (g _ _ (Nat.le_refl _))
    ·have hle := g _ _ (Nat.le_refl _) g1
     omega
 refine ⟨fun s s0 s1 => ?_, fun s s0 s1 => .inr ⟨by omega, ?_⟩⟩
 ·rw [hb' s s0 s1]
  have hl := low s s0 s1
  by_cases hlt : next s < best s
  ·rw [if_pos hlt]
   rcases snd s s0 s1 with e | e
   ·have := yl4 hR hc (h1 s s0 s1); omega
   ·exact .inr ⟨⟨n + 1, Nat.le_refl _, e⟩, fun k τ hk hch => by have := hl k τ hk hch; omega⟩
  ·rw [if_neg hlt]
   rcases h1 s s0 s1 with ⟨e1, e2⟩ | ⟨⟨k, e1, e2⟩, e3⟩
   ·refine .inl ⟨e1, fun k τ hk hch => ?_⟩
    have := hl k τ hk hch
    have := ybm hR hc hch
    omega
   ·exact .inr ⟨⟨k, by omega, e2⟩, fun k τ hk hch => by have := hl k τ hk hch; omega⟩
 ·rw [hr' s s0 s1, hb' s s0 s1]
  by_cases hlt : next s < best s
  ·rw [if_pos hlt, if_pos hlt]
   rcases snd s s0 s1 with e | e
   ·have := yl4 hR hc (h1 s s0 s1); omega
   ·exact .inr ⟨rfl, e⟩
  ·rw [if_neg hlt, if_neg hlt]
   exact .inl ⟨rfl, h1 s s0 s1⟩
def SAB (R : Nat -> Int -> Int -> Int -> Int -> Prop) (ch N : Int) (n : Nat) (a w : Int) (best : Int -> Int) : Prop := best a = w /\ ∀ s, 0 <= s -> s < N -> s ≠ a -> (best s = -1 /\ NoA R ch n a w s) \/ MinA R ch n a w s (best s)
def SRd (ch a w : Int) (n : Nat) (best : Int -> Int) (u d : Int) : Prop := 0 <= best u /\ (if u = a then w else best u + (if n = 0 then 0 else ch)) <= d
def yd9 (R : Nat -> Int -> Int -> Int -> Int -> Prop) (ch N a w : Int) (n : Nat) (best next : Int -> Int) : Prop := ∀ s, 0 <= s -> s < N -> (next s = -1 /\ best s = -1 /\ ∀ i u d r, R i u d s r -> ¬ SRd ch a w n best u d) \/
 (0 <= next s /\ (next s = best s \/ ∃ (i : Nat) (u d : Int), R i u d s (next s) /\ SRd ch a w n best u d) /\ (0 <= best s -> next s <= best s) /\ ∀ i u d r, R i u d s r -> SRd ch a w n best u d -> next s <= r)
theorem ymx {R : Nat -> Int -> Int -> Int -> Int -> Prop} {ch N : Int} {a w : Int} {best : Int -> Int} (h : ∀ s, 0 <= s -> s < N -> best s = if s = a then w else -1) (ha : 0 <= a /\ a < N) : SAB R ch N 0 a w best := by
 refine ⟨by rw [h a ha.1 ha.2, if_pos rfl], fun s s0 s1 hs => .inl ⟨by rw [h s s0 s1, if_neg hs], fun k τ hk h => ?_⟩⟩
 have : k = 0 := by omega
 subst this
 exact h
theorem ylh {R : Nat -> Int -> Int -> Int -> Int -> Prop} {ch N : Int} (hR : ybi R N) (hc : 0 <= ch) {n : Nat} {a w : Int} {best : Int -> Int} (h : SAB R ch N n a w best) {s : Int} (s0 : 0 <= s) (s1 : s < N) : best s = -1 \/ (w <= best s /\ (best s = w \/ best s <= 1799)) := by
 by_cases hs : s = a
 ·subst hs; have := h.1; omega
 ·rcases h.2 s s0 s1 hs with ⟨e, _⟩ | ⟨⟨k, e1, e2⟩, _⟩
  ·exact .inl e
  ·have := ybm hR hc e2; omega
theorem ymy {R : Nat -> Int -> Int -> Int -> Int -> Prop} {ch N : Int} (hR : ybi R N) (hc : 0 <= ch) {n : Nat} {a w : Int} (ha : 0 <= a /\ a < N) (hw : 0 <= w) {best next : Int -> Int} (h : SAB R ch N n a w best) (hn : yd9 R ch N a w n best next) : SAB R ch N (n + 1) a w next := by
 obtain ⟨h1, h2⟩ := h
 have snd : ∀ i u d s r, R i u d s r -> SRd ch a w n best u d -> ∃ k, k <= n + 1 /\ Chn R ch k a w s r := by
  intro i u d s r g1 ⟨g2, g3⟩
  have hl := hR.1 _ _ _ _ _ g1
  by_cases hu : u = a
  ·subst hu
   rw [if_pos rfl] at g3
   exact ⟨1, by omega, ybq g1 g3⟩
  ·rw [if_neg hu] at g3
   rcases h2 u hl.1.1 hl.1.2 hu with ⟨e, _⟩ | ⟨⟨k, e1, e2⟩, _⟩
   ·omega
   ·by_cases hn0 : n = 0
    ·subst hn0
     have : k = 0 := by omega
     subst this
     exact e2.elim
    ·rw [if_neg hn0] at g3
     exact ⟨k + 1, by omega, yfr e2 g1 g3⟩
 have cpl : ∀ k s τ, k <= n + 1 -> Chn R ch k a w s τ -> ∃ (i : Nat) (u d : Int), R i u d s τ /\ SRd ch a w n best u d := by
  intro k s τ hk hch
  cases k with
  | zero => exact hch.elim
  | succ k =>
   rcases yfs hch with ⟨rfl, i, d, g1, g2⟩ | ⟨i, u, r, d, g1, g2, g3⟩
   ·exact ⟨i, a, d, g1, by rw [h1]; exact hw, by rw [if_pos rfl]; exact g2⟩
   ·have hl := hR.1 _ _ _ _ _ g2
    have hlt := ybm hR hc g1
    refine ⟨i, u, d, g2, ?_⟩
    by_cases hu : u = a
    ·subst hu
     exact ⟨by rw [h1]; exact hw, by rw [if_pos rfl]; omega⟩
    ·have hn0 : n ≠ 0 := fun e => by
      have : k = 0 := by omega
      subst this; exact g1.elim
     rcases h2 u hl.1.1 hl.1.2 hu with ⟨_, e⟩ | ⟨⟨k', e1, e2⟩, e3⟩
     ·exact absurd g1 (e _ _ (by omega))
     ·have := e3 _ _ (by omega) g1
      have := ybm hR hc e2
      exact ⟨by omega, by rw [if_neg hu, if_neg hn0]; omega⟩
 refine ⟨?_, fun s s0 s1 hs => ?_⟩
 ·rcases hn a ha.1 ha.2 with ⟨e1, e2, _⟩ | ⟨e1, e2, e3, e4⟩
  ·omega
  ·rcases e2 with e2 | ⟨i, u, d, g1, g2⟩
   ·omega
   ·obtain ⟨k, k1, k2⟩ := snd i u d a _ g1 g2
    have := ybm hR hc k2
    have := e3 (by omega)
    omega
 ·rcases hn s s0 s1 with ⟨e1, e2, e3⟩ | ⟨e1, e2, e3, e4⟩
  ·refine .inl ⟨e1, fun k τ hk hch => ?_⟩
   obtain ⟨i, u, d, g1, g2⟩ := cpl k s τ hk hch
   exact e3 _ _ _ _ g1 g2
  ·right
   refine ⟨?_, fun k τ hk hch => ?_⟩
   ·rcases e2 with e2 | ⟨i, u, d, g1, g2⟩
    ·rw [e2]
     rcases h2 s s0 s1 hs with ⟨e, _⟩ | ⟨⟨k, k1, k2⟩, _⟩
     ·omega
     ·exact ⟨k, by omega, k2⟩
    ·exact snd i u d s _ g1 g2
   ·obtain ⟨i, u, d, g1, g2⟩ := cpl k s τ hk hch
    exact e4 _ _ _ _ g1 g2
theorem yqr {R : Nat -> Int -> Int -> Int -> Int -> Prop} {ch N : Int} (hR : ybi R N) (hc : 0 <= ch) {n : Nat} {a w : Int} {best : Int -> Int} (h : SAB R ch N n a w best) {s b : Int} (s0 : 0 <= s) (s1 : s < N) (hs : s ≠ a) (hb : AB R ch n a w s b) : best s = if b = 1073741824 then -1 else b := by
 rcases h.2 s s0 s1 hs with ⟨e1, e2⟩ | ⟨⟨k, e1, e2⟩, e3⟩ <;> rcases hb with ⟨g1, g2⟩ | ⟨⟨k', g1, g2⟩, g3⟩
 ·rw [if_pos g1]; exact e1
 ·exact absurd g2 (e2 _ _ g1)
 ·exact absurd e2 (g2 _ _ e1)
 ·have := e3 _ _ g1 g2
  have := g3 _ _ e1 e2
  have := ybm hR hc g2
  rw [if_neg (by have := g3 _ _ g1 g2; omega)]
  omega
def Pk (R : Nat -> Int -> Int -> Int -> Int -> Prop) (ch to by_ : Int) (n : Nat) (a w : Int) (i : Nat) (s : Int) : Prop := ∃ d r, R i a d s r /\ w <= d /\ ((n = 1 /\ s = to /\ r <= by_) \/ (1 < n /\ EA R ch (n - 1) s (r + ch) to by_))
def FPk (R : Nat -> Int -> Int -> Int -> Int -> Prop) (ch to by_ : Int) (n : Nat) (a w : Int) (i : Nat) (s : Int) : Prop := Pk R ch to by_ n a w i s /\ ∀ i' s', (i' < i \/ i' = i /\ s' < s) -> ¬ Pk R ch to by_ n a w i' s'
theorem ym9 {R : Nat -> Int -> Int -> Int -> Int -> Prop} {ch to by_ : Int} {n : Nat} {a w : Int} {i i' : Nat} {s s' : Int} (h : FPk R ch to by_ n a w i s) (h' : FPk R ch to by_ n a w i' s') : i = i' /\ s = s' := by
 have h1 : ¬ (i' < i \/ i' = i /\ s' < s) := fun q => h.2 i' s' q h'.1
 have h2 : ¬ (i < i' \/ i = i' /\ s < s') := fun q => h'.2 i s q h.1
 omega
def XN (R : Nat -> Int -> Int -> Int -> Int -> Prop) (ch to by_ : Int) (n : Nat) (a w : Int) : Prop := EA R ch n a w to by_ /\ ¬ EA R ch (n - 1) a w to by_
theorem yd3 {R : Nat -> Int -> Int -> Int -> Int -> Prop} {ch c by_ : Int} {n m : Nat} {a w : Int} (h : EA R ch n a w c by_) (hm : n <= m) : EA R ch m a w c by_ := by
 obtain ⟨k, τ, h1, h2⟩ := h; exact ⟨k, τ, by omega, h2⟩
theorem yby {R : Nat -> Int -> Int -> Int -> Int -> Prop} {ch c by_ : Int} {n i : Nat} {a d b r w : Int} (h : R i a d b r) (hw : w <= d) (h2 : EA R ch n b (r + ch) c by_) : EA R ch (n + 1) a w c by_ := by
 obtain ⟨k, τ, h3, h4, h5⟩ := h2; exact ⟨k + 1, τ, by omega, ych h hw h4, h5⟩
theorem x_pk {R : Nat -> Int -> Int -> Int -> Int -> Prop} {ch to by_ : Int} {n : Nat} {a w : Int} (h : XN R ch to by_ (n + 1) a w) : ∃ (i : Nat) (s : Int), Pk R ch to by_ (n + 1) a w i s := by
 obtain ⟨⟨k, τ, h1, h2, h3⟩, h4⟩ := h
 have hk : k = n + 1 := by
  rcases Nat.lt_or_ge k (n + 1) with hk | hk
  ·exact absurd ⟨k, τ, by omega, h2, h3⟩ h4
  ·omega
 subst hk
 obtain ⟨i, d, b, r, g1, g2, g3⟩ := h2
 rcases g3 with ⟨rfl, rfl, rfl⟩ | g3
 ·exact ⟨i, b, d, r, g1, g2, .inl ⟨rfl, rfl, h3⟩⟩
 ·refine ⟨i, b, d, r, g1, g2, .inr ⟨?_, n, τ, by omega, g3, h3⟩⟩
  cases n with
  | zero => exact g3.elim
  | succ n => omega
theorem pk_x {R : Nat -> Int -> Int -> Int -> Int -> Prop} {ch N to by_ : Int} (hR : ybi R N) {n : Nat} {a w : Int} (h : XN R ch to by_ (n + 1) a w) {i : Nat} {s d r : Int} (hp : Pk R ch to by_ (n + 1) a w i s) (hr : R i a d s r) : w <= d /\ ((n = 0 /\ s = to /\ r <= by_) \/ (0 < n /\ XN R ch to by_ n s (r + ch))) := by
 obtain ⟨d', r', h1, h2, h3⟩ := hp
 obtain ⟨rfl, rfl⟩ := hR.2.2 _ _ _ _ _ _ _ h1 hr
 refine ⟨h2, ?_⟩
 rcases h3 with ⟨e, h3, h4⟩ | ⟨e, h3⟩
 ·exact .inl ⟨by omega, h3, h4⟩
 ·refine .inr ⟨by omega, by simpa using h3, fun hn => h.2 ?_⟩
  have := yby h1 h2 hn
  rw [show n - 1 + 1 = n + 1 - 1 by omega] at this
  exact this
def yb8 (R : Nat -> Int -> Int -> Int -> Int -> Prop) (ch : Int) (tid : Nat -> Int) (to by_ : Int) : Nat -> Int -> Int -> List Leg -> Prop
 | 0, _, _, L => L = []
 | n + 1, a, w, L => ∃ (i : Nat) (d s r : Int) (L' : List Leg), FPk R ch to by_ (n + 1) a w i s /\ R i a d s r /\ w <= d /\ L = ⟨tid i, a, s, d, r⟩ :: L' /\ yb8 R ch tid to by_ n s (r + ch) L'
theorem yeh {R : Nat -> Int -> Int -> Int -> Int -> Prop} {ch N : Int} (hR : ybi R N) {tid : Nat -> Int} {to by_ : Int} : ∀ {n : Nat} {a w : Int} {L L' : List Leg}, yb8 R ch tid to by_ n a w L -> yb8 R ch tid to by_ n a w L' -> L = L'
 | 0, _, _, _, _, h, h' => by rw [show _ = _ from h, show _ = _ from h']
 | n + 1, a, w, L, L', ⟨i, d, s, r, M, h1, h2, h3, h4, h5⟩, ⟨i', d', s', r', M', g1, g2, g3, g4, g5⟩ => by
  obtain ⟨rfl, rfl⟩ := ym9 h1 g1
  obtain ⟨rfl, rfl⟩ := hR.2.2 _ _ _ _ _ _ _ h2 g2
  rw [h4, g4, yeh hR h5 g5]
theorem yd2 {R : Nat -> Int -> Int -> Int -> Int -> Prop} {ch : Int} {tid : Nat -> Int} {to by_ : Int} : ∀ {n : Nat} {a w : Int} {L : List Leg}, yb8 R ch tid to by_ n a w L -> L.length = n
 | 0, _, _, _, h => by rw [show _ = _ from h]; rfl
 | n + 1, a, w, L, ⟨i, d, s, r, M, h1, h2, h3, h4, h5⟩ => by rw [h4, List.length_cons, yd2 h5]
def LLs (R : Nat -> Int -> Int -> Int -> Int -> Prop) (ch : Int) (tid : Nat -> Int) : List Leg -> Int -> Int -> Int -> Int -> Prop
 | [], a, w, b, w' => a = b /\ w = w'
 | g :: L, a, w, b, w' => ∃ (i : Nat) (d s r : Int), R i a d s r /\ w <= d /\ g = ⟨tid i, a, s, d, r⟩ /\ LLs R ch tid L s (r + ch) b w'
theorem yhs {R : Nat -> Int -> Int -> Int -> Int -> Prop} {ch : Int} {tid : Nat -> Int} {i : Nat} {d s r : Int} : ∀ {L : List Leg} {a w b w' : Int}, LLs R ch tid L a w b w' -> R i b d s r -> w' <= d -> LLs R ch tid (L ++ [⟨tid i, b, s, d, r⟩]) a w s (r + ch)
 | [], a, w, b, w', ⟨h1, h2⟩, hr, hd => by subst h1; subst h2; exact ⟨i, d, s, r, hr, hd, rfl, rfl, rfl⟩
 | g :: L, a, w, b, w', ⟨i', d', s', r', h1, h2, h3, h4⟩, hr, hd => ⟨i', d', s', r', h1, h2, h3, yhs h4 hr hd⟩
theorem yqt {R : Nat -> Int -> Int -> Int -> Int -> Prop} {ch N : Int} (hR : ybi R N) (hc : 0 <= ch) {tid : Nat -> Int} : ∀ {L : List Leg} {a w b w' : Int}, LLs R ch tid L a w b w' -> w <= w'
 | [], a, w, b, w', ⟨h1, h2⟩ => by omega
 | g :: L, a, w, b, w', ⟨i', d', s', r', h1, h2, h3, h4⟩ => by
  have := hR.1 _ _ _ _ _ h1
  have := yqt hR hc h4
  omega
theorem ypy {R : Nat -> Int -> Int -> Int -> Int -> Prop} {ch : Int} {tid : Nat -> Int} {c by_ : Int} {k : Nat} : ∀ {L : List Leg} {a w b w' : Int}, LLs R ch tid L a w b w' -> EA R ch k b w' c by_ -> EA R ch (L.length + k) a w c by_
 | [], a, w, b, w', ⟨h1, h2⟩, h => by subst h1; subst h2; rw [List.length_nil, Nat.zero_add]; exact h
 | g :: L, a, w, b, w', ⟨i', d', s', r', h1, h2, h3, h4⟩, h => by
  rw [List.length_cons, show L.length + 1 + k = (L.length + k) + 1 by omega]
  exact yby h1 h2 (ypy h4 h)
theorem yft {R : Nat -> Int -> Int -> Int -> Int -> Prop} {ch : Int} {tid : Nat -> Int} {c τ : Int} {k : Nat} : ∀ {L : List Leg} {a w b w' : Int}, LLs R ch tid L a w b w' -> Chn R ch k b w' c τ -> Chn R ch (L.length + k) a w c τ
 | [], a, w, b, w', ⟨h1, h2⟩, h => by subst h1; subst h2; rw [List.length_nil, Nat.zero_add]; exact h
 | g :: L, a, w, b, w', ⟨i', d', s', r', h1, h2, h3, h4⟩, h => by
  rw [List.length_cons, show L.length + 1 + k = (L.length + k) + 1 by omega]
  exact ych h1 h2 (yft h4 h)
theorem yhr {R : Nat -> Int -> Int -> Int -> Int -> Prop} {ch N : Int} (hR : ybi R N) (hc : 0 <= ch) {tid : Nat -> Int} {c by_ : Int} {m i : Nat} {d s r : Int} (hfin : (m = 0 /\ s = c /\ r <= by_) \/ EA R ch m s (r + ch) c by_) :
  ∀ {L : List Leg} {a w b w' : Int}, LLs R ch tid L a w b w' -> R i b d s r -> w' <= d -> (∃ g ∈ L, g.Trip = tid i) -> (∀ i' a' d' s' r', R i' a' d' s' r' -> tid i' = tid i -> i' = i) -> EA R ch (L.length + m) a w c by_
 | [], _, _, _, _, _, _, _, ⟨g, hg, _⟩, _ => by cases hg
 | g :: L, a, w, b, w', ⟨i', d', s', r', h1, h2, h3, h4⟩, hr, hd, ⟨g', hg, he⟩, hi => by
  by_cases hgi : tid i' = tid i
  ·have := hi _ _ _ _ _ h1 hgi
   subst this
   have hle := yqt hR hc h4
   have h5 := hR.2.1 _ _ _ _ _ _ _ _ _ h1 hr (by omega)
   rcases hfin with ⟨rfl, rfl, hby⟩ | hfin
   ·exact ⟨1, r, by simp, ybq h5 h2, hby⟩
   ·rw [List.length_cons, show L.length + 1 + m = (L.length + m) + 1 by omega]
    exact yby h5 h2 (yd3 hfin (by omega))
  ·have hm : g' ∈ L := by
    rcases List.mem_cons.1 hg with rfl | hm
    ·exfalso; rw [h3] at he; exact hgi he
    ·exact hm
   rw [List.length_cons, show L.length + 1 + m = (L.length + m) + 1 by omega]
   exact yby h1 h2 (yhr hR hc hfin h4 hr hd ⟨g', hm, he⟩ hi)
theorem yi9 {R : Nat -> Int -> Int -> Int -> Int -> Prop} {ch N : Int} (hR : ybi R N) {tid : Nat -> Int} {to by_ : Int} : ∀ {n : Nat} {a w : Int} {L : List Leg}, XN R ch to by_ (n + 1) a w -> yb8 R ch tid to by_ (n + 1) a w L ->
  ∃ (M : List Leg) (i : Nat) (b d r w' : Int), LLs R ch tid M a w b w' /\ R i b d to r /\ w' <= d /\ r <= by_ /\ L = M ++ [⟨tid i, b, to, d, r⟩] /\ M.length = n
 | 0, a, w, L, hx, ⟨i, d, s, r, M, h1, h2, h3, h4, h5⟩ => by
  rcases (pk_x hR hx h1.1 h2).2 with ⟨_, rfl, hb⟩ | ⟨h, _⟩
  ·exact ⟨[], i, a, d, r, w, ⟨rfl, rfl⟩, h2, h3, hb, by rw [h4, show M = [] from h5]; rfl, rfl⟩
  ·omega
 | n + 1, a, w, L, hx, ⟨i, d, s, r, M, h1, h2, h3, h4, h5⟩ => by
  rcases (pk_x hR hx h1.1 h2).2 with ⟨h, _⟩ | ⟨_, hx'⟩
  ·omega
  ·obtain ⟨M', i', b, d', r', w', g1, g2, g3, g4, g5, g6⟩ := yi9 hR hx' h5
   exact ⟨⟨tid i, a, s, d, r⟩ :: M', i', b, d', r', w', ⟨i, d, s, r, h2, h3, rfl, g1⟩, g2, g3, g4, by rw [h4, g5]; rfl, by simp [g6]⟩
theorem yi5 {R : Nat -> Int -> Int -> Int -> Int -> Prop} {ch N : Int} (hR : ybi R N) (hc : 0 <= ch) {tid : Nat -> Int} {c by_ : Int} {k : Nat} (hi : ∀ i' a' d' s' r' i a d s r, R i' a' d' s' r' -> R i a d s r -> tid i' = tid i -> i' = i) :
  ∀ {L : List Leg} {a w b w' : Int}, LLs R ch tid L a w b w' -> ((k = 0 /\ b = c /\ ∃ r, w' = r + ch /\ r <= by_) \/ EA R ch k b w' c by_) -> ¬ EA R ch (L.length + k - 1) a w c by_ -> L.Pairwise fun g h => g.Trip ≠ h.Trip
 | [], _, _, _, _, _, _, _ => List.Pairwise.nil
 | g :: L, a, w, b, w', ⟨i, d, s, r, h1, h2, h3, h4⟩, hfin, hn => by
  have hn' : ¬ EA R ch (L.length + k - 1) s (r + ch) c by_ := by
   intro h
   refine hn ?_
   by_cases h0 : L.length + k = 0
   ·obtain ⟨k', τ, e1, e2, e3⟩ := h
    have : k' = 0 := by omega
    subst this; exact e2.elim
   ·have := yby h1 h2 h
    rw [show L.length + k - 1 + 1 = (g :: L).length + k - 1 by simp; omega] at this
    exact this
  refine List.pairwise_cons.2 ⟨fun g' hg' he => ?_, yi5 hR hc hi h4 hfin hn'⟩
  -- the part of L before g'
  obtain ⟨L1, L2, rfl⟩ := List.append_of_mem hg'
  have spl : ∀ {L1 : List Leg} {a w b w' : Int}, LLs R ch tid (L1 ++ g' :: L2) a w b w' -> ∃ (i' : Nat) (d' s' r' b1 w1 : Int), LLs R ch tid L1 a w b1 w1 /\ R i' b1 d' s' r' /\ w1 <= d' /\ g' = ⟨tid i', b1, s', d', r'⟩ /\ LLs R ch tid L2 s' (r' + ch) b w' := by
   intro L1
   induction L1 with
   | nil => rintro a w b w' ⟨i', d', s', r', q1, q2, q3, q4⟩; exact ⟨i', d', s', r', a, w, ⟨rfl, rfl⟩, q1, q2, q3, q4⟩
   | cons x L1 ih =>
    rintro a w b w' ⟨i', d', s', r', q1, q2, q3, q4⟩
    obtain ⟨i2, d2, s2, r2, b1, w1, p1, p2, p3, p4, p5⟩ := ih q4
    exact ⟨i2, d2, s2, r2, b1, w1, ⟨i', d', s', r', q1, q2, q3, p1⟩, p2, p3, p4, p5⟩
  obtain ⟨i', d', s', r', b1, w1, p1, p2, p3, p4, p5⟩ := spl h4
  have e : tid i = tid i' := by rw [h3, p4] at he; exact he
  have hfin2 : (L2.length + k = 0 /\ s' = c /\ r' <= by_) \/ EA R ch (L2.length + k) s' (r' + ch) c by_ := by
   rcases hfin with ⟨rfl, rfl, r0, e1, e2⟩ | hfin
   ·cases L2 with
    | nil =>
     obtain ⟨q1, q2⟩ := p5
     exact .inl ⟨rfl, q1, by omega⟩
    | cons x L2 =>
     right
     clear hn hn' h4 hg' spl
     -- the last leg comes in time
     have lst : ∀ {L2 : List Leg} {x : Leg} {a w : Int}, LLs R ch tid (x :: L2) a w b w' -> EA R ch (L2.length + 1) a w b by_ := by
      intro L2
      induction L2 with
      | nil =>
       rintro x a w ⟨i3, d3, s3, r3, q1, q2, q3, q4, q5⟩
       subst q4
       exact ⟨1, r3, by simp, ybq q1 q2, by omega⟩
      | cons y L2 ih =>
       rintro x a w ⟨i3, d3, s3, r3, q1, q2, q3, q4⟩
       exact yby q1 q2 (ih q4)
     have := lst p5
     simpa using this
   ·exact .inr (ypy p5 hfin)
  have := yhr hR hc (m := L2.length + k) hfin2 (L := g :: L1) (a := a) (w := w) (b := b1) (w' := w1) ⟨i, d, s, r, h1, h2, h3, p1⟩ p2 p3 ⟨g, List.mem_cons_self .., by rw [h3]; exact e⟩ (fun i2 a2 d2 s2 r2 q1 q2 => hi _ _ _ _ _ _ _ _ _ _ q1 p2 q2)
  refine hn (yd3 this ?_)
  simp; omega
def gv (l : List Int) (s : Int) : Int := l.getD s.toNat 0
theorem yba {l : List Int} {s : Int} (h0 : 0 <= s) (h1 : s < l.length) : idx l s = some (gv l s) := by
 obtain ⟨x, hx, h2, _⟩ := jc5 h0 h1
 rw [hx]; unfold gv; rw [List.getD_eq_getElem?_getD, h2]; rfl
theorem ybl {l : List Int} {s : Int} (h0 : 0 <= s) (h1 : s < l.length) (x u : Int) (hu : 0 <= u) : gv (l.set s.toNat x) u = if u = s then x else gv l u := by
 unfold gv
 rw [List.getD_eq_getElem?_getD, List.getD_eq_getElem?_getD]
 by_cases h : u = s
 ·subst h; rw [if_pos rfl, List.getElem?_set_self (by omega)]; rfl
 ·rw [if_neg h, List.getElem?_set_ne (by omega)]
theorem yi8 {n : Nat} {c s : Int} (h0 : 0 <= s) (h1 : s < n) : gv (List.replicate n c) s = c := by
 unfold gv; rw [List.getD_eq_getElem?_getD, List.getElem?_replicate, if_pos (by omega)]; rfl
def LR (t : Timetable) (i : Nat) (a d b r : Int) : Prop := ∃ (x : Trip) (l : Line) (p q : Nat), t.Trips[i]? = some x /\ idx t.Network.Lines x.Line = some l /\ p < q /\ l.Stops[p]? = some a /\ l.Stops[q]? = some b /\ d = x.Start + (l.Runs.take p).sum /\ r = x.Start + (l.Runs.take q).sum
theorem yhq {st : Nat} {l : Line} (hp : ybd st l) : ∀ {p q : Nat}, p < q -> q <= l.Runs.length -> (l.Runs.take p).sum < (l.Runs.take q).sum := by
 obtain ⟨⟨r1, r2, r3⟩, r4⟩ := ya6 hp
 intro p q
 induction q with
 | zero => omega
 | succ q ih =>
  intro h1 h2
  obtain ⟨e, he⟩ := ja9 (l := l.Runs) (i := q) (by omega)
  have := r4 e (List.mem_of_getElem? he)
  rw [jdk he]
  by_cases hpq : p = q
  ·subst hpq; omega
  ·have := ih (by omega) (by omega); omega
theorem ypv {st : Nat} {l : Line} (hp : ybd st l) {p q : Nat} (h : p <= q) (h2 : q <= l.Runs.length) : (l.Runs.take p).sum <= (l.Runs.take q).sum := by
 by_cases h3 : p = q
 ·subst h3; omega
 ·have := yhq hp (p := p) (q := q) (by omega) h2; omega
theorem ycb {st : Nat} {l : Line} (hp : ybd st l) {p q : Nat} {s : Int} (h : l.Stops[p]? = some s) (h2 : l.Stops[q]? = some s) : p = q := by
 have := (hp.2.2.1 p s h).2
 have := (hp.2.2.1 q s h2).2
 omega
theorem yb2 {t : Timetable} (hT : ya4 t) : ybi (LR t) (t.Network.Stops.length : Int) := by
 refine ⟨?_, ?_, ?_⟩
 ·rintro i a d b r ⟨x, l, p, q, hx, hl, hpq, hp, hq, rfl, rfl⟩
  obtain ⟨l', hl', hP, _, hs, he⟩ := ya5 hT hx
  rw [hl] at hl'; cases hl'
  obtain ⟨⟨r1, r2, r3⟩, _⟩ := ya6 hP
  have := ycc hP hp
  have := ycc hP hq
  have := jbf hq
  have h1 := yhq hP hpq (by omega)
  have h2 := ypv hP (p := q) (q := l.Runs.length) (by omega) (Nat.le_refl _)
  have h3 := ybo hP p
  rw [List.take_length] at h2
  omega
 ·rintro i a d b r a' d' b' r' ⟨x, l, p, q, hx, hl, hpq, hp, hq, rfl, rfl⟩ ⟨x', l', p', q', hx', hl', hpq', hp', hq', rfl, rfl⟩ hle
  rw [hx] at hx'; cases hx'
  rw [hl] at hl'; cases hl'
  obtain ⟨l', hl', hP, _⟩ := ya5 hT hx
  rw [hl] at hl'; cases hl'
  obtain ⟨⟨r1, r2, r3⟩, _⟩ := ya6 hP
  have := jbf hq
  have : q <= p' := by
   rcases Nat.lt_or_ge p' q with h | h
   ·have := yhq hP h (by omega); omega
   ·exact h
  exact ⟨x, l, p, q', hx, hl, by omega, hp, hq', rfl, rfl⟩
 ·rintro i a d b r d' r' ⟨x, l, p, q, hx, hl, hpq, hp, hq, rfl, rfl⟩ ⟨x', l', p', q', hx', hl', hpq', hp', hq', rfl, rfl⟩
  rw [hx] at hx'; cases hx'
  rw [hl] at hl'; cases hl'
  obtain ⟨l', hl', hP, _⟩ := ya5 hT hx
  rw [hl] at hl'; cases hl'
  have := ycb hP hp hp'
  have := ycb hP hq hq'
  subst_vars
  exact ⟨rfl, rfl⟩
theorem ynb {N : Nat} (c : Int) {step : Int × List Int -> Option (Lp (Int × List Int) (List Int))} (hstep : ∀ (v : Nat) (a : List Int) (y : Int), a.length = N -> a[v]? = some y -> v < N -> step ((v : Int), a) = some (.nx (((v + 1 : Nat) : Int), a.set v c)))
  (hend : ∀ a, a.length = N -> step ((N : Int), a) = some (.dn a)) (l0 : List Int) (h0 : l0.length = N) : iter step (0, l0) = some (List.replicate N c) := by
 have h := jkk (fun _ : Int => c) (List.replicate N (0 : Int)) l0 (by simp [h0]) (step := step) (fun i a x y ha hy hx => by
  have := jbf hx
  simp at this ha
  exact hstep i a y ha hy this) (fun a ha => by simp at ha ⊢; exact hend a ha)
 rw [h, List.map_replicate]
theorem yjj {t : Timetable} (hN : t.Network.Stops.length <= 1000) {stop : Int} (h0 : 0 <= stop /\ stop < (t.Network.Stops.length : Int)) (at_ : Int) : zq29 t stop at_ = some ((List.replicate t.Network.Stops.length 1073741824).set stop.toNat at_) := by
 unfold zq29
 rw [ja5 (by omega), qb, ynb (N := t.Network.Stops.length) 1073741824 (fun v a y ha hy hv => ?_) (fun a ha => ?_) _ (by simp)]
 ·rw [qb, yba h0.1 (by simp; omega)]; rfl
 ·exact Tot.val (by unfold yfc; exact .iteP (fun _ => .eq (ixs hy) (.dn' (by rw [jaj (by omega)]; rfl))) (fun h => absurd (by simp; omega) h))
 ·exact Tot.val (by unfold yfc; exact .iteP (fun h => absurd h (by simp; try omega)) (fun _ => .dn' rfl))
def RBj (t : Timetable) (i j : Nat) (k : Nat) (a d b r : Int) : Prop := ∃ (x : Trip) (l : Line) (p q : Nat), (k < i \/ k = i /\ q < j) /\ t.Trips[k]? = some x /\ idx t.Network.Lines x.Line = some l /\ p < q /\ l.Stops[p]? = some a /\ l.Stops[q]? = some b /\ d = x.Start + (l.Runs.take p).sum /\ r = x.Start + (l.Runs.take q).sum
theorem yd0 {R R' : Nat -> Int -> Int -> Int -> Int -> Prop} {N : Int} {rd out : Int -> Int} (h : ∀ k a d b r, R k a d b r ↔ R' k a d b r) (hr : yd6 R N rd out) : yd6 R' N rd out := by
 have : R = R' := by funext k a d b r; exact propext (h k a d b r)
 rw [<- this]; exact hr
theorem ypx {t : Timetable} (hT : ya4 t) {ready : List Int} (hr : ready.length = t.Network.Stops.length) {i : Nat} {x : Trip} {l : Line} (hx : t.Trips[i]? = some x) (hl : idx t.Network.Lines x.Line = some l) (out : List Int) (ho : out.length = t.Network.Stops.length) (hR : yd6 (RBj t i 0) (t.Network.Stops.length : Int) (gv ready) (gv out)) :
  Tot (iter (ye9 ready (ST l x.Start) l) (false, (0 : Int), out)) fun o => o.length = t.Network.Stops.length /\ yd6 (RBj t (i + 1) 0) (t.Network.Stops.length : Int) (gv ready) (gv o) := by
 obtain ⟨l', hl', hP, _, hs, he⟩ := ya5 hT hx
 rw [hl] at hl'; cases hl'
 obtain ⟨⟨r1, r2, r3⟩, _⟩ := ya6 hP
 refine .iter (fun m s => ∃ j : Nat, s.2.1 = (j : Int) /\ m + j = l.Stops.length /\ s.2.2.length = t.Network.Stops.length /\ yd6 (RBj t i j) (t.Network.Stops.length : Int) (gv ready) (gv s.2.2) /\
  (s.1 = true ↔ ∃ (p : Nat) (sp : Int), p < j /\ l.Stops[p]? = some sp /\ gv ready sp <= x.Start + (l.Runs.take p).sum)) (n := l.Stops.length) ⟨0, rfl, by omega, ho, hR, by simp⟩ ?_
 rintro m ⟨on, v, o⟩ ⟨j, hv, hm, hlen, hI, hon⟩
 dsimp only at hv hlen hI hon
 subst hv
 unfold ye9
 dsimp only
 refine .iteP (fun hc => ?_) (fun hc => .dn ⟨hlen, yd0 (fun k a d b r => ?_) hI⟩)
 ·obtain ⟨s, hsj⟩ := ja9 (l := l.Stops) (i := j) (by omega)
  have hb := ycc hP hsj
  have hT2 := yhy (l := l) (s := x.Start) (k := j) (by omega)
  -- legs to other places, to this one
  have key : ∀ o' : List Int, o'.length = t.Network.Stops.length -> (∀ u, 0 <= u -> u ≠ s -> gv o' u = gv o u) -> (gv o' s = if on = true then (if x.Start + (l.Runs.take j).sum < gv o s then x.Start + (l.Runs.take j).sum else gv o s) else gv o s) -> yd6 (RBj t i (j + 1)) (t.Network.Stops.length : Int) (gv ready) (gv o') := by
   intro o' _ h1 h2 u u0 u1
   by_cases hu : u = s
   ·subst hu
    have toS : ∀ k a d r, RBj t i (j + 1) k a d u r -> RBj t i j k a d u r \/ (k = i /\ r = x.Start + (l.Runs.take j).sum /\ ∃ p, p < j /\ l.Stops[p]? = some a /\ d = x.Start + (l.Runs.take p).sum) := by
     rintro k a d r ⟨x', l', p, q, hk, hx', hl', hpq, hp, hq, rfl, rfl⟩
     rcases hk with hk | ⟨rfl, hk⟩
     ·exact .inl ⟨x', l', p, q, .inl hk, hx', hl', hpq, hp, hq, rfl, rfl⟩
     ·rw [hx] at hx'; cases hx'
      rw [hl] at hl'; cases hl'
      have := ycb hP hq hsj
      subst this
      exact .inr ⟨rfl, rfl, p, hpq, hp, rfl⟩
    have frS : ∀ k a d r, RBj t i j k a d u r -> RBj t i (j + 1) k a d u r := by
     rintro k a d r ⟨x', l', p, q, hk, h⟩
     exact ⟨x', l', p, q, by omega, h⟩
    rcases Bool.eq_false_or_eq_true on with ht | hf
    ·subst ht
     rw [if_pos rfl] at h2
     obtain ⟨p, sp, p1, p2, p3⟩ := hon.1 rfl
     have leg : RBj t i (j + 1) i sp (x.Start + (l.Runs.take p).sum) u (x.Start + (l.Runs.take j).sum) := ⟨x, l, p, j, .inr ⟨rfl, by omega⟩, hx, hl, p1, p2, hsj, rfl, rfl⟩
     have hTb := ybo hP j
     by_cases hlt : x.Start + (l.Runs.take j).sum < gv o u
     ·rw [if_pos hlt] at h2
      right
      rw [h2]
      refine ⟨⟨i, sp, _, leg, p3⟩, fun k a d r hr hd => ?_⟩
      rcases toS _ _ _ _ hr with h | ⟨_, h, _⟩
      ·rcases hI u u0 u1 with ⟨_, g⟩ | ⟨_, g⟩
       ·exact absurd hd (g _ _ _ _ h)
       ·have := g _ _ _ _ h hd; omega
      ·omega
     ·rw [if_neg hlt] at h2
      rcases hI u u0 u1 with ⟨g, _⟩ | ⟨⟨k, a, d, g1, g2⟩, g3⟩
      ·omega
      ·right
       rw [h2]
       refine ⟨⟨k, a, d, frS _ _ _ _ g1, g2⟩, fun k a d r hr hd => ?_⟩
       rcases toS _ _ _ _ hr with h | ⟨_, h, _⟩
       ·exact g3 _ _ _ _ h hd
       ·omega
    ·subst hf
     rw [if_neg (by simp)] at h2
     have nor : ∀ k a d r, RBj t i (j + 1) k a d u r -> gv ready a <= d -> RBj t i j k a d u r := by
      intro k a d r hr hd
      rcases toS _ _ _ _ hr with h | ⟨_, _, p, p1, p2, p3⟩
      ·exact h
      ·exact absurd (hon.2 ⟨p, a, p1, p2, by rw [<- p3]; exact hd⟩) (by simp)
     rw [h2]
     rcases hI u u0 u1 with ⟨g, g'⟩ | ⟨⟨k, a, d, g1, g2⟩, g3⟩
     ·exact .inl ⟨g, fun k a d r hr hd => g' _ _ _ _ (nor _ _ _ _ hr hd) hd⟩
     ·exact .inr ⟨⟨k, a, d, frS _ _ _ _ g1, g2⟩, fun k a d r hr hd => g3 _ _ _ _ (nor _ _ _ _ hr hd) hd⟩
   ·have e : ∀ k a d r, RBj t i (j + 1) k a d u r ↔ RBj t i j k a d u r := by
     intro k a d r
     constructor
     ·rintro ⟨x', l', p, q, hk, hx', hl', hpq, hp, hq, h1, h2⟩
      refine ⟨x', l', p, q, ?_, hx', hl', hpq, hp, hq, h1, h2⟩
      rcases hk with hk | ⟨rfl, hk⟩
      ·exact .inl hk
      ·rw [hx] at hx'; cases hx'
       rw [hl] at hl'; cases hl'
       have : q ≠ j := fun e => by subst e; rw [hsj] at hq; cases hq; exact hu rfl
       exact .inr ⟨rfl, by omega⟩
     ·rintro ⟨x', l', p, q, hk, h⟩
      exact ⟨x', l', p, q, by omega, h⟩
    have h3 := h1 u u0 hu
    rw [h3]
    rcases hI u u0 u1 with ⟨g, g'⟩ | ⟨⟨k, a, d, g1, g2⟩, g3⟩
    ·exact .inl ⟨g, fun k a d r hr => g' _ _ _ _ ((e _ _ _ _).1 hr)⟩
    ·exact .inr ⟨⟨k, a, d, (e _ _ _ _).2 g1, g2⟩, fun k a d r hr => g3 _ _ _ _ ((e _ _ _ _).1 hr)⟩
  refine .eq (ixs hsj) (.call (P := fun o' => o'.length = t.Network.Stops.length /\ yd6 (RBj t i (j + 1)) (t.Network.Stops.length : Int) (gv ready) (gv o')) ?_ fun o' ⟨ho', hI'⟩ => ?_)
  ·refine .ite (fun h => ?_) fun h => .ok ⟨hlen, key o hlen (fun _ _ _ => rfl) (by rw [h]; rfl)⟩
   refine .eq (yba hb.1 (by omega)) (.eq (ixs hT2) (.eq (yba hb.1 (by omega)) (.ok ⟨by rw [List.length_set]; exact hlen, key _ (by rw [List.length_set]; exact hlen) (fun u u0 hu => by rw [ybl hb.1 (by omega) _ _ u0, if_neg hu]) ?_⟩)))
   rw [ybl hb.1 (by omega) _ _ hb.1, if_pos rfl, h, if_pos rfl]
  ·refine .ite (fun h => .nx ⟨m - 1, by omega, j + 1, jaj (by omega), by omega, ho', hI', ?_⟩) fun h => .eq (yba hb.1 (by omega)) (.eq (ixs hT2) (.nx ⟨m - 1, by omega, j + 1, jaj (by omega), by omega, ho', hI', ?_⟩))
   ·obtain ⟨p, sp, p1, p2, p3⟩ := hon.1 h
    exact ⟨fun _ => ⟨p, sp, by omega, p2, p3⟩, fun _ => rfl⟩
   ·dsimp only
    rw [decide_eq_true_eq]
    constructor
    ·intro h3; exact ⟨j, s, by omega, hsj, h3⟩
    ·rintro ⟨p, sp, p1, p2, p3⟩
     by_cases hpj : p = j
     ·subst hpj; rw [hsj] at p2; cases p2; exact p3
     ·have := hon.2 ⟨p, sp, by omega, p2, p3⟩
      rw [h] at this; cases this
 ·constructor
  ·rintro ⟨x', l', p, q, hk, h⟩; exact ⟨x', l', p, q, by omega, h⟩
  ·rintro ⟨x', l', p, q, hk, hx', hl', hpq, hp, hq, h⟩
   refine ⟨x', l', p, q, ?_, hx', hl', hpq, hp, hq, h⟩
   by_cases hki : k < i
   ·exact .inl hki
   ·have hke : k = i := by omega
    subst hke
    rw [hx] at hx'; cases hx'
    rw [hl] at hl'; cases hl'
    have := jbf hq
    exact .inr ⟨rfl, by omega⟩
theorem ypw {t : Timetable} (hT : ya4 t) {ready : List Int} (hr : ready.length = t.Network.Stops.length) : Tot (zq30 t ready) fun o => o.length = t.Network.Stops.length /\ yd6 (LR t) (t.Network.Stops.length : Int) (gv ready) (gv o) := by
 have h8 := hT.1.1
 have h12 := hT.2.1
 unfold zq30
 rw [ja5 (by omega), qb, hr, ynb (N := t.Network.Stops.length) 1073741824 (fun v a y ha hy hv => ?_) (fun a ha => ?_) _ (by simp), qb]
 ·refine .call (P := fun o => o.length = t.Network.Stops.length /\ yd6 (LR t) (t.Network.Stops.length : Int) (gv ready) (gv o)) ?_ fun o ho => .ok ho
  refine .iter (fun m s => ∃ i : Nat, s.1 = (i : Int) /\ m + i = t.Trips.length /\ s.2.length = t.Network.Stops.length /\ yd6 (RBj t i 0) (t.Network.Stops.length : Int) (gv ready) (gv s.2)) (n := t.Trips.length) ⟨0, rfl, by omega, by simp, fun s s0 s1 => .inl ⟨yi8 s0 s1, ?_⟩⟩ ?_
  ·rintro k a d r ⟨x, l, p, q, hk, _⟩; omega
  rintro m ⟨v, o⟩ ⟨i, hv, hm, hlen, hI⟩
  dsimp only at hv hlen hI
  subst hv
  unfold yg0
  dsimp only
  refine .iteP (fun hc => ?_) (fun hc => .dn ⟨hlen, yd0 (fun k a d b r => ?_) hI⟩)
  ·obtain ⟨x, hx⟩ := ja9 (l := t.Trips) (i := i) (by omega)
   obtain ⟨l, hl, hP, _, hs, he⟩ := ya5 hT hx
   refine .eq (ixs hx) (.eq (ybu hl hP hs) (.eq (ycd hl) (.call (ypx hT hr hx hl o hlen hI) fun o' ⟨g1, g2⟩ => .nx ⟨m - 1, by omega, i + 1, jaj (by omega), by omega, g1, g2⟩)))
  ·constructor
   ·rintro ⟨x', l', p, q, hk, h⟩; exact ⟨x', l', p, q, h⟩
   ·rintro ⟨x', l', p, q, hx', h⟩
    have := jbf hx'
    exact ⟨x', l', p, q, .inl (by omega), hx', h⟩
 ·exact Tot.val (by unfold yfa; exact .iteP (fun _ => .eq (ixs hy) (.dn' (by rw [jaj (by omega)]; rfl))) (fun h => absurd (by simp; omega) h))
 ·exact Tot.val (by unfold yfa; exact .iteP (fun h => absurd h (by simp; try omega)) (fun _ => .dn' rfl))
theorem ynw {t : Timetable} (hT : ya4 t) {change : Int} (hc : 0 <= change /\ change <= 30) {a w : Int} (ha : 0 <= a /\ a < (t.Network.Stops.length : Int)) (n : Nat) (hn : n <= 1000) :
  Tot (zq12 t change ((List.replicate t.Network.Stops.length 1073741824).set a.toNat w) (n : Int)) fun o => o.length = t.Network.Stops.length /\ ∀ s, 0 <= s -> s < (t.Network.Stops.length : Int) -> AB (LR t) change n a w s (gv o s) := by
 have h8 := hT.1.1
 have hR := yb2 hT
 unfold zq12
 have hlen0 : ((List.replicate t.Network.Stops.length (1073741824 : Int)).set a.toNat w).length = t.Network.Stops.length := by simp
 rw [ja5 (by rw [hlen0]; omega), qb, hlen0, ynb (N := t.Network.Stops.length) 1073741824 (fun v a y ha hy hv => ?_) (fun a ha => ?_) _ (by simp), qb]
 ·refine .call (P := fun o => o.length = t.Network.Stops.length /\ ∀ s, 0 <= s -> s < (t.Network.Stops.length : Int) -> AB (LR t) change n a w s (gv o s)) ?_ fun o ho => .ok ho
  refine .iter (fun m s => ∃ i : Nat, s.2.1 = (i : Int) /\ m + i = n /\ s.1.length = t.Network.Stops.length /\ s.2.2.length = t.Network.Stops.length /\ ArrI (LR t) change (t.Network.Stops.length : Int) i a w (gv s.2.2) (gv s.1)) (n := n) ⟨0, rfl, by omega, hlen0, by simp, ?_⟩ ?_
  ·exact yne (fun s s0 s1 => yi8 s0 s1) fun s s0 s1 => by rw [ybl ha.1 (by simp; omega) _ _ s0, yi8 s0 s1]
  rintro m ⟨rdy, v, bst⟩ ⟨i, hv, hm, g1, g2, hI⟩
  dsimp only at hv g1 g2 hI
  subst hv
  unfold yg8
  dsimp only
  refine .iteP (fun hlt => ?_) (fun hge => .dn ⟨g2, by rw [show n = i by omega]; exact hI.1⟩)
  refine .call (ypw hT g1) fun nx ⟨n1, n2⟩ => .chk (by omega) ?_
  refine .call (P := fun o => o.1.length = t.Network.Stops.length /\ o.2.length = t.Network.Stops.length /\ ArrI (LR t) change (t.Network.Stops.length : Int) (i + 1) a w (gv o.2) (gv o.1)) ?_ fun ⟨r4, a5⟩ ⟨q1, q2, q3⟩ => .nx ⟨m - 1, by omega, i + 1, jaj (by omega), by omega, q1, q2, q3⟩
  refine .iter (fun m s => ∃ j : Nat, s.1 = (j : Int) /\ m + j = t.Network.Stops.length /\ s.2.1.length = t.Network.Stops.length /\ s.2.2.length = t.Network.Stops.length /\ (∀ u, 0 <= u -> u < (t.Network.Stops.length : Int) -> gv s.2.2 u = if u < j /\ gv nx u < gv bst u then gv nx u else gv bst u) /\
   ∀ u, 0 <= u -> u < (j : Int) -> gv s.2.1 u = if gv nx u < gv bst u then gv nx u + change else 1073741824) (n := t.Network.Stops.length) ⟨0, rfl, by omega, by simp [g2], g2, fun u u0 _ => by rw [if_neg (by omega)], fun u u0 h => by omega⟩ ?_
  rintro m' ⟨v, rd2, a3⟩ ⟨j, hv, hm', p1, p2, p3, p4⟩
  dsimp only at hv p1 p2 p3 p4
  subst hv
  unfold yg9
  dsimp only
  refine .iteP (fun hlt2 => ?_) (fun hge2 => .dn ⟨p1, p2, ynf hR hc.1 ha hI n2 (fun s s0 s1 => ?_) (fun s s0 s1 => ?_)⟩)
  ·have hj0 : (0 : Int) <= (j : Int) := by omega
   have hj1 : (j : Int) < (t.Network.Stops.length : Int) := by omega
   have e3 := p3 j hj0 hj1
   rw [if_neg (by omega)] at e3
   refine .eq (yba hj0 (by omega)) (.eq (yba hj0 (by omega)) (.eq (yba hj0 (by omega)) ?_)) |> fun h => .call (P := fun o => o.1.length = t.Network.Stops.length /\ o.2.length = t.Network.Stops.length /\ (∀ u, 0 <= u -> u < (t.Network.Stops.length : Int) -> gv o.2 u = if u < ((j + 1 : Nat) : Int) /\ gv nx u < gv bst u then gv nx u else gv bst u) /\
    ∀ u, 0 <= u -> u < ((j + 1 : Nat) : Int) -> gv o.1 u = if gv nx u < gv bst u then gv nx u + change else 1073741824) h fun ⟨r3, a4⟩ ⟨z1, z2, z3, z4⟩ => .nx ⟨m' - 1, by omega, j + 1, jaj (by omega), by omega, z1, z2, z3, z4⟩
   rw [e3]
   refine .iteP (fun hb => ?_) fun hb => .ok ⟨by simp [p1], p2, fun u u0 u1 => ?_, fun u u0 u1 => ?_⟩
   ·have hnx : gv nx j <= 1799 := by
     rcases n2 j hj0 hj1 with ⟨g, _⟩ | ⟨⟨k, u, d, g, _⟩, _⟩
     ·have := yl4 hR hc.1 (hI.1 j hj0 hj1); omega
     ·exact (hR.1 _ _ _ _ _ g).2.2.2.2
    have hnx0 : 0 <= gv nx j := by
     rcases n2 j hj0 hj1 with ⟨g, _⟩ | ⟨⟨k, u, d, g, _⟩, _⟩
     ·omega
     ·have := (hR.1 _ _ _ _ _ g).2.2; omega
    refine .eq (yba hj0 (by omega)) (.eq (yba hj0 (by simp; omega)) (.ok ⟨by simp [p1], by simp [p2], fun u u0 u1 => ?_, fun u u0 u1 => ?_⟩))
    ·dsimp only
     rw [ybl hj0 (by omega) _ _ u0, p3 u u0 u1]
     by_cases hu : u = j
     ·subst hu; rw [if_pos rfl, if_pos ⟨by omega, hb⟩]
     ·rw [if_neg hu]
      by_cases h2 : u < (j : Int) /\ gv nx u < gv bst u
      ·rw [if_pos h2, if_pos ⟨by omega, h2.2⟩]
      ·rw [if_neg h2, if_neg (by omega)]
    ·dsimp only
     rw [ybl hj0 (by simp; omega) _ _ u0, ybl hj0 (by omega) _ _ u0]
     by_cases hu : u = j
     ·subst hu; rw [if_pos rfl, if_pos hb, jah (by omega)]
     ·rw [if_neg hu, if_neg hu]; exact p4 u u0 (by omega)
   ·dsimp only
    rw [p3 u u0 u1]
    by_cases h2 : u < (j : Int) /\ gv nx u < gv bst u
    ·rw [if_pos h2, if_pos ⟨by omega, h2.2⟩]
    ·rw [if_neg h2, if_neg (fun h3 => by
      by_cases hu : u = j
      ·subst hu; exact hb h3.2
      ·exact h2 ⟨by omega, h3.2⟩)]
   ·dsimp only
    rw [ybl hj0 (by omega) _ _ u0]
    by_cases hu : u = j
    ·subst hu; rw [if_pos rfl, if_neg hb]
    ·rw [if_neg hu]; exact p4 u u0 (by omega)
  ·dsimp only
   rw [p3 s s0 s1]
   by_cases h2 : gv nx s < gv bst s
   ·rw [if_pos ⟨by omega, h2⟩, if_pos h2]
   ·rw [if_neg (fun h3 => h2 h3.2), if_neg h2]
  ·exact p4 s s0 (by omega)
 ·exact Tot.val (by unfold yfk; exact .iteP (fun _ => .eq (ixs hy) (.dn' (by rw [jaj (by omega)]; rfl))) (fun h => absurd (by simp; omega) h))
 ·exact Tot.val (by unfold yfk; exact .iteP (fun h => absurd h (by simp; try omega)) (fun _ => .dn' rfl))
theorem ylj {t : Timetable} (hT : ya4 t) {change : Int} (hc : 0 <= change /\ change <= 30) {a : Int} (ha : 0 <= a /\ a < (t.Network.Stops.length : Int)) (w : Int) {n : Int} (h0 : 0 <= n /\ n <= 1000) {β : Type} {k : List Int -> Option β} {Q : β -> Prop}
  (hk : ∀ o : List Int, o.length = t.Network.Stops.length -> (∀ s, 0 <= s -> s < (t.Network.Stops.length : Int) -> AB (LR t) change n.toNat a w s (gv o s)) -> Tot (k o) Q) : Tot ((zq29 t a w).bind fun r => (zq12 t change r n).bind k) Q := by
 have h8 := hT.1.1
 refine .eq (yjj (by omega) ha w) ?_
 obtain ⟨m, rfl⟩ : ∃ m : Nat, n = m := ⟨n.toNat, by omega⟩
 exact .call (ynw hT hc ha m (by omega)) fun o ⟨h1, h2⟩ => hk o h1 (by rw [Int.toNat_natCast]; exact h2)
theorem ydz {R R' : Nat -> Int -> Int -> Int -> Int -> Prop} {ch N a w : Int} {n : Nat} {best out : Int -> Int} (h : ∀ k a d b r, R k a d b r ↔ R' k a d b r) (hr : yd9 R ch N a w n best out) : yd9 R' ch N a w n best out := by
 have : R = R' := by funext k a d b r; exact propext (h k a d b r)
 rw [<- this]; exact hr
theorem ypt {t : Timetable} (hT : ya4 t) {change a w : Int} (hw : 0 <= w /\ w <= 10000) (hc : 0 <= change /\ change <= 30) {n : Nat} {best : List Int} (hbl : best.length = t.Network.Stops.length) (hbr : ∀ u, 0 <= u -> u < (t.Network.Stops.length : Int) -> -1 <= gv best u /\ gv best u <= 10000) {i : Nat} {x : Trip} {l : Line} (hx : t.Trips[i]? = some x) (hl : idx t.Network.Lines x.Line = some l) (out : List Int) (ho : out.length = t.Network.Stops.length)
  (hR : yd9 (RBj t i 0) change (t.Network.Stops.length : Int) a w n (gv best) (gv out)) {s1 : Int} (hs1 : s1 = if n = 0 then 0 else change) :
  Tot (iter (yeq t a w best s1 (i : Int) l.Stops) (false, (0 : Int), out)) fun o => o.length = t.Network.Stops.length /\ yd9 (RBj t (i + 1) 0) change (t.Network.Stops.length : Int) a w n (gv best) (gv o) := by
 obtain ⟨l', hl', hP, _, hs, he⟩ := ya5 hT hx
 rw [hl] at hl'; cases hl'
 obtain ⟨⟨r1, r2, r3⟩, _⟩ := ya6 hP
 refine .iter (fun m s => ∃ j : Nat, s.2.1 = (j : Int) /\ m + j = l.Stops.length /\ s.2.2.length = t.Network.Stops.length /\ yd9 (RBj t i j) change (t.Network.Stops.length : Int) a w n (gv best) (gv s.2.2) /\
  (s.1 = true ↔ ∃ (p : Nat) (sp : Int), p < j /\ l.Stops[p]? = some sp /\ SRd change a w n (gv best) sp (x.Start + (l.Runs.take p).sum))) (n := l.Stops.length) ⟨0, rfl, by omega, ho, hR, by simp⟩ ?_
 rintro m ⟨on, v, o⟩ ⟨j, hv, hm, hlen, hI, hon⟩
 dsimp only at hv hlen hI hon
 subst hv
 unfold yeq
 dsimp only
 refine .iteP (fun hc2 => ?_) (fun hc2 => .dn ⟨hlen, ydz (fun k a d b r => ?_) hI⟩)
 ·obtain ⟨s, hsj⟩ := ja9 (l := l.Stops) (i := j) (by omega)
  have hb := ycc hP hsj
  have hTb := ybo hP j
  have key : ∀ o' : List Int, (∀ u, 0 <= u -> u ≠ s -> gv o' u = gv o u) -> (gv o' s = if on = true /\ (gv o s < 0 \/ x.Start + (l.Runs.take j).sum < gv o s) then x.Start + (l.Runs.take j).sum else gv o s) -> yd9 (RBj t i (j + 1)) change (t.Network.Stops.length : Int) a w n (gv best) (gv o') := by
   intro o' h1 h2 u u0 u1
   by_cases hu : u = s
   ·subst hu
    have toS : ∀ k a d r, RBj t i (j + 1) k a d u r -> RBj t i j k a d u r \/ (k = i /\ r = x.Start + (l.Runs.take j).sum /\ ∃ p, p < j /\ l.Stops[p]? = some a /\ d = x.Start + (l.Runs.take p).sum) := by
     rintro k a d r ⟨x', l', p, q, hk, hx', hl', hpq, hp, hq, rfl, rfl⟩
     rcases hk with hk | ⟨rfl, hk⟩
     ·exact .inl ⟨x', l', p, q, .inl hk, hx', hl', hpq, hp, hq, rfl, rfl⟩
     ·rw [hx] at hx'; cases hx'
      rw [hl] at hl'; cases hl'
      have := ycb hP hq hsj
      subst this
      exact .inr ⟨rfl, rfl, p, hpq, hp, rfl⟩
    have frS : ∀ k a d r, RBj t i j k a d u r -> RBj t i (j + 1) k a d u r := by
     rintro k a d r ⟨x', l', p, q, hk, h⟩
     exact ⟨x', l', p, q, by omega, h⟩
    rcases Bool.eq_false_or_eq_true on with ht | hf
    ·subst ht
     obtain ⟨p, sp, p1, p2, p3⟩ := hon.1 rfl
     have leg : RBj t i (j + 1) i sp (x.Start + (l.Runs.take p).sum) u (x.Start + (l.Runs.take j).sum) := ⟨x, l, p, j, .inr ⟨rfl, by omega⟩, hx, hl, p1, p2, hsj, rfl, rfl⟩
     by_cases hlt : gv o u < 0 \/ x.Start + (l.Runs.take j).sum < gv o u
     ·rw [if_pos ⟨rfl, hlt⟩] at h2
      right
      rw [h2]
      refine ⟨by omega, .inr ⟨i, sp, _, leg, p3⟩, fun hb0 => ?_, fun k a d r hr hd => ?_⟩
      ·rcases hI u u0 u1 with ⟨_, g, _⟩ | ⟨g0, _, g, _⟩
       ·omega
       ·have := g hb0; omega
      ·rcases toS _ _ _ _ hr with h | ⟨_, h, _⟩
       ·rcases hI u u0 u1 with ⟨_, _, g⟩ | ⟨g0, _, _, g⟩
        ·exact absurd hd (g _ _ _ _ h)
        ·have := g _ _ _ _ h hd; omega
       ·omega
     ·rw [if_neg (fun h => hlt h.2)] at h2
      rcases hI u u0 u1 with ⟨g, _⟩ | ⟨g0, g1, g2, g3⟩
      ·omega
      ·right
       rw [h2]
       refine ⟨g0, ?_, g2, fun k a d r hr hd => ?_⟩
       ·rcases g1 with g1 | ⟨k, a, d, q1, q2⟩
        ·exact .inl g1
        ·exact .inr ⟨k, a, d, frS _ _ _ _ q1, q2⟩
       ·rcases toS _ _ _ _ hr with h | ⟨_, h, _⟩
        ·exact g3 _ _ _ _ h hd
        ·omega
    ·subst hf
     rw [if_neg (by simp)] at h2
     have nor : ∀ k b d r, RBj t i (j + 1) k b d u r -> SRd change a w n (gv best) b d -> RBj t i j k b d u r := by
      intro k b d r hr hd
      rcases toS _ _ _ _ hr with h | ⟨_, _, p, p1, p2, p3⟩
      ·exact h
      ·exact absurd (hon.2 ⟨p, b, p1, p2, by rw [<- p3]; exact hd⟩) (by simp)
     rw [h2]
     rcases hI u u0 u1 with ⟨g, g', g''⟩ | ⟨g0, g1, g2, g3⟩
     ·exact .inl ⟨g, g', fun k a d r hr hd => g'' _ _ _ _ (nor _ _ _ _ hr hd) hd⟩
     ·refine .inr ⟨g0, ?_, g2, fun k a d r hr hd => g3 _ _ _ _ (nor _ _ _ _ hr hd) hd⟩
      rcases g1 with g1 | ⟨k, a, d, q1, q2⟩
      ·exact .inl g1
      ·exact .inr ⟨k, a, d, frS _ _ _ _ q1, q2⟩
   ·have e : ∀ k a d r, RBj t i (j + 1) k a d u r ↔ RBj t i j k a d u r := by
     intro k a d r
     constructor
     ·rintro ⟨x', l', p, q, hk, hx', hl', hpq, hp, hq, h1, h2⟩
      refine ⟨x', l', p, q, ?_, hx', hl', hpq, hp, hq, h1, h2⟩
      rcases hk with hk | ⟨rfl, hk⟩
      ·exact .inl hk
      ·rw [hx] at hx'; cases hx'
       rw [hl] at hl'; cases hl'
       have : q ≠ j := fun e => by subst e; rw [hsj] at hq; cases hq; exact hu rfl
       exact .inr ⟨rfl, by omega⟩
     ·rintro ⟨x', l', p, q, hk, h⟩
      exact ⟨x', l', p, q, by omega, h⟩
    have h3 := h1 u u0 hu
    rw [h3]
    rcases hI u u0 u1 with ⟨g, g', g''⟩ | ⟨g0, g1, g2, g3⟩
    ·exact .inl ⟨g, g', fun k a d r hr => g'' _ _ _ _ ((e _ _ _ _).1 hr)⟩
    ·refine .inr ⟨g0, ?_, g2, fun k a d r hr => g3 _ _ _ _ ((e _ _ _ _).1 hr)⟩
     rcases g1 with g1 | ⟨k, a, d, q1, q2⟩
     ·exact .inl g1
     ·exact .inr ⟨k, a, d, (e _ _ _ _).2 q1, q2⟩
  have hbs := hbr s hb.1 hb.2
  refine .eq (ixs hsj) (.eq (ycl hT.1 hx hl hs (k := j) (by omega)) ?_)
  refine .call (P := fun o' => o'.length = t.Network.Stops.length /\ yd9 (RBj t i (j + 1)) change (t.Network.Stops.length : Int) a w n (gv best) (gv o')) ?_ fun o' ⟨ho', hI'⟩ => ?_
  ·refine .call (P := fun b => b = decide (on = true /\ (gv o s < 0 \/ x.Start + (l.Runs.take j).sum < gv o s))) ?_ fun b hB => ?_
   ·refine .ite (fun h => .eq (yba hb.1 (by omega)) (.iteP (fun h0 => .ok ?_) fun h0 => .eq (yba hb.1 (by omega)) (.ok ?_))) fun h => .ok ?_
    ·simp [h, h0]
    ·rw [decide_eq_decide]; simp [h, h0]
    ·simp [h]
   ·subst hB
    refine .iteP (fun h => .eq (yba hb.1 (by omega)) (.ok ⟨by rw [List.length_set]; exact hlen, key _ (fun u u0 hu => by rw [ybl hb.1 (by omega) _ _ u0, if_neg hu]) (by rw [ybl hb.1 (by omega) _ _ hb.1, if_pos rfl, if_pos h])⟩)) fun h => .ok ⟨hlen, key o (fun _ _ _ => rfl) (by rw [if_neg h])⟩
  ·refine .eq (yba hb.1 (by omega)) (.call (P := fun v2 => v2 = if s = a then w else gv best s + (if n = 0 then 0 else change)) ?_ fun v2 hv2 => ?_)
   ·refine .ite (fun h => .ok ?_) fun h => .ok ?_
    ·have : s = a := by simpa using h
     rw [if_pos this]
    ·have : s ≠ a := by simpa using h
     rw [if_neg this, hs1]
     split <;> rw [jah (by omega)]
   ·subst hv2
    have fin : ∀ b : Bool, (b = true ↔ (on = true \/ SRd change a w n (gv best) s (x.Start + (l.Runs.take j).sum))) -> (b = true ↔ ∃ (p : Nat) (sp : Int), p < j + 1 /\ l.Stops[p]? = some sp /\ SRd change a w n (gv best) sp (x.Start + (l.Runs.take p).sum)) := by
     intro b h
     rw [h]
     constructor
     ·rintro (h | h)
      ·obtain ⟨p, sp, p1, p2, p3⟩ := hon.1 h; exact ⟨p, sp, by omega, p2, p3⟩
      ·exact ⟨j, s, by omega, hsj, h⟩
     ·rintro ⟨p, sp, p1, p2, p3⟩
      by_cases hpj : p = j
      ·subst hpj; rw [hsj] at p2; cases p2; exact .inr p3
      ·exact .inl (hon.2 ⟨p, sp, by omega, p2, p3⟩)
    refine .ite (fun h => .nx ⟨m - 1, by omega, j + 1, jaj (by omega), by omega, ho', hI', fin _ (by simp [h])⟩) fun h => .eq (yba hb.1 (by omega)) (.iteP (fun h0 => .nx ⟨m - 1, by omega, j + 1, jaj (by omega), by omega, ho', hI', fin _ ?_⟩) fun h0 => .nx ⟨m - 1, by omega, j + 1, jaj (by omega), by omega, ho', hI', fin _ ?_⟩)
    ·simp [h, SRd, h0]
    ·simp [h, SRd, h0]
 ·constructor
  ·rintro ⟨x', l', p, q, hk, h⟩; exact ⟨x', l', p, q, by omega, h⟩
  ·rintro ⟨x', l', p, q, hk, hx', hl', hpq, hp, hq, h⟩
   refine ⟨x', l', p, q, ?_, hx', hl', hpq, hp, hq, h⟩
   by_cases hki : k < i
   ·exact .inl hki
   ·have hke : k = i := by omega
    subst hke
    rw [hx] at hx'; cases hx'
    rw [hl] at hl'; cases hl'
    have := jbf hq
    exact .inr ⟨rfl, by omega⟩
theorem yps {t : Timetable} (hT : ya4 t) {change : Int} (hc : 0 <= change /\ change <= 30) {a w : Int} (ha : 0 <= a /\ a < (t.Network.Stops.length : Int)) (hw : 0 <= w /\ w <= 10000) (n : Nat) (hn : n <= 1000) :
  Tot (zq80 t change a w (n : Int)) fun o => o.length = t.Network.Stops.length /\ SAB (LR t) change (t.Network.Stops.length : Int) n a w (gv o) := by
 have h8 := hT.1.1
 have h12 := hT.2.1
 have hR := yb2 hT
 unfold zq80
 rw [ja5 (by omega), qb, ynb (N := t.Network.Stops.length) (-1) (fun v l y ha hy hv => ?_) (fun l ha => ?_) _ (by simp), qb]
 ·refine .eq (yba ha.1 (by simp; omega)) (.call (P := fun o => o.length = t.Network.Stops.length /\ SAB (LR t) change (t.Network.Stops.length : Int) n a w (gv o)) ?_ fun o ho => .ok ho)
  refine .iter (fun m s => ∃ i : Nat, s.1 = (i : Int) /\ m + i = n /\ s.2.length = t.Network.Stops.length /\ SAB (LR t) change (t.Network.Stops.length : Int) i a w (gv s.2)) (n := n) ⟨0, rfl, by omega, by simp, ymx (fun s s0 s1 => by rw [ybl ha.1 (by simp; omega) _ _ s0, yi8 s0 s1]) ha⟩ ?_
  rintro m ⟨v, bst⟩ ⟨i, hv, hm, g1, hI⟩
  dsimp only at hv g1 hI
  subst hv
  unfold ygo
  dsimp only
  refine .iteP (fun hlt => .chk (by simp; omega) (.call (P := fun s1 => s1 = if i = 0 then 0 else change) ?_ fun s1 hs1 => ?_)) (fun hge => .dn ⟨g1, by rw [show n = i by omega]; exact hI⟩)
  ·refine .ite (fun h => .ok ?_) fun h => .ok ?_
   ·have h0 : (i : Int) = 0 := by simpa using h
    have : i = 0 := by omega
    rw [if_pos this]
   ·have h0 : (i : Int) ≠ 0 := by simpa using h
    have : i ≠ 0 := by omega
    rw [if_neg this]
  ·refine .call (P := fun o => o.length = t.Network.Stops.length /\ yd9 (LR t) change (t.Network.Stops.length : Int) a w i (gv bst) (gv o)) ?_ fun o ⟨z1, z2⟩ => .nx ⟨m - 1, by omega, i + 1, jaj (by omega), by omega, z1, ymy hR hc.1 ha hw.1 hI z2⟩
   refine .iter (fun m s => ∃ q : Nat, s.1 = (q : Int) /\ m + q = t.Trips.length /\ s.2.length = t.Network.Stops.length /\ yd9 (RBj t q 0) change (t.Network.Stops.length : Int) a w i (gv bst) (gv s.2)) (n := t.Trips.length) ⟨0, rfl, by omega, by simpa using g1, fun s s0 s1 => ?_⟩ ?_
   ·have no : ∀ k u d r, ¬ RBj t 0 0 k u d s r := by rintro k u d r ⟨x, l, p, q, hk, _⟩; omega
    show (gv ([] ++ bst) s = -1 /\ _) \/ _
    rw [List.nil_append]
    rcases ylh hR hc.1 hI s0 s1 with h | h
    ·exact .inl ⟨h, h, fun k u d r hr => absurd hr (no k u d r)⟩
    ·exact .inr ⟨by show 0 <= gv bst s; omega, .inl rfl, fun _ => Int.le_refl _, fun k u d r hr => absurd hr (no k u d r)⟩
   rintro m' ⟨v, o⟩ ⟨q, hv, hm', q1, q2⟩
   dsimp only at hv q1 q2
   subst hv
   unfold ygp
   dsimp only
   refine .iteP (fun hlt2 => ?_) (fun hge2 => .dn ⟨q1, ydz (fun k a d b r => ?_) q2⟩)
   ·obtain ⟨x, hx⟩ := ja9 (l := t.Trips) (i := q) (by omega)
    obtain ⟨l, hl, hP, _, hs, he⟩ := ya5 hT hx
    refine .eq (ybz hx hl) (.call (ypt hT hw hc g1 (fun u u0 u1 => ?_) hx hl o q1 q2 hs1) fun o' ⟨z1, z2⟩ => .nx ⟨m' - 1, by omega, q + 1, jaj (by omega), by omega, z1, z2⟩)
    rcases ylh hR hc.1 hI u0 u1 with h | h <;> omega
   ·constructor
    ·rintro ⟨x', l', p, q, hk, h⟩; exact ⟨x', l', p, q, h⟩
    ·rintro ⟨x', l', p, q', hx', h⟩
     have := jbf hx'
     exact ⟨x', l', p, q', .inl (by omega), hx', h⟩
 ·exact Tot.val (by unfold yer; exact .iteP (fun _ => .eq (ixs hy) (.dn' (by rw [jaj (by omega)]; rfl))) (fun h => absurd (by omega) h))
 ·exact Tot.val (by unfold yer; exact .iteP (fun h => absurd h (by omega)) (fun _ => .dn' rfl))
theorem ypu {t : Timetable} (hT : ya4 t) {change : Int} (hc : 0 <= change /\ change <= 30) {n : Nat} {a w : Int} {o : List Int} (h : SAB (LR t) change (t.Network.Stops.length : Int) n a w (gv o)) {s b : Int} (s0 : 0 <= s) (s1 : s < (t.Network.Stops.length : Int)) (hs : s ≠ a) (hb : AB (LR t) change n a w s b) : gv o s = if b = 1073741824 then -1 else b := yqr (yb2 hT) hc.1 h s0 s1 hs hb
def tid (t : Timetable) (i : Nat) : Int := match t.Trips[i]? with
 | some x => x.Id
 | none => 0
theorem ydy {t : Timetable} {i : Nat} {x : Trip} (h : t.Trips[i]? = some x) : tid t i = x.Id := by unfold tid; rw [h]
theorem ypp {t : Timetable} (hT : ya4 t) {i j : Nat} {x y : Trip} (hx : t.Trips[i]? = some x) (hy : t.Trips[j]? = some y) (h : tid t i = tid t j) : i = j := by
 rw [ydy hx, ydy hy] at h
 rcases Nat.lt_trichotomy i j with h1 | h1 | h1
 ·have := ylx hT h1 hx hy; omega
 ·exact h1
 ·have := ylx hT h1 hy hx; omega
theorem ynq {t : Timetable} (hT : ya4 t) {i i' : Nat} {a d s r a' d' s' r' : Int} (h : LR t i a d s r) (h' : LR t i' a' d' s' r') (he : tid t i' = tid t i) : i' = i := by
 obtain ⟨x, l, p, q, hx, _⟩ := h
 obtain ⟨x', l', p', q', hx', _⟩ := h'
 exact ypp hT hx' hx he
theorem yqv {t : Timetable} (hT : ya4 t) {i : Nat} {x : Trip} {l : Line} (hx : t.Trips[i]? = some x) (hl : idx t.Network.Lines x.Line = some l) (a b : Int) :
  ((fl x l a b).2 = false /\ ∀ d r, ¬ LR t i a d b r) \/ ∃ d r, LR t i a d b r /\ fl x l a b = (⟨tid t i, a, b, d, r⟩, true) := by
 obtain ⟨l', hl', hP, _, hs, he⟩ := ya5 hT hx
 rw [hl] at hl'; cases hl'
 by_cases h : fixI (fun e => a == e) l.Stops < 0 \/ fixI (fun e => b == e) l.Stops <= fixI (fun e => a == e) l.Stops
 ·left
  refine ⟨by unfold fl; rw [if_pos h], ?_⟩
  rintro d r ⟨x', l', p, q, hx', hl', hpq, hp, hq, _⟩
  rw [hx] at hx'; cases hx'
  rw [hl] at hl'; cases hl'
  have h1 := (hP.2.2.1 p a hp).2
  have h2 := (hP.2.2.1 q b hq).2
  omega
 ·right
  obtain ⟨p, hp⟩ : ∃ p : Nat, fixI (fun e => a == e) l.Stops = p := ⟨(fixI (fun e => a == e) l.Stops).toNat, by omega⟩
  obtain ⟨q, hq⟩ : ∃ q : Nat, fixI (fun e => b == e) l.Stops = q := ⟨(fixI (fun e => b == e) l.Stops).toNat, by omega⟩
  obtain ⟨u, u1, u2, _⟩ := jep hp
  obtain ⟨v, v1, v2, _⟩ := jep hq
  have eu : a = u := by simpa using u2
  have ev : b = v := by simpa using v2
  subst eu; subst ev
  refine ⟨_, _, ⟨x, l, p, q, hx, hl, by omega, u1, v1, rfl, rfl⟩, ?_⟩
  unfold fl
  rw [if_neg h, hp, hq, ydy hx]
  rfl
theorem yhv {t : Timetable} (hT : ya4 t) {change : Int} (hc : 0 <= change /\ change <= 30) {to by_ : Int} (ht : 0 <= to /\ to < (t.Network.Stops.length : Int)) (hby : by_ < 1073741824) {n : Nat} (hn : 1 <= n /\ n <= 100) {stop ready : Int} (hx : XN (LR t) change to by_ n stop ready) :
  Tot (zq18 t change stop to ready by_ (n : Int)) fun g => ∃ (i : Nat) (d s r : Int), FPk (LR t) change to by_ n stop ready i s /\ LR t i stop d s r /\ ready <= d /\ g = ⟨tid t i, stop, s, d, r⟩ := by
 have h8 := hT.1.1
 have h12 := hT.2.1
 have hR := yb2 hT
 obtain ⟨i0, s0, hpk⟩ : ∃ (i : Nat) (s : Int), Pk (LR t) change to by_ n stop ready i s := by
  obtain ⟨m, rfl⟩ : ∃ m, n = m + 1 := ⟨n - 1, by omega⟩
  exact x_pk hx
 unfold zq18
 refine .flb ((Tot.iter (fun m (v : Int) => ∃ i : Nat, v = (i : Int) /\ m + i = t.Trips.length /\ ∀ i' s', i' < i -> ¬ Pk (LR t) change to by_ n stop ready i' s')
  (Q := fun b => (∀ g, b = .ret g -> ∃ (i : Nat) (d s r : Int), FPk (LR t) change to by_ n stop ready i s /\ LR t i stop d s r /\ ready <= d /\ g = ⟨tid t i, stop, s, d, r⟩) /\ (b = .go () -> False)) (n := t.Trips.length) ⟨0, rfl, by omega, fun i' s' h => by omega⟩ ?_).mono fun b hb => ⟨fun r e => hb.1 r e, fun u e => (hb.2 (by rw [e])).elim⟩)
 rintro m v ⟨i, rfl, hm, hpre⟩
 unfold yg2
 refine .iteP (fun hlt => ?_) (fun hge => .dn ⟨fun g e => (by cases e), fun _ => ?_⟩)
 ·obtain ⟨x, hx'⟩ := ja9 (l := t.Trips) (i := i) (by omega)
  obtain ⟨l, hl, hP, _, hs, he⟩ := ya5 hT hx'
  refine .eq (ixs hx') (.flb ((Tot.iter (fun m (v : Int) => ∃ s : Nat, v = (s : Int) /\ m + s = t.Network.Stops.length /\ ∀ s', s' < (s : Int) -> ¬ Pk (LR t) change to by_ n stop ready i s')
   (Q := fun b => (∀ z, b = .ret z -> ∃ g, z = .dn (.ret g) /\ ∃ (d s r : Int), FPk (LR t) change to by_ n stop ready i s /\ LR t i stop d s r /\ ready <= d /\ g = ⟨tid t i, stop, s, d, r⟩) /\ (b = .go () -> ∀ s', ¬ Pk (LR t) change to by_ n stop ready i s')) (n := t.Network.Stops.length) ⟨0, rfl, by omega, ?_⟩ ?_).mono fun b hb => ⟨fun z e => ?_, fun u e => .nx ⟨m - 1, by omega, i + 1, jaj (by omega), by omega, fun i' s' hi => ?_⟩⟩))
  ·rintro s' hs' ⟨d, r, h1, _⟩
   have := hR.1 _ _ _ _ _ h1; omega
  ·rintro m' v ⟨s, rfl, hm', hpre2⟩
   unfold yg3
   refine .iteP (fun hlt2 => ?_) (fun hge2 => .dn ⟨fun z e => (by cases e), fun _ s' hp => ?_⟩)
   ·have nxt : (¬ Pk (LR t) change to by_ n stop ready i (s : Int)) -> Tot (some (Lp.nx (w64 ((s : Int) + 1))) : Option (Lp Int (Fl (Lp Int (Fl Leg Unit)) Unit))) fun r => (∀ a', r = .nx a' -> ∃ k', k' < m' /\ ∃ s : Nat, a' = (s : Int) /\ k' + s = t.Network.Stops.length /\ ∀ s', s' < (s : Int) -> ¬ Pk (LR t) change to by_ n stop ready i s') /\
      ∀ b, r = .dn b -> (∀ z, b = .ret z -> ∃ g, z = .dn (.ret g) /\ ∃ (d s r : Int), FPk (LR t) change to by_ n stop ready i s /\ LR t i stop d s r /\ ready <= d /\ g = ⟨tid t i, stop, s, d, r⟩) /\ (b = .go () -> ∀ s', ¬ Pk (LR t) change to by_ n stop ready i s') := fun hno =>
     .nx ⟨m' - 1, by omega, s + 1, jaj (by omega), by omega, fun s' hs' => by
      by_cases h : s' = (s : Int)
      ·subst h; exact hno
      ·exact hpre2 s' (by omega)⟩
    have got : ∀ d r, LR t i stop d (s : Int) r -> ready <= d -> Pk (LR t) change to by_ n stop ready i (s : Int) -> Tot (some (Lp.dn (Fl.ret (.dn (.ret ⟨tid t i, stop, (s : Int), d, r⟩)))) : Option (Lp Int (Fl (Lp Int (Fl Leg Unit)) Unit))) fun r => (∀ a', r = .nx a' -> ∃ k', k' < m' /\ ∃ s : Nat, a' = (s : Int) /\ k' + s = t.Network.Stops.length /\ ∀ s', s' < (s : Int) -> ¬ Pk (LR t) change to by_ n stop ready i s') /\
      ∀ b, r = .dn b -> (∀ z, b = .ret z -> ∃ g, z = .dn (.ret g) /\ ∃ (d s r : Int), FPk (LR t) change to by_ n stop ready i s /\ LR t i stop d s r /\ ready <= d /\ g = ⟨tid t i, stop, s, d, r⟩) /\ (b = .go () -> ∀ s', ¬ Pk (LR t) change to by_ n stop ready i s') := fun d r h1 h2 h3 =>
     .dn ⟨fun z e => (by cases e; exact ⟨_, rfl, d, s, r, ⟨h3, fun i' s' h => by
      rcases h with h | ⟨rfl, h⟩
      ·exact hpre i' s' h
      ·exact hpre2 s' h⟩, h1, h2, rfl⟩), fun e => (by cases e)⟩
    refine .flb (.eq (yei hT hx' hl stop (s : Int)) ?_)
    rcases yqv hT hx' hl stop (s : Int) with ⟨hf, hno⟩ | ⟨d, r, hlr, hf⟩
    ·rw [hf]
     refine .call (P := fun b => b = true) (.ok rfl) fun b hB => ?_
     subst hB
     exact .ok ⟨fun r e => (by cases e), fun u _ => nxt (fun ⟨d, r, h, _⟩ => hno d r h)⟩
    ·rw [hf]
     have hlr2 := hR.1 _ _ _ _ _ hlr
     refine .call (P := fun b => b = decide (d < ready)) (.ok rfl) fun b hB => ?_
     subst hB
     refine .iteP (fun h => .ok ⟨fun r e => (by cases e), fun u _ => nxt ?_⟩) fun h => ?_
     ·rintro ⟨d', r', g1, g2, _⟩
      obtain ⟨rfl, rfl⟩ := hR.2.2 _ _ _ _ _ _ _ g1 hlr
      omega
     refine .call (P := fun b => b = decide (n = 1 /\ (s : Int) = to /\ r <= by_)) ?_ fun b hB => ?_
     ·refine .ite (fun h1 => .ite (fun h2 => .ok ?_) fun h2 => .ok ?_) fun h1 => .ok ?_
      ·have e0 : (n : Int) = 1 := by simpa using h1
       have e1 : n = 1 := by omega
       have e2 : (s : Int) = to := by simpa using h2
       rw [decide_eq_decide]; simp [e1, e2]
      ·have e2 : ¬ (s : Int) = to := by simpa using h2
       simp [e2]
      ·have e0 : ¬ (n : Int) = 1 := by simpa using h1
       have e1 : ¬ n = 1 := by omega
       simp [e1]
     ·subst hB
      refine .iteP (fun hq => .ok ⟨fun z e => (by cases e; obtain ⟨z, h1, h2⟩ := got d r hlr (by omega) ⟨d, r, hlr, by omega, .inl hq⟩; cases h1; exact h2), fun u e => (by cases e)⟩) fun hq => ?_
      refine .call (P := fun b => b = true ↔ (1 < n /\ EA (LR t) change (n - 1) (s : Int) (r + change) to by_)) ?_ fun b hB => ?_
      ·refine .iteP (fun h1 => ?_) fun h1 => .ok ?_
       ·have e1 : w64 (r + change) = r + change := jah (by omega)
        have e2 : w64 ((n : Int) - 1) = ((n - 1 : Nat) : Int) := by rw [jah (by omega)]; omega
        rw [e1, e2]
        refine ylj hT hc hlr2.2.1 _ (by omega) fun o ho1 ho2 => .eq (yba ht.1 (by omega)) (.ok ?_)
        have := yl5 hR hc.1 (ho2 to ht.1 ht.2) hby
        rw [Int.toNat_natCast] at this
        rw [decide_eq_true_eq, this]
        exact ⟨fun h => ⟨by omega, h⟩, fun h => h.2⟩
       ·constructor
        ·intro h; cases h
        ·rintro ⟨h2, _⟩; omega
      ·refine .ite (fun h1 => .ok ⟨fun z e => (by cases e; obtain ⟨z, h1, h2⟩ := got d r hlr (by omega) ⟨d, r, hlr, by omega, .inr (hB.1 h1)⟩; cases h1; exact h2), fun u e => (by cases e)⟩) fun h1 => .ok ⟨fun z e => (by cases e), fun u _ => nxt ?_⟩
       rintro ⟨d', r', g1, g2, g3⟩
       obtain ⟨rfl, rfl⟩ := hR.2.2 _ _ _ _ _ _ _ g1 hlr
       rcases g3 with g3 | g3
       ·exact hq g3
       ·rw [hB.2 g3] at h1; cases h1
   ·obtain ⟨d, r, h1, h2⟩ := hp
    have := hR.1 _ _ _ _ _ h1
    exact hpre2 s' (by omega) ⟨d, r, h1, h2⟩
  ·obtain ⟨g, rfl, d, s, r, h⟩ := hb.1 z e
   exact ⟨fun a' e => (by cases e), fun b' e => (by cases e; exact ⟨fun g' e' => (by cases e'; exact ⟨i, d, s, r, h⟩), fun e' => (by cases e')⟩)⟩
  ·by_cases h : i' < i
   ·exact hpre i' s' h
   ·have : i' = i := by omega
    subst this
    exact hb.2 e s'
 ·obtain ⟨d, r, hlr, hrest⟩ := hpk
  have hlr2 := hlr
  obtain ⟨x, l, p, q, hx', _⟩ := hlr2
  have := jbf hx'
  exact hpre i0 s0 (by omega) ⟨d, r, hlr, hrest⟩
theorem yly {t : Timetable} (hT : ya4 t) {change : Int} (hc : 0 <= change /\ change <= 30) {from_ to : Int} (hf : 0 <= from_ /\ from_ < (t.Network.Stops.length : Int)) (ht : 0 <= to /\ to < (t.Network.Stops.length : Int)) (at_ : Int) {n : Nat} (hn : 1 <= n /\ n <= 100) :
  Tot (zq17 t change from_ to at_ (n : Int)) fun r => (NoA (LR t) change n from_ at_ to /\ r = ⟨[]⟩) \/ ∃ (by_ : Int) (k : Nat) (L : List Leg), MinA (LR t) change n from_ at_ to by_ /\ (1 <= k /\ k <= n) /\ XN (LR t) change to by_ k from_ at_ /\ yb8 (LR t) change (tid t) to by_ k from_ at_ L /\ r = ⟨L⟩ := by
 have h8 := hT.1.1
 have hR := yb2 hT
 unfold zq17
 refine ylj hT hc hf at_ (by omega) fun o ho1 ho2 => .eq (yba ht.1 (by omega)) ?_
 have hab := ho2 to ht.1 ht.2
 rw [Int.toNat_natCast] at hab
 revert hab
 generalize gv o to = by_
 intro hab
 refine .ite (fun h => .ok (.inl ⟨?_, rfl⟩)) fun h => ?_
 ·have h : by_ = 1073741824 := by simpa using h
  rcases hab with ⟨_, h2⟩ | ⟨⟨k, h1, h2⟩, _⟩
  ·exact h2
  ·have := ybm hR hc.1 h2; omega
 have h : by_ ≠ 1073741824 := by simpa using h
 rcases hab with ⟨h2, _⟩ | hmin
 ·exact absurd h2 h
 have hby : by_ <= 1799 := by
  obtain ⟨⟨k, h1, h2⟩, _⟩ := hmin
  have := ybm hR hc.1 h2; omega
 have hEA : EA (LR t) change n from_ at_ to by_ := by
  obtain ⟨⟨k, h1, h2⟩, _⟩ := hmin
  exact ⟨k, by_, h1, h2, Int.le_refl _⟩
 refine .call (P := fun v => ∃ k : Nat, v = (k : Int) /\ (1 <= k /\ k <= n) /\ XN (LR t) change to by_ k from_ at_) ?_ fun v ⟨k, hv, hk, hx⟩ => ?_
 ·refine .iter (fun m (v : Int) => ∃ k : Nat, v = (k : Int) /\ m + k = n /\ 1 <= k /\ ¬ EA (LR t) change (k - 1) from_ at_ to by_) (n := n - 1) ⟨1, rfl, by omega, by omega, ?_⟩ ?_
  ·rintro ⟨k, τ, h1, h2, _⟩
   have : k = 0 := by omega
   subst this; exact h2
  rintro m v ⟨k, rfl, hm, hk, hno⟩
  unfold yg5
  refine ylj hT hc hf at_ (by omega) fun o ho1 ho2 => .eq (yba ht.1 (by omega)) ?_
  have he := yl5 hR hc.1 (ho2 to ht.1 ht.2) (by_ := by_) (by omega)
  rw [Int.toNat_natCast] at he
  refine .iteP (fun h1 => ?_) fun h1 => .dn ⟨k, rfl, ⟨hk, by omega⟩, he.1 (by omega), hno⟩
  have hno2 : ¬ EA (LR t) change k from_ at_ to by_ := fun h => by have := he.2 h; omega
  have : k ≠ n := fun e => by subst e; exact hno2 hEA
  exact .nx ⟨m - 1, by omega, k + 1, jaj (by omega), by omega, by omega, by simpa using hno2⟩
 ·subst hv
  refine .call (P := fun L => yb8 (LR t) change (tid t) to by_ k from_ at_ L) ?_ fun L hL => ?_
  ·refine .iter (fun m s => ∃ j : Nat, s.1 = (j : Int) /\ m = j /\ j <= k /\ s.2.2.2.length + j = k /\ (j = 0 \/ XN (LR t) change to by_ j s.2.1 s.2.2.1) /\ ∀ rest, yb8 (LR t) change (tid t) to by_ j s.2.1 s.2.2.1 rest -> yb8 (LR t) change (tid t) to by_ k from_ at_ (s.2.2.2 ++ rest)) (n := k) ⟨k, rfl, rfl, Nat.le_refl _, by simp, .inr hx, fun rest h => by simpa using h⟩ ?_
   rintro m ⟨v, st, rdy, out⟩ ⟨j, hv, hm, hjk, hlen, hxj, hrest⟩
   dsimp only at hv hlen hxj hrest
   subst hv; subst hm
   unfold yg4
   dsimp only
   refine .iteP (fun hlt => ?_) fun hge => .dn ?_
   ·obtain ⟨j, rfl⟩ : ∃ j', m = j' + 1 := ⟨m - 1, by omega⟩
    rcases hxj with hxj | hxj
    ·omega
    refine .call (yhv hT hc ht (by omega) (by omega) hxj) fun g ⟨i, d, s, r, g1, g2, g3, g4⟩ => .chk (by simp; omega) ?_
    subst g4
    have hr := hR.1 _ _ _ _ _ g2
    refine .nx ⟨j, by omega, j, by rw [jah (by omega)]; omega, rfl, by omega, by simp; omega, ?_, fun rest hrs => ?_⟩
    ·dsimp only
     rw [jah (x := r + change) (by omega)]
     rcases (pk_x hR hxj g1.1 g2).2 with ⟨h0, _⟩ | ⟨_, h1⟩
     ·exact .inl h0
     ·exact .inr h1
    ·dsimp only at hrs ⊢
     rw [jah (x := r + change) (by omega)] at hrs
     have := hrest (⟨tid t i, st, s, d, r⟩ :: rest) ⟨i, d, s, r, rest, g1, g2, g3, rfl, hrs⟩
     simpa using this
   ·have : m = 0 := by omega
    subst this
    have := hrest [] rfl
    simpa using this
  ·have hl := yd2 hL
   exact .chk (by omega) (.ok (.inr ⟨by_, k, L, hmin, hk, hx, hL, rfl⟩))
theorem extF (x : l8Search) (hT : ya4 x.t_) (hc : 0 <= x.change_ /\ x.change_ <= 30) : ∀ (k m : Nat), 1 <= m -> m <= k -> m <= 100 -> ∀ (legs : List Leg) (stop at_ : Int), (0 <= stop /\ stop < (x.t_.Network.Stops.length : Int)) -> legs.length + m <= 1000 ->
  Tot (yb9 k x legs stop at_ (m : Int)) fun out => (¬ EA (LR x.t_) x.change_ m stop at_ x.to_ x.arrive_ -> out = []) /\ ∀ (a0 w0 : Int), LLs (LR x.t_) x.change_ (tid x.t_) legs a0 w0 stop at_ -> EA (LR x.t_) x.change_ m stop at_ x.to_ x.arrive_ -> ¬ EA (LR x.t_) x.change_ (legs.length + m - 1) a0 w0 x.to_ x.arrive_ ->
   (∀ k τ, k <= legs.length + m -> Chn (LR x.t_) x.change_ k a0 w0 x.to_ τ -> x.arrive_ <= τ) -> ∃ L, yb8 (LR x.t_) x.change_ (tid x.t_) x.to_ x.arrive_ m stop at_ L /\ out = legs ++ L
 | 0, m, h1, h2, _, _, _, _, _, _ => by omega
 | k + 1, m, h1, h2, h3, legs, stop, at_, hst, h4 => by
  have h8 := hT.1.1
  have h12 := hT.2.1
  have hR := yb2 hT
  -- what the rest of the search would answer
  have sub : ∀ (i : Nat) (d s r : Int), LR x.t_ i stop d s r -> 1 < m -> Tot (yb9 k x (legs ++ [⟨tid x.t_ i, stop, s, d, r⟩]) s (r + x.change_) ((m - 1 : Nat) : Int)) fun out => (¬ EA (LR x.t_) x.change_ (m - 1) s (r + x.change_) x.to_ x.arrive_ -> out = []) /\ ∀ (a0 w0 : Int), LLs (LR x.t_) x.change_ (tid x.t_) (legs ++ [⟨tid x.t_ i, stop, s, d, r⟩]) a0 w0 s (r + x.change_) -> EA (LR x.t_) x.change_ (m - 1) s (r + x.change_) x.to_ x.arrive_ -> ¬ EA (LR x.t_) x.change_ ((legs ++ [⟨tid x.t_ i, stop, s, d, r⟩] : List Leg).length + (m - 1) - 1) a0 w0 x.to_ x.arrive_ ->
    (∀ k τ, k <= (legs ++ [⟨tid x.t_ i, stop, s, d, r⟩] : List Leg).length + (m - 1) -> Chn (LR x.t_) x.change_ k a0 w0 x.to_ τ -> x.arrive_ <= τ) -> ∃ L, yb8 (LR x.t_) x.change_ (tid x.t_) x.to_ x.arrive_ (m - 1) s (r + x.change_) L /\ out = (legs ++ [⟨tid x.t_ i, stop, s, d, r⟩]) ++ L :=
   fun i d s r hlr hm => extF x hT hc k (m - 1) (by omega) (by omega) (by omega) _ s _ (hR.1 _ _ _ _ _ hlr).2.1 (by simp; omega)
  -- what is taken, and what is then returned
  let Acc : Nat -> Int -> List Leg -> Prop := fun i s out => (∀ g ∈ legs, g.Trip ≠ tid x.t_ i) /\ ∃ (d r : Int), LR x.t_ i stop d s r /\ at_ <= d /\ r <= x.arrive_ /\ ((m = 1 /\ s = x.to_ /\ r = x.arrive_ /\ out = legs ++ [⟨tid x.t_ i, stop, s, d, r⟩]) \/ (1 < m /\ yb9 k x (legs ++ [⟨tid x.t_ i, stop, s, d, r⟩]) s (r + x.change_) ((m - 1 : Nat) : Int) = some out /\ out ≠ []))
  suffices hS : Tot (yb9 (k + 1) x legs stop at_ (m : Int)) fun out => (out = [] /\ ∀ i s o, ¬ Acc i s o) \/ ∃ (i : Nat) (s : Int), Acc i s out /\ ∀ i' s' o, (i' < i \/ i' = i /\ s' < s) -> ¬ Acc i' s' o by
   refine hS.mono fun out hout => ⟨fun hno => ?_, fun a0 w0 hll hea hno hlow => ?_⟩
   ·rcases hout with ⟨h, _⟩ | ⟨i, s, ⟨_, d, r, g1, g2, g3, g4⟩, _⟩
    ·exact h
    ·exfalso
     refine hno ?_
     rcases g4 with ⟨rfl, rfl, rfl, _⟩ | ⟨g4, g5, g6⟩
     ·exact ⟨1, x.arrive_, Nat.le_refl _, ybq g1 g2, Int.le_refl _⟩
     ·have hs := sub i d s r g1 g4
      obtain ⟨o, q1, q2, _⟩ := hs
      rw [g5] at q1; cases q1
      by_cases he : EA (LR x.t_) x.change_ (m - 1) s (r + x.change_) x.to_ x.arrive_
      ·have := yby g1 g2 he
       rw [show m - 1 + 1 = m by omega] at this
       exact this
      ·exact absurd (q2 he) g6
   ·-- so many legs are needed from here
    have hxn : XN (LR x.t_) x.change_ x.to_ x.arrive_ m stop at_ := ⟨hea, fun h => hno (by
     have := ypy hll h
     rw [show legs.length + (m - 1) = legs.length + m - 1 by omega] at this
     exact this)⟩
    have accPk : ∀ i s o, Acc i s o -> Pk (LR x.t_) x.change_ x.to_ x.arrive_ m stop at_ i s := by
     rintro i s o ⟨_, d, r, g1, g2, g3, g4⟩
     rcases g4 with ⟨rfl, rfl, rfl, _⟩ | ⟨g4, g5, g6⟩
     ·exact ⟨d, _, g1, g2, .inl ⟨rfl, rfl, Int.le_refl _⟩⟩
     ·obtain ⟨o', q1, q2, _⟩ := sub i d s r g1 g4
      rw [g5] at q1; cases q1
      refine ⟨d, r, g1, g2, .inr ⟨g4, ?_⟩⟩
      exact Classical.byContradiction fun he => g6 (q2 he)
    have pkAcc : ∀ i s, Pk (LR x.t_) x.change_ x.to_ x.arrive_ m stop at_ i s -> ∃ o, Acc i s o /\ ∀ (d r : Int), LR x.t_ i stop d s r -> at_ <= d -> ∃ L', (m = 1 -> L' = []) /\ (1 < m -> yb8 (LR x.t_) x.change_ (tid x.t_) x.to_ x.arrive_ (m - 1) s (r + x.change_) L') /\ o = (legs ++ [⟨tid x.t_ i, stop, s, d, r⟩]) ++ L' := by
     rintro i s ⟨d, r, g1, g2, g3⟩
     have hrl := hR.1 _ _ _ _ _ g1
     have fin : (m - 1 = 0 /\ s = x.to_ /\ r <= x.arrive_) \/ EA (LR x.t_) x.change_ (m - 1) s (r + x.change_) x.to_ x.arrive_ := by
      rcases g3 with ⟨e, g3⟩ | ⟨_, g3⟩
      ·exact .inl ⟨by omega, g3⟩
      ·exact .inr g3
     have hun : ∀ g ∈ legs, g.Trip ≠ tid x.t_ i := fun g hg he => hno (by
      have := yhr hR hc.1 fin hll g1 g2 ⟨g, hg, he⟩ (fun i' a' d' s' r' h' he' => ynq hT g1 h' he')
      rw [show legs.length + (m - 1) = legs.length + m - 1 by omega] at this
      exact this)
     rcases g3 with ⟨rfl, rfl, g4⟩ | ⟨g4, g5⟩
     ·have : x.arrive_ <= r := hlow _ _ (Nat.le_refl _) (yft hll (ybq g1 g2))
      have hre : r = x.arrive_ := by omega
      refine ⟨_, ⟨hun, d, r, g1, g2, by omega, .inl ⟨rfl, rfl, hre, rfl⟩⟩, fun d' r' q1 q2 => ⟨[], fun _ => rfl, fun h => by omega, ?_⟩⟩
      obtain ⟨rfl, rfl⟩ := hR.2.2 _ _ _ _ _ _ _ q1 g1
      simp
     ·obtain ⟨o, q1, _, q2⟩ := sub i d s r g1 g4
      have hrb : r <= x.arrive_ := by
       obtain ⟨k', τ, e1, e2, e3⟩ := g5
       have := ybm hR hc.1 e2; omega
      obtain ⟨L', p1, p2⟩ := q2 a0 w0 (yhs hll g1 g2) g5 (by
       rw [List.length_append, List.length_singleton, show legs.length + 1 + (m - 1) - 1 = legs.length + m - 1 by omega]; exact hno) (fun k τ hk => hlow k τ (by rw [List.length_append, List.length_singleton] at hk; omega))
      refine ⟨o, ⟨hun, d, r, g1, g2, hrb, .inr ⟨g4, q1, by rw [p2]; simp⟩⟩, fun d' r' z1 z2 => ⟨L', fun h => by omega, fun _ => ?_, ?_⟩⟩
      ·obtain ⟨rfl, rfl⟩ := hR.2.2 _ _ _ _ _ _ _ z1 g1; exact p1
      ·obtain ⟨rfl, rfl⟩ := hR.2.2 _ _ _ _ _ _ _ z1 g1; exact p2
    have accU : ∀ i s o o', Acc i s o -> Acc i s o' -> o = o' := by
     rintro i s o o' ⟨_, d, r, g1, _, _, g4⟩ ⟨_, d', r', g1', _, _, g4'⟩
     obtain ⟨rfl, rfl⟩ := hR.2.2 _ _ _ _ _ _ _ g1 g1'
     rcases g4 with ⟨_, _, _, e⟩ | ⟨_, e, _⟩ <;> rcases g4' with ⟨_, _, _, e'⟩ | ⟨_, e', _⟩
     ·rw [e, e']
     ·omega
     ·omega
     ·rw [e] at e'; exact Option.some.inj e'
    rcases hout with ⟨_, h⟩ | ⟨i, s, hacc, hfirst⟩
    ·exfalso
     obtain ⟨m', rfl⟩ : ∃ m', m = m' + 1 := ⟨m - 1, by omega⟩
     obtain ⟨i, s, hp⟩ := x_pk hxn
     obtain ⟨o, ho, _⟩ := pkAcc i s hp
     exact h _ _ _ ho
    ·have hp := accPk _ _ _ hacc
     obtain ⟨o, ho, hL⟩ := pkAcc i s hp
     have := accU _ _ _ _ hacc ho
     subst this
     have hfp : FPk (LR x.t_) x.change_ x.to_ x.arrive_ m stop at_ i s := ⟨hp, fun i' s' hlt hp' => by
      obtain ⟨o', ho', _⟩ := pkAcc i' s' hp'
      exact hfirst i' s' o' hlt ho'⟩
     obtain ⟨_, d, r, g1, g2, _⟩ := hacc
     obtain ⟨L', l1, l2, l3⟩ := hL d r g1 g2
     refine ⟨⟨tid x.t_ i, stop, s, d, r⟩ :: L', ?_, by rw [l3]; simp⟩
     obtain ⟨m', rfl⟩ : ∃ m', m = m' + 1 := ⟨m - 1, by omega⟩
     refine ⟨i, d, s, r, L', hfp, g1, g2, rfl, ?_⟩
     by_cases h0 : m' = 0
     ·subst h0; exact l1 rfl
     ·have := l2 (by omega)
      simpa using this
  -- the loops
  show Tot (ydh (yb9 k) x legs stop at_ (m : Int)) _
  unfold ydh
  refine .flb ((Tot.iter (fun n (s : Int) => ∃ j : Nat, s = (j : Int) /\ n + j = x.t_.Trips.length /\ ∀ i' s' o, i' < j -> ¬ Acc i' s' o) (Q := fun b => (∀ out, b = .ret out -> ∃ (i : Nat) (s : Int), Acc i s out /\ ∀ i' s' o, (i' < i \/ i' = i /\ s' < s) -> ¬ Acc i' s' o) /\ (b = .go () -> ∀ i s o, ¬ Acc i s o)) (n := x.t_.Trips.length) ⟨0, rfl, by omega, fun i' s' o h => by omega⟩ ?_).mono fun b hb => ⟨fun r e => .inr (hb.1 r e), fun u e => .ok (.inl ⟨rfl, hb.2 e⟩)⟩)
  rintro n s ⟨j, rfl, hm, hpre⟩
  unfold ygk
  refine .iteP (fun hlt => ?_) (fun hge => .dn ⟨fun r e => (by cases e), fun _ i' s' o hacc => ?_⟩)
  rotate_left
  ·have hacc2 := hacc
   obtain ⟨_, d, r, ⟨y, l, p, q, hy, _⟩, _⟩ := hacc2
   have := jbf hy
   exact hpre i' s' o (by omega) hacc
  obtain ⟨tr, hx⟩ := ja9 (l := x.t_.Trips) (i := j) (by omega)
  obtain ⟨l, hl, hp, hid, hs, _⟩ := ya5 hT hx
  obtain ⟨⟨r1, r2, r3⟩, _⟩ := ya6 hp
  have skip : (∀ s' o, ¬ Acc j s' o) -> Tot (some (Lp.nx (w64 ((j : Int) + 1))) : Option (Lp Int (Fl (List Leg) Unit))) fun r => (∀ a', r = .nx a' -> ∃ k', k' < n /\ ∃ j : Nat, a' = (j : Int) /\ k' + j = x.t_.Trips.length /\ ∀ i' s' o, i' < j -> ¬ Acc i' s' o) /\ ∀ b, r = .dn b -> (∀ out, b = .ret out -> ∃ (i : Nat) (s : Int), Acc i s out /\ ∀ i' s' o, (i' < i \/ i' = i /\ s' < s) -> ¬ Acc i' s' o) /\ (b = .go () -> ∀ i s o, ¬ Acc i s o) := fun hno =>
   .nx ⟨n - 1, by omega, j + 1, jaj (by omega), by omega, fun i' s' o hi => by
    by_cases h : i' = j
    ·subst h; exact hno s' o
    ·exact hpre i' s' o (by omega)⟩
  refine .flb (.call (P := fun b => b = true ↔ ∃ g ∈ legs, g.Trip = tid x.t_ j) ?_ fun b1 hb1 => ?_)
  ·refine .iter (fun n s => ∃ q : Nat, s.2 = (q : Int) /\ n + q = legs.length /\ (s.1 = true ↔ ∃ (q' : Nat) (g : Leg), q' < q /\ legs[q']? = some g /\ g.Trip = tid x.t_ j)) (n := legs.length) ⟨0, rfl, by omega, by simp⟩ ?_
   rintro n' ⟨b, v⟩ ⟨q, hv, hn, hb⟩
   dsimp only at hv hb
   subst hv
   unfold ygm
   dsimp only
   refine .iteP (fun hc2 => .ite (fun h => .nx ⟨n' - 1, by omega, q + 1, jaj (by omega), by omega, ?_⟩) fun h => ?_) (fun hc2 => .dn ?_)
   ·obtain ⟨q', g, g1, g2, g3⟩ := hb.1 h
    exact ⟨fun _ => ⟨q', g, by omega, g2, g3⟩, fun _ => rfl⟩
   ·obtain ⟨g, hg⟩ := ja9 (l := legs) (i := q) (by omega)
    refine .eq (ixs hg) (.eq (ixs hx) (.nx ⟨n' - 1, by omega, q + 1, jaj (by omega), by omega, ?_⟩))
    dsimp only
    rw [ydy hx] at hb ⊢
    constructor
    ·intro h2; exact ⟨q, g, by omega, hg, by simpa using h2⟩
    ·rintro ⟨q', g', g1, g2, g3⟩
     by_cases hq : q' = q
     ·subst hq; rw [hg] at g2; cases g2; simpa using g3
     ·have := hb.2 ⟨q', g', by omega, g2, g3⟩
      rw [h] at this; cases this
   ·rw [hb]
    constructor
    ·rintro ⟨q', g, _, g2, g3⟩; exact ⟨g, List.mem_of_getElem? g2, g3⟩
    ·rintro ⟨g, g1, g2⟩
     obtain ⟨q', hq'⟩ := List.getElem?_of_mem g1
     have := jbf hq'
     exact ⟨q', g, by omega, hq', g2⟩
  refine .eq (yce hx hl) (.eq (yb0 l (by omega) stop) ?_)
  have hr := jed (fun e => stop == e) l.Stops
  have hpl : ∀ (a : Nat), fixI (fun e => stop == e) l.Stops = (a : Int) -> l.Stops[a]? = some stop := by
   intro a h
   obtain ⟨u, u1, u2, _⟩ := jep h
   have : stop = u := by simpa using u2
   rw [this]; exact u1
  have hpl2 : ∀ (a : Nat), l.Stops[a]? = some stop -> fixI (fun e => stop == e) l.Stops = (a : Int) := fun a h => (hp.2.2.1 a stop h).2
  revert hr hpl hpl2
  generalize fixI (fun e => stop == e) l.Stops = p
  intro hr hpl hpl2
  -- the times at which one could board
  have boa : ∀ d s r, LR x.t_ j stop d s r -> ∃ a b : Nat, p = a /\ a < b /\ l.Stops[a]? = some stop /\ l.Stops[b]? = some s /\ d = tr.Start + (l.Runs.take a).sum /\ r = tr.Start + (l.Runs.take b).sum := by
   rintro d s r ⟨y, l', a, b, hy, hl', hab, ha, hb, e1, e2⟩
   rw [hx] at hy; cases hy
   rw [hl] at hl'; cases hl'
   exact ⟨a, b, hpl2 a ha, hab, ha, hb, e1, e2⟩
  refine .call (P := fun b => (b = true -> ∀ s' o, ¬ Acc j s' o) /\ (b = false -> (∀ g ∈ legs, g.Trip ≠ tid x.t_ j) /\ ∃ a : Nat, p = a /\ l.Stops[a]? = some stop /\ at_ <= tr.Start + (l.Runs.take a).sum)) ?_ fun v hv => ?_
  ·refine .ite (fun h => .ok ⟨fun _ s' o hacc => ?_, fun h => by cases h⟩) fun h => .iteP (fun hneg => .ok ⟨fun _ s' o hacc => ?_, fun h => by cases h⟩) fun hp0 => ?_
   ·obtain ⟨g, g1, g2⟩ := hb1.1 h
    exact hacc.1 g g1 g2
   ·obtain ⟨_, d, r, g1, _⟩ := hacc
    obtain ⟨a, b, e, _⟩ := boa _ _ _ g1
    omega
   ·obtain ⟨a, ha⟩ : ∃ a : Nat, p = a := ⟨p.toNat, by omega⟩
    subst ha
    have hun : ∀ g ∈ legs, g.Trip ≠ tid x.t_ j := fun g g1 g2 => by rw [hb1.2 ⟨g, g1, g2⟩] at h; cases h
    refine .eq (ycl hT.1 hx hl hs (k := a) (by omega)) (.ok ⟨fun h2 s' o hacc => ?_, fun h2 => ⟨hun, a, rfl, hpl a rfl, ?_⟩⟩)
    ·obtain ⟨_, d, r, g1, g2, _⟩ := hacc
     obtain ⟨a', b, e, _, _, _, e1, _⟩ := boa _ _ _ g1
     have : a' = a := by omega
     subst this
     have : tr.Start + (l.Runs.take a').sum < at_ := by simpa using h2
     omega
    ·have : ¬ tr.Start + (l.Runs.take a).sum < at_ := by simpa using h2
     omega
  refine .ite (fun h => .ok ⟨fun r e => (by cases e), fun u _ => skip (hv.1 h)⟩) fun h => ?_
  obtain ⟨hun, a, hpa, hsa, hda⟩ := hv.2 h
  subst hpa
  refine .eq (ybz hx hl) (.flb ((Tot.iter (fun n (s : Int) => ∃ q : Nat, s = (q : Int) /\ n + q = x.t_.Network.Stops.length /\ ∀ s' o, s' < (q : Int) -> ¬ Acc j s' o) (Q := fun b => (∀ r, b = .ret r -> ∃ w, r = .ret (.dn (.ret w)) /\ ∃ s, Acc j s w /\ ∀ s' o, s' < s -> ¬ Acc j s' o) /\ (b = .go () -> ∀ s' o, ¬ Acc j s' o)) (n := x.t_.Network.Stops.length) ⟨0, rfl, by omega, ?_⟩ ?_).mono fun b hb => ⟨fun r e => ?_, fun u e => .ok ⟨fun r e => (by cases e), fun u _ => skip (hb.2 e)⟩⟩))
  ·rintro s' o hs' ⟨_, d, r, g1, _⟩
   have := hR.1 _ _ _ _ _ g1; omega
  ·rintro n' s ⟨q, rfl, hq, hpre2⟩
   unfold ygl
   refine .iteP (fun hc2 => ?_) (fun hc2 => .dn ⟨fun r e => (by cases e), fun _ s' o hacc => ?_⟩)
   rotate_left
   ·have hacc2 := hacc
    obtain ⟨_, d, r, g1, _⟩ := hacc2
    have := hR.1 _ _ _ _ _ g1
    exact hpre2 s' o (by omega) hacc
   refine .flb (.eq (yce hx hl) (.eq (yb0 l (by omega) _) ?_))
   have hr5 := jed (fun e => (q : Int) == e) l.Stops
   have hq5 : ∀ (b : Nat), fixI (fun e => (q : Int) == e) l.Stops = (b : Int) -> l.Stops[b]? = some (q : Int) := by
    intro b h
    obtain ⟨u, u1, u2, _⟩ := jep h
    have : (q : Int) = u := by simpa using u2
    rw [this]; exact u1
   have hq6 : ∀ (b : Nat), l.Stops[b]? = some (q : Int) -> fixI (fun e => (q : Int) == e) l.Stops = (b : Int) := fun b h => (hp.2.2.1 b _ h).2
   revert hr5 hq5 hq6
   generalize fixI (fun e => (q : Int) == e) l.Stops = p5
   intro hr5 hq5 hq6
   have go : (∀ o, ¬ Acc j (q : Int) o) -> Tot (some (Lp.nx (w64 ((q : Int) + 1))) : Option (Lp Int (Fl (Fl (Lp Int (Fl (List Leg) Unit)) Unit) Unit))) fun r => (∀ a', r = .nx a' -> ∃ k', k' < n' /\ ∃ q : Nat, a' = (q : Int) /\ k' + q = x.t_.Network.Stops.length /\ ∀ s' o, s' < (q : Int) -> ¬ Acc j s' o) /\ ∀ b, r = .dn b -> (∀ r, b = .ret r -> ∃ w, r = .ret (.dn (.ret w)) /\ ∃ s, Acc j s w /\ ∀ s' o, s' < s -> ¬ Acc j s' o) /\ (b = .go () -> ∀ s' o, ¬ Acc j s' o) := fun hno =>
    .nx ⟨n' - 1, by omega, q + 1, jaj (by omega), by omega, fun s' o hs' => by
     by_cases h : s' = (q : Int)
     ·subst h; exact hno o
     ·exact hpre2 s' o (by omega)⟩
   have lrq : ∀ d r, LR x.t_ j stop d (q : Int) r -> ∃ b : Nat, p5 = b /\ a < b /\ d = tr.Start + (l.Runs.take a).sum /\ r = tr.Start + (l.Runs.take b).sum := by
    intro d r h
    obtain ⟨a', b, e1, e2, e3, e4, e5, e6⟩ := boa _ _ _ h
    have : a' = a := by omega
    subst this
    exact ⟨b, hq6 b e4, e2, e5, e6⟩
   refine .call (P := fun b => (b = true -> ∀ o, ¬ Acc j (q : Int) o) /\ (b = false -> ∃ b' : Nat, p5 = b' /\ a < b' /\ l.Stops[b']? = some (q : Int) /\ tr.Start + (l.Runs.take b').sum <= x.arrive_)) ?_ fun v hv => ?_
   ·refine .iteP (fun h5 => .ok ⟨fun _ o hacc => ?_, fun h => by cases h⟩) fun h5 => .iteP (fun h6 => .ok ⟨fun _ o hacc => ?_, fun h => by cases h⟩) fun h6 => ?_
    ·obtain ⟨_, d, r, g1, _⟩ := hacc
     obtain ⟨b, e1, e2, _⟩ := lrq _ _ g1
     omega
    ·obtain ⟨_, d, r, g1, _⟩ := hacc
     obtain ⟨b, e1, e2, _⟩ := lrq _ _ g1
     have := jbf (hq5 b e1)
     omega
    ·obtain ⟨b, hb⟩ : ∃ b : Nat, p5 = b := ⟨p5.toNat, by omega⟩
     subst hb
     refine .eq (ycl hT.1 hx hl hs (k := b) (by omega)) (.ok ⟨fun h7 o hacc => ?_, fun h7 => ⟨b, rfl, by omega, hq5 b rfl, ?_⟩⟩)
     ·obtain ⟨_, d, r, g1, _, g3, _⟩ := hacc
      obtain ⟨b', e1, e2, _, e4⟩ := lrq _ _ g1
      have : b' = b := by omega
      subst this
      have : x.arrive_ < tr.Start + (l.Runs.take b').sum := by simpa using h7
      omega
     ·have : ¬ x.arrive_ < tr.Start + (l.Runs.take b).sum := by simpa using h7
      omega
   refine .ite (fun h => .ok ⟨fun r e => (by cases e), fun u _ => go (hv.1 h)⟩) fun h => ?_
   obtain ⟨b, hpb, hab, hsb, hrb⟩ := hv.2 h
   subst hpb
   have hlr : LR x.t_ j stop (tr.Start + (l.Runs.take a).sum) (q : Int) (tr.Start + (l.Runs.take b).sum) := ⟨tr, l, a, b, hx, hl, hab, hsa, hsb, rfl, rfl⟩
   have hrr := hR.1 _ _ _ _ _ hlr
   have got : ∀ w, Acc j (q : Int) w -> ∃ w', (Fl.ret (Lp.dn (Fl.ret w)) : Fl (Lp Int (Fl (List Leg) Unit)) Unit) = .ret (.dn (.ret w')) /\ ∃ s, Acc j s w' /\ ∀ s' o, s' < s -> ¬ Acc j s' o := fun w hw => ⟨w, rfl, q, hw, hpre2⟩
   rw [<- ydy hx] at *
   have hleg := ym4 hT hx hl hsa hsb
   rw [<- ydy hx] at hleg
   refine .eq hleg (.chk (by simp; omega) (.chk (by simp; omega) (.ite (fun hone => ?_) fun hone => ?_)))
   ·have hm1 : m = 1 := by
     have : (m : Int) = 1 := by simpa using hone
     omega
    refine .call (P := fun b' => b' = true ↔ ((q : Int) = x.to_ /\ tr.Start + (l.Runs.take b).sum = x.arrive_)) (.ite (fun h1 => .ok ?_) fun h1 => .ok ?_) fun v3 hv3 => .ite (fun h3 => .ok ⟨fun r e => ?_, fun u e => (by cases e)⟩) fun h3 => .ok ⟨fun r e => (by cases e), fun u _ => go fun o hacc => ?_⟩
    ·have : (q : Int) = x.to_ := by simpa using h1
     simp [this]
    ·have : ¬ (q : Int) = x.to_ := by simpa using h1
     simp [this]
    ·cases e
     refine ⟨fun a' e => (by cases e), fun b' e => ?_⟩
     cases e
     refine ⟨fun r e => (by cases e; exact got _ ⟨hun, _, _, hlr, hda, hrb, .inl ⟨hm1, (hv3.1 h3).1, (hv3.1 h3).2, by simp⟩⟩), fun e => by cases e⟩
    ·obtain ⟨_, d, r, g1, g2, g3, g4⟩ := hacc
     obtain ⟨rfl, rfl⟩ := hR.2.2 _ _ _ _ _ _ _ g1 hlr
     rcases g4 with ⟨_, e1, e2, _⟩ | ⟨e1, _⟩
     ·have := hv3.2 ⟨e1, e2⟩; rw [h3] at this; cases this
     ·omega
   ·have hm1 : 1 < m := by
     have : ¬ (m : Int) = 1 := by simpa using hone
     omega
    have ew : w64 ((m : Int) - 1) = ((m - 1 : Nat) : Int) := by rw [jah (by omega)]; omega
    have ew2 : w64 (tr.Start + (l.Runs.take b).sum + x.change_) = tr.Start + (l.Runs.take b).sum + x.change_ := jah (by omega)
    obtain ⟨out, ho, _⟩ := sub j _ _ _ hlr hm1
    dsimp only
    rw [ew, ew2, List.nil_append]
    refine .eq ho (.iteP (fun hpos => .ok ⟨fun r e => ?_, fun u e => (by cases e)⟩) fun hz => .ok ⟨fun r e => (by cases e), fun u _ => go fun o hacc => ?_⟩)
    ·cases e
     refine ⟨fun a' e => (by cases e), fun b' e => ?_⟩
     cases e
     refine ⟨fun r e => (by cases e; exact got _ ⟨hun, _, _, hlr, hda, hrb, .inr ⟨hm1, ho, fun e => by subst e; simp at hpos⟩⟩), fun e => by cases e⟩
    ·obtain ⟨_, d, r, g1, g2, g3, g4⟩ := hacc
     obtain ⟨rfl, rfl⟩ := hR.2.2 _ _ _ _ _ _ _ g1 hlr
     rcases g4 with ⟨e1, _⟩ | ⟨_, e1, e2⟩
     ·omega
     ·rw [ho] at e1; cases e1
      have : out.length ≠ 0 := fun h => e2 (List.length_eq_zero_iff.1 h)
      omega
  ·obtain ⟨w, rfl, s, hs1, hs2⟩ := hb.1 r e
   refine ⟨fun r' e' => ?_, fun u e' => by cases e'⟩
   cases e'
   refine ⟨fun a' e => (by cases e), fun b' e => ?_⟩
   cases e
   exact ⟨fun out e => (by cases e; exact ⟨j, s, hs1, fun i' s' o hlt => by
    rcases hlt with hq | ⟨hq1, hq2⟩
    ·exact hpre i' s' o hq
    ·subst hq1; exact hs2 s' o hq2⟩), fun e => by cases e⟩
theorem yq2 {t : Timetable} (hT : ya4 t) {change : Int} (hc : 0 <= change /\ change <= 30) {a c : Int} (ha : 0 <= a /\ a < (t.Network.Stops.length : Int)) (h : 0 <= c /\ c < (t.Network.Stops.length : Int)) (w : Int) {n : Nat} (hn : n <= 1000) : ∃ v, AB (LR t) change n a w c v := by
 obtain ⟨o, _, _, h2⟩ := ynw hT hc ha (w := w) n hn
 exact ⟨_, h2 c h.1 h.2⟩
noncomputable def bA (t : Timetable) (change a w c : Int) (n : Nat) : Int := Classical.epsilon fun v => AB (LR t) change n a w c v
theorem ycn {t : Timetable} (hT : ya4 t) {change : Int} (hc : 0 <= change /\ change <= 30) {a c : Int} (ha : 0 <= a /\ a < (t.Network.Stops.length : Int)) (h : 0 <= c /\ c < (t.Network.Stops.length : Int)) (w : Int) {n : Nat} (hn : n <= 1000) : AB (LR t) change n a w c (bA t change a w c n) := Classical.epsilon_spec (yq2 hT hc ha h w hn)
theorem yp9 {R : Nat -> Int -> Int -> Int -> Int -> Prop} {ch N : Int} (hR : ybi R N) (hc : 0 <= ch) {n m : Nat} {a w c s s' : Int} (h : AB R ch n a w c s) (h' : AB R ch m a w c s') (hnm : n <= m) : s' <= s := by
 rcases h with ⟨h1, h2⟩ | ⟨⟨k, h1, h2⟩, h3⟩
 ·have := yl4 hR hc h'; omega
 ·rcases h' with ⟨g1, g2⟩ | ⟨g1, g2⟩
  ·exact absurd h2 (g2 _ _ (by omega))
  ·exact g2 _ _ (by omega) h2
theorem yp8 {R : Nat -> Int -> Int -> Int -> Int -> Prop} {ch : Int} {a w c s : Int} (h : AB R ch 0 a w c s) : s = 1073741824 := by
 rcases h with ⟨h1, _⟩ | ⟨⟨k, h1, h2⟩, _⟩
 ·exact h1
 ·have : k = 0 := by omega
  subst this; exact h2.elim
theorem yht {t : Timetable} (hT : ya4 t) {change : Int} : ∀ {L : List Leg} {a w b w' : Int}, LLs (LR t) change (tid t) L a w b w' -> ∀ (i : Nat) g, L[i]? = some g -> yhz t g
 | [], _, _, _, _, _, i, g, h => by simp at h
 | g0 :: L, a, w, b, w', ⟨k, d, s, r, h1, h2, h3, h4⟩, 0, g, h => by
  simp at h
  subst h; subst h3
  obtain ⟨x, l, p, q, hx, hl, hrest⟩ := h1
  have hlr : LR t k a d s r := ⟨x, l, p, q, hx, hl, hrest⟩
  refine ⟨k, x, l, hx, hl, (ydy hx).symm, ?_⟩
  rcases yqv hT hx hl a s with ⟨_, hno⟩ | ⟨d', r', g1, g2⟩
  ·exact absurd hlr (hno d r)
  ·obtain ⟨rfl, rfl⟩ := (yb2 hT).2.2 _ _ _ _ _ _ _ g1 hlr
   exact g2
 | g0 :: L, a, w, b, w', ⟨k, d, s, r, h1, h2, h3, h4⟩, i + 1, g, h => yht hT h4 i g (by simpa using h)
theorem ynr {R : Nat -> Int -> Int -> Int -> Int -> Prop} {ch : Int} {tid : Nat -> Int} : ∀ {L : List Leg} {a w b w' : Int}, LLs R ch tid L a w b w' -> ∀ (i : Nat) p g, L[i]? = some p -> L[i + 1]? = some g -> p.To = g.From /\ p.Arrive + ch <= g.Depart
 | [], _, _, _, _, _, i, p, g, h, _ => by simp at h
 | g0 :: [], a, w, b, w', _, i, p, g, _, h => by simp at h
 | g0 :: g1 :: L, a, w, b, w', ⟨k, d, s, r, h1, h2, h3, ⟨k', d', s', r', h4, h5, h6, h7⟩⟩, 0, p, g, hp, hg => by
  simp at hp hg
  subst hp; subst hg; subst h3; subst h6
  exact ⟨rfl, h5⟩
 | g0 :: g1 :: L, a, w, b, w', ⟨k, d, s, r, h1, h2, h3, h4⟩, i + 1, p, g, hp, hg => ynr h4 i p g (by simpa using hp) (by simpa using hg)
def ycv (t : Timetable) (change from_ to : Int) : Prop := (ya4 t /\ 0 <= change /\ change <= 30) /\ (0 <= from_ /\ from_ < (t.Network.Stops.length : Int)) /\ (0 <= to /\ to < (t.Network.Stops.length : Int)) /\ from_ ≠ to
noncomputable instance (t : Timetable) (change from_ to : Int) : Decidable (ycv t change from_ to) := Classical.propDecidable _
def ycw (t : Timetable) (change from_ at_ : Int) : Prop := (ya4 t /\ 0 <= change /\ change <= 30) /\ (0 <= from_ /\ from_ < (t.Network.Stops.length : Int)) /\ 0 <= at_ /\ at_ <= 1799
noncomputable instance (t : Timetable) (change from_ at_ : Int) : Decidable (ycw t change from_ at_) := Classical.propDecidable _
theorem ybw {t : Timetable} (hb : TB t) (change from_ at_ : Int) : zq20 t change from_ at_ = some (decide (ycw t change from_ at_)) := by
 unfold zq20 zq19
 simp only [yf6 hb, ybh, ycf, yfq, qb]
 by_cases h1 : ya4 t <;> by_cases h2 : 0 <= change /\ change <= 30 <;> by_cases h3 : 0 <= from_ /\ from_ < (t.Network.Stops.length : Int) <;> by_cases h4 : 0 <= at_ /\ at_ <= 1799 <;> simp [ycw, h1, h2, h3, h4]
theorem ylq {t : Timetable} (hb : TB t) (change from_ at_ : Int) : zq84 t change from_ at_ = some (decide (ycw t change from_ at_)) := by
 have hl := hb.1.1
 have ew : w64 ((t.Network.Stops.length : Int) - 1) = (t.Network.Stops.length : Int) - 1 := jah (by omega)
 have e3 : (0 <= from_ /\ from_ <= (t.Network.Stops.length : Int) - 1) ↔ (0 <= from_ /\ from_ < (t.Network.Stops.length : Int)) := by omega
 unfold zq84
 simp only [ynd hb, ybj, ew, yd1, qb, e3]
 by_cases h1 : ya4 t /\ 0 <= change /\ change <= 30 <;> by_cases h3 : 0 <= from_ /\ from_ < (t.Network.Stops.length : Int) <;> by_cases h4 : 0 <= at_ /\ at_ <= 1799 <;> simp [ycw, h1, h3, h4]
theorem ygb {t : Timetable} (hb : TB t) (change from_ to at_ : Int) : zq86 t change from_ to at_ = some (decide (ycv t change from_ to /\ 0 <= at_ /\ at_ <= 1799)) := by
 have hl := hb.1.1
 have ew : w64 ((t.Network.Stops.length : Int) - 1) = (t.Network.Stops.length : Int) - 1 := jah (by omega)
 have e3 : (0 <= to /\ to <= (t.Network.Stops.length : Int) - 1) ↔ (0 <= to /\ to < (t.Network.Stops.length : Int)) := by omega
 unfold zq86
 simp only [ylq hb, ybj, ew, qb, e3]
 by_cases h1 : ya4 t /\ 0 <= change /\ change <= 30 <;> by_cases h3 : 0 <= from_ /\ from_ < (t.Network.Stops.length : Int) <;> by_cases h4 : 0 <= at_ /\ at_ <= 1799 <;> by_cases h5 : 0 <= to /\ to < (t.Network.Stops.length : Int) <;> by_cases h6 : from_ = to <;> simp [ycw, ycv, h1, h3, h4, h5, h6]
theorem ybv {t : Timetable} (hT : ya4 t) {change : Int} (hc : 0 <= change /\ change <= 30) {a w to by_ : Int} {k : Nat} (hk : 1 <= k /\ k <= 4) {L : List Leg} (hx : XN (LR t) change to by_ k a w) (hF : yb8 (LR t) change (tid t) to by_ k a w L) (hlow : ∀ τ, Chn (LR t) change k a w to τ -> by_ <= τ) :
  yej t change L /\ L.length = k /\ (∃ g, L[0]? = some g /\ g.From = a /\ w <= g.Depart) /\ ∃ g, L[k - 1]? = some g /\ g.Arrive = by_ /\ g.To = to := by
 have hR := yb2 hT
 have hlen := yd2 hF
 obtain ⟨n, rfl⟩ : ∃ n, k = n + 1 := ⟨k - 1, by omega⟩
 obtain ⟨M, i, b, d, r, w', m1, m2, m3, m4, m5, m6⟩ := yi9 hR hx hF
 have hll := yhs m1 m2 m3
 rw [<- m5] at hll
 have hr : by_ <= r := hlow r (by
  have := yft m1 (ybq m2 m3)
  rw [m6] at this; exact this)
 have hap := yi5 hR hc.1 (k := 0) (c := to) (by_ := by_) (fun i' a' d' s' r' i a d s r h h' he => ynq hT h' h he) hll (.inl ⟨rfl, rfl, r, rfl, m4⟩) (by rw [hlen]; exact hx.2)
 refine ⟨⟨⟨hT, hc⟩, ⟨by omega, by omega⟩, fun j g hg => ⟨yht hT hll j g hg, ?_, ?_⟩⟩, hlen, ?_, ⟨_, by rw [m5, List.getElem?_append_right (by omega), show n + 1 - 1 - M.length = 0 by omega]; rfl, by show r = by_; omega, rfl⟩⟩
 ·intro p hj hp
  obtain ⟨q1, q2⟩ := ynr hll (j - 1) p g hp (by rw [show j - 1 + 1 = j by omega]; exact hg)
  have := ypz hT (yht hT hll (j - 1) p hp)
  refine ⟨q1, ?_⟩
  rw [jah (by omega)]; omega
 ·intro j' p hj' hp
  obtain ⟨h1, e1⟩ := List.getElem?_eq_some_iff.1 hp
  obtain ⟨h2, e2⟩ := List.getElem?_eq_some_iff.1 hg
  have := List.pairwise_iff_getElem.1 hap j' j h1 h2 hj'
  rw [e1, e2] at this; exact this
 ·obtain ⟨i', d', s', r', L', f1, f2, f3, f4, f5⟩ := hF
  exact ⟨_, by rw [f4]; rfl, rfl, f3⟩
theorem ypq {k : Nat} {c : l1Cur} (h : Cur k c) (hk : k <= 2000000000) : Tot (zq55 c) fun r => Cur (k + 4) r.2 /\ -1000 <= r.1 /\ r.1 <= 5000 := by
 unfold zq55
 refine Tot.call (yqp 16 h (by omega)) fun r hr => .ite (fun _ => ?_) (fun _ => ?_)
 ·refine Tot.call (yle _ (by simp) hr (by omega)) fun r hr => .ok ⟨hr.1, ?_⟩
  have := hr.2
  simp at this
  dsimp only
  omega
 ·refine Tot.call (yee 240 hr (by omega)) fun r hr => .ok ⟨hr.1, ?_⟩
  dsimp only
  rw [jah (by omega)]; omega
theorem ymz {k : Nat} {c : l1Cur} (h : Cur k c) (hk : k <= 100000) : Tot (zq54 c) fun r => TB r.1 /\ (-1000 <= r.2.2.2.2.1 /\ r.2.2.2.2.1 <= 5000) /\ Cur (k + 4000) r.2.2.2.2.2 := by
 unfold zq54
 refine .call (ymu h (by omega)) fun r ⟨hc, hd⟩ => ?_
 have hN := hd.1.1
 refine .call (P := fun o => Cur (k + 3010) ⟨o.2.1, o.2.2.1, ⟨o.2.2.2⟩⟩ /\ (o.1 = false -> 2 <= r.1.Network.Stops.length)) (.iteP (fun _ => .ok ⟨hc.mono (by omega), fun h => by cases h⟩) fun h2 => .call (yqp 10 hc (by omega)) fun r1 h1 => .ok ⟨h1.mono (by omega), fun _ => by omega⟩) fun ⟨v, v1, v2, v3⟩ ⟨hc2, hz⟩ => ?_
 dsimp only at hc2 hz ⊢
 refine .ite (fun _ => ?_) fun hf => ?_
 ·refine .call (ygh hc2 (by omega)) fun r6 h6 => .call (yee 8 h6 (by omega)) fun r7 ⟨h7, _⟩ => .call (yee 8 h7 (by omega)) fun r8 ⟨h8, _⟩ => .call (ypq h8 (by omega)) fun r9 ⟨h9, h10⟩ => .ok ⟨hd.tb, h10, h9.mono (by omega)⟩
 ·have h2 := hz hf
  refine .call (yee _ hc2 (by omega)) fun r10 ⟨h10, _⟩ => .call (ygh h10 (by omega)) fun r14 h14 => .call (yee _ h14 (by omega)) fun r15 ⟨h15, _⟩ => .chk (by omega) (.call (yee 12 h15 (by omega)) fun r16 ⟨h16, a1, a2⟩ => .ok ⟨hd.tb, ?_, h16.mono (by omega)⟩)
  dsimp only
  rw [jah (x := 5 * r16.1) (by omega), jah (by omega)]
  omega
theorem ylz {t : Timetable} (hb : TB t) {change from_ at_ : Int} (h : ycw t change from_ at_) : Tot (zq2 t change from_ at_) fun r => r.2 = true /\ r.1.length = t.Network.Stops.length /\ gv r.1 from_ = at_ /\ ∀ s, 0 <= s -> s < (t.Network.Stops.length : Int) -> s ≠ from_ -> gv r.1 s = if bA t change from_ at_ s 4 = 1073741824 then -1 else bA t change from_ at_ s 4 := by
 obtain ⟨⟨hT, hc⟩, hf, ha⟩ := h
 have h8 := hT.1.1
 unfold zq2 zq14
 rw [ybw hb, show decide (ycw t change from_ at_) = true from decide_eq_true ⟨⟨hT, hc⟩, hf, ha⟩]
 refine .eq rfl (.ite (fun h => (by cases h)) fun _ => .call (P := fun r => r.length = t.Network.Stops.length /\ gv r from_ = at_ /\ ∀ s, 0 <= s -> s < (t.Network.Stops.length : Int) -> s ≠ from_ -> gv r s = if bA t change from_ at_ s 4 = 1073741824 then -1 else bA t change from_ at_ s 4) ?_ fun r hr => .ok ⟨rfl, hr⟩)
 refine ylj hT hc hf at_ (by omega) fun o ho1 ho2 => ?_
 have hbA : ∀ s, 0 <= s -> s < (t.Network.Stops.length : Int) -> gv o s = bA t change from_ at_ s 4 := fun s s0 s1 => yfw (ho2 s s0 s1) (ycn hT hc hf ⟨s0, s1⟩ at_ (by omega))
 refine .call (P := fun v3 => v3.length = t.Network.Stops.length /\ ∀ s, 0 <= s -> s < (t.Network.Stops.length : Int) -> gv v3 s = if gv o s = 1073741824 then -1 else gv o s) ?_ fun v3 ⟨h1, h2⟩ => .eq (yba hf.1 (by omega)) (.ok ⟨by rw [List.length_set]; exact h1, by rw [ybl hf.1 (by omega) _ _ hf.1, if_pos rfl], fun s s0 s1 hs => by rw [ybl hf.1 (by omega) _ _ s0, if_neg hs, h2 s s0 s1, hbA s s0 s1]⟩)
 refine .iter (fun m s => ∃ j : Nat, s.1 = (j : Int) /\ m + j = t.Network.Stops.length /\ s.2.length = t.Network.Stops.length /\ ∀ u, 0 <= u -> u < (t.Network.Stops.length : Int) -> gv s.2 u = if u < (j : Int) /\ gv o u = 1073741824 then -1 else gv o u) (n := t.Network.Stops.length) ⟨0, rfl, by omega, ho1, fun u u0 _ => by rw [if_neg (by omega)]⟩ ?_
 rintro m ⟨v, l⟩ ⟨j, hv, hm, hlen, hI⟩
 dsimp only at hv hlen hI
 subst hv
 unfold yg6
 dsimp only
 refine .iteP (fun hlt => ?_) (fun hge => .dn ⟨hlen, fun s s0 s1 => ?_⟩)
 ·have e := hI j (by omega) (by omega)
  rw [if_neg (by omega)] at e
  refine .call (P := fun l' => l'.length = t.Network.Stops.length /\ ∀ u, 0 <= u -> u < (t.Network.Stops.length : Int) -> gv l' u = if u < ((j + 1 : Nat) : Int) /\ gv o u = 1073741824 then -1 else gv o u) (.eq (yba (by omega) (by omega)) ?_) fun l' ⟨z1, z2⟩ => .nx ⟨m - 1, by omega, j + 1, jaj (by omega), by omega, z1, z2⟩
  rw [e]
  refine .ite (fun h => .eq (yba (by omega) (by omega)) (.ok ⟨by rw [List.length_set]; exact hlen, fun u u0 u1 => ?_⟩)) fun h => .ok ⟨hlen, fun u u0 u1 => ?_⟩
  ·have h : gv o j = 1073741824 := by simpa using h
   rw [ybl (by omega) (by omega) _ _ u0, hI u u0 u1]
   by_cases hu : u = j
   ·subst hu; rw [if_pos rfl, if_pos ⟨by omega, h⟩]
   ·rw [if_neg hu]
    by_cases h3 : u < (j : Int) /\ gv o u = 1073741824
    ·rw [if_pos h3, if_pos ⟨by omega, h3.2⟩]
    ·rw [if_neg h3, if_neg (by omega)]
  ·have h : gv o j ≠ 1073741824 := by simpa using h
   rw [hI u u0 u1]
   by_cases h3 : u < (j : Int) /\ gv o u = 1073741824
   ·rw [if_pos h3, if_pos ⟨by omega, h3.2⟩]
   ·rw [if_neg h3, if_neg (fun h4 => by
     by_cases hu : u = j
     ·subst hu; exact h h4.2
     ·exact h3 ⟨by omega, h4.2⟩)]
 ·rw [hI s s0 s1]
  by_cases h3 : gv o s = 1073741824
  ·rw [if_pos ⟨by omega, h3⟩, if_pos h3]
  ·rw [if_neg (fun h => h3 h.2), if_neg h3]
theorem ylg {t : Timetable} (hT : ya4 t) {change : Int} (hc : 0 <= change /\ change <= 30) {a c : Int} (ha : 0 <= a /\ a < (t.Network.Stops.length : Int)) (h : 0 <= c /\ c < (t.Network.Stops.length : Int)) (hne : c ≠ a) {w : Int} (hw : 0 <= w /\ w <= 10000) {n : Int} (hn : 0 <= n /\ n <= 1000) {β : Type} {k : List Int -> Option β} {Q : β -> Prop}
  (hk : ∀ o : List Int, o.length = t.Network.Stops.length -> idx o c = some (if bA t change a w c n.toNat = 1073741824 then -1 else bA t change a w c n.toNat) -> Tot (k o) Q) : Tot ((zq80 t change a w n).bind k) Q := by
 obtain ⟨m, rfl⟩ : ∃ m : Nat, n = m := ⟨n.toNat, by omega⟩
 refine .call (yps hT hc ha hw m (by omega)) fun o ⟨h1, h2⟩ => hk o h1 ?_
 rw [yba h.1 (by omega), ypu hT hc h2 h.1 h.2 hne (ycn hT hc ha h w (by omega)), Int.toNat_natCast]
theorem yl2 {t : Timetable} (hT : ya4 t) {change : Int} (hc : 0 <= change /\ change <= 30) {a c : Int} (ha : 0 <= a /\ a < (t.Network.Stops.length : Int)) (h : 0 <= c /\ c < (t.Network.Stops.length : Int)) (w : Int) {n m : Nat} (hm : m <= 1000) (hnm : n <= m) : bA t change a w c m <= bA t change a w c n :=
 yp9 (yb2 hT) hc.1 (ycn hT hc ha h w (by omega)) (ycn hT hc ha h w hm) hnm
theorem ynu {t : Timetable} (hT : ya4 t) {change : Int} (hc : 0 <= change /\ change <= 30) {a c : Int} (ha : 0 <= a /\ a < (t.Network.Stops.length : Int)) (h : 0 <= c /\ c < (t.Network.Stops.length : Int)) (w : Int) {n : Nat} (hn : n <= 1000) : bA t change a w c n = 1073741824 \/ (w < bA t change a w c n /\ bA t change a w c n <= 1799 /\ 0 <= bA t change a w c n) := yl4 (yb2 hT) hc.1 (ycn hT hc ha h w hn)
theorem ynv {t : Timetable} (hT : ya4 t) {change : Int} (hc : 0 <= change /\ change <= 30) {a c : Int} (ha : 0 <= a /\ a < (t.Network.Stops.length : Int)) (h : 0 <= c /\ c < (t.Network.Stops.length : Int)) (w : Int) {n : Nat} (hn : n <= 1000) (hne : bA t change a w c n ≠ 1073741824) : MinA (LR t) change n a w c (bA t change a w c n) := by
 rcases ycn hT hc ha h w hn with ⟨h1, _⟩ | h1
 ·exact absurd h1 hne
 ·exact h1
theorem ylf {t : Timetable} (hT : ya4 t) {change : Int} (hc : 0 <= change /\ change <= 30) {from_ to : Int} (hf : 0 <= from_ /\ from_ < (t.Network.Stops.length : Int)) {at_ by_ : Int} {n : Int} (hn : 1 <= n /\ n <= 100) (hx : XN (LR t) change to by_ n.toNat from_ at_) (hlow : ∀ k τ, k <= n.toNat -> Chn (LR t) change k from_ at_ to τ -> by_ <= τ) :
  Tot (zq83 t change from_ to at_ by_ n) fun out => yb8 (LR t) change (tid t) to by_ n.toNat from_ at_ out := by
 obtain ⟨m, rfl⟩ : ∃ m : Nat, n = m := ⟨n.toNat, by omega⟩
 rw [Int.toNat_natCast] at *
 unfold zq83
 rw [yqw]
 refine .call (extF ⟨t, change, to, by_⟩ hT hc 4294967297 m (by omega) (by omega) (by omega) [] from_ at_ hf (by simp; omega)) fun r ⟨_, hr⟩ => ?_
 obtain ⟨L, h1, h2⟩ := hr from_ at_ ⟨rfl, rfl⟩ hx.1 (by simpa using hx.2) (fun k τ hk => hlow k τ (by simpa using hk))
 refine .ok ?_
 rw [h2]; exact h1
theorem pwG {α : Type} {R : α -> α -> Prop} {M : List α} (h : M.Pairwise R) {i j : Nat} {a b : α} (hij : i < j) (ha : M[i]? = some a) (hb : M[j]? = some b) : R a b := by
 have := List.pairwise_iff_getElem.1 h i j (jbf ha) (jbf hb) hij
 rw [(List.getElem?_eq_some_iff.1 ha).2, (List.getElem?_eq_some_iff.1 hb).2] at this
 exact this
theorem ynt {l : List Int} (hs : l.Pairwise (· <= ·)) : ∀ m, m <= l.length -> (Lib.compactUpTo l.toArray m).Pairwise (· < ·) /\ ∀ x, x ∈ Lib.compactUpTo l.toArray m ↔ x ∈ l.take m
 | 0, _ => by simp [Lib.compactUpTo]
 | m + 1, hm => by
  obtain ⟨h1, h2⟩ := ynt hs m (by omega)
  have hget : ∀ {j : Nat} {x : Int}, l[j]? = some x -> l.toArray[j]! = x := fun {j x} h => by rw [getElem!_def, List.getElem?_toArray, h]
  obtain ⟨y, hy⟩ := ja9 (l := l) (i := m) (by omega)
  rw [Lib.compactUpTo_succ, jcs hy, hget hy]
  by_cases hk : Lib.keeps l.toArray m = true
  ·rw [if_pos hk]
   refine ⟨List.pairwise_append.2 ⟨h1, by simp, fun x hx z hz => ?_⟩, fun x => by simp [h2]⟩
   simp at hz
   subst hz
   have hx := (h2 x).1 hx
   obtain ⟨i, hi⟩ := List.getElem?_of_mem hx
   have hil := jbf hi
   rw [List.length_take] at hil
   rw [List.getElem?_take_of_lt (by omega)] at hi
   obtain ⟨p, hp⟩ := ja9 (l := l) (i := m - 1) (by omega)
   have hne : z ≠ p := by
    unfold Lib.keeps at hk
    rw [decide_eq_true_eq, hget hy, hget hp] at hk
    rcases hk with hk | hk
    ·omega
    ·exact hk
   have q1 : p <= z := pwG hs (by omega : m - 1 < m) hp hy
   have q2 : x <= p := by
    by_cases hi2 : i = m - 1
    ·subst hi2; rw [hi] at hp; cases hp; exact Int.le_refl _
    ·exact pwG hs (by omega : i < m - 1) hi hp
   omega
  ·rw [if_neg hk]
   refine ⟨by rw [List.append_nil]; exact h1, fun x => ?_⟩
   rw [List.append_nil, h2, List.mem_append, List.mem_singleton]
   constructor
   ·exact .inl
   ·rintro (h | rfl)
    ·exact h
    ·have hk : Lib.keeps l.toArray m = false := by simpa using hk
     unfold Lib.keeps at hk
     rw [decide_eq_false_iff_not, hget hy] at hk
     have h0 : m ≠ 0 := fun h => hk (.inl h)
     obtain ⟨p, hp⟩ := ja9 (l := l) (i := m - 1) (by omega)
     rw [hget hp] at hk
     have : x = p := Classical.byContradiction fun h => hk (.inr h)
     subst this
     exact List.mem_of_getElem? (i := m - 1) (by rw [List.getElem?_take_of_lt (by omega)]; exact hp)
def DepT (t : Timetable) (a w : Int) : Prop := ∃ (i : Nat) (b r : Int), LR t i a w b r
theorem yp3 {t : Timetable} (hT : ya4 t) (stop : Int) : Tot (zq13 t stop) fun D => D.Pairwise (· < ·) /\ (∀ x, x ∈ D ↔ DepT t stop x) /\ D.length <= 12 := by
 have h12 := hT.2.1
 unfold zq13
 refine .call (P := fun l => (∀ x, x ∈ l ↔ DepT t stop x) /\ l.length <= 12) ?_ fun l ⟨hl, hl2⟩ => ?_
 ·refine .iter (fun m s => ∃ i : Nat, s.1 = (i : Int) /\ m + i = t.Trips.length /\ s.2.length <= i /\ ∀ x, x ∈ s.2 ↔ ∃ (k : Nat) (b r : Int), k < i /\ LR t k stop x b r) (n := t.Trips.length) ⟨0, rfl, by omega, by simp, fun x => ?_⟩ ?_
  ·constructor
   ·intro h; cases h
   ·rintro ⟨k, b, r, h, _⟩; omega
  rintro m ⟨v, l⟩ ⟨i, hv, hm, hlen, hI⟩
  dsimp only at hv hlen hI
  subst hv
  unfold yg7
  dsimp only
  refine .iteP (fun hlt => ?_) (fun hge => .dn ⟨fun x => ?_, by show l.length <= 12; omega⟩)
  ·obtain ⟨x, hx⟩ := ja9 (l := t.Trips) (i := i) (by omega)
   obtain ⟨ln, hln, hP, _, hs, _⟩ := ya5 hT hx
   obtain ⟨⟨r1, r2, r3⟩, _⟩ := ya6 hP
   have ew : w64 ((ln.Stops.length : Int) - 1) = (ln.Stops.length : Int) - 1 := jah (by omega)
   refine .call (P := fun l' => l'.length <= i + 1 /\ ∀ x, x ∈ l' ↔ ∃ (k : Nat) (b r : Int), k < i + 1 /\ LR t k stop x b r) (.eq (ixs hx) (.eq (ycd hln) (.eq (ybu hln hP hs) (.eq (ybx ln.Stops (by omega) stop) ?_)))) fun l' ⟨z1, z2⟩ => .nx ⟨m - 1, by omega, i + 1, jaj (by omega), by omega, z1, z2⟩
   rw [ew]
   have hr := jed (fun e => stop == e) ln.Stops
   have here : ∀ y, (∃ (b r : Int), LR t i stop y b r) ↔ ∃ a : Nat, fixI (fun e => stop == e) ln.Stops = a /\ (a : Int) < (ln.Stops.length : Int) - 1 /\ y = x.Start + (ln.Runs.take a).sum := by
    intro y
    constructor
    ·rintro ⟨b, r, x', l', p, q, hx', hl', hpq, hp, hq, rfl, _⟩
     rw [hx] at hx'; cases hx'
     rw [hln] at hl'; cases hl'
     have := jbf hq
     exact ⟨p, (hP.2.2.1 p stop hp).2, by omega, rfl⟩
    ·rintro ⟨a, ha, hlt, rfl⟩
     obtain ⟨u, u1, u2, _⟩ := jep ha
     have eu : stop = u := by simpa using u2
     subst eu
     obtain ⟨b, hb⟩ := ja9 (l := ln.Stops) (i := a + 1) (by omega)
     exact ⟨b, _, x, ln, a, a + 1, hx, hln, by omega, u1, hb, rfl, rfl⟩
   revert hr here
   generalize fixI (fun e => stop == e) ln.Stops = p
   intro hr here
   refine .call (P := fun b => b = decide (0 <= p /\ p < (ln.Stops.length : Int) - 1)) (.iteP (fun h => .ok (by simp [h])) fun h => .ok (by simp [h])) fun b hB => ?_
   subst hB
   refine .iteP (fun hc => ?_) fun hc => .ok ⟨by omega, fun y => ?_⟩
   ·obtain ⟨a, rfl⟩ : ∃ a : Nat, p = a := ⟨p.toNat, by omega⟩
    refine .eq (ixs (yhy (l := ln) (s := x.Start) (k := a) (by omega))) (.chk (by simp; omega) (.ok ⟨by simp; omega, fun y => ?_⟩))
    rw [List.mem_append, List.mem_singleton, hI]
    constructor
    ·rintro (⟨k, b, r, h1, h2⟩ | h)
     ·exact ⟨k, b, r, by omega, h2⟩
     ·obtain ⟨b, r, h2⟩ := (here y).2 ⟨a, rfl, by omega, h⟩
      exact ⟨i, b, r, by omega, h2⟩
    ·rintro ⟨k, b, r, h1, h2⟩
     by_cases hk : k = i
     ·subst hk
      obtain ⟨a', e1, _, e3⟩ := (here y).1 ⟨b, r, h2⟩
      have : a' = a := by omega
      subst this
      exact .inr e3
     ·exact .inl ⟨k, b, r, by omega, h2⟩
   ·rw [hI]
    constructor
    ·rintro ⟨k, b, r, h1, h2⟩; exact ⟨k, b, r, by omega, h2⟩
    ·rintro ⟨k, b, r, h1, h2⟩
     by_cases hk : k = i
     ·subst hk
      obtain ⟨a', e1, e2, _⟩ := (here y).1 ⟨b, r, h2⟩
      exact absurd ⟨by omega, by omega⟩ hc
     ·exact ⟨k, b, r, by omega, h2⟩
  ·show x ∈ l ↔ _
   rw [hI]
   constructor
   ·rintro ⟨k, b, r, _, h2⟩; exact ⟨k, b, r, h2⟩
   ·rintro ⟨k, b, r, h2⟩
    have h3 := h2
    obtain ⟨x', _, _, _, hx', _⟩ := h3
    have := jbf hx'
    exact ⟨k, b, r, by omega, h2⟩
 ·refine .call (ymw l (by omega)) fun s ⟨s1, s2⟩ => ?_
  have hsl := s1.length_eq
  obtain ⟨c1, c2⟩ := ynt s2 s.length (Nat.le_refl _)
  refine .eq (show zq89 s = some (Lib.compactUpTo s.toArray s.length) from rfl) (.ok ⟨c1, fun x => ?_, ?_⟩)
  ·rw [c2, List.take_length, s1.mem_iff, hl]
  ·have : (Lib.compactUpTo s.toArray s.length).length <= s.length := by
    unfold Lib.compactUpTo
    rw [List.length_map]
    exact Nat.le_trans (List.length_filter_le ..) (by simp)
   omega
theorem yq0 (code : List UInt8) : ylb code = some (decide (65536 < (code.length : Int))) := rfl
def EJ (t : Timetable) (change a to w : Int) (r : List Leg × Bool) : Prop :=
 (bA t change a w to 4 = 1073741824 /\ r = ([], false)) \/ ∃ (k : Nat) (L : List Leg), bA t change a w to 4 ≠ 1073741824 /\ (1 <= k /\ k <= 4) /\ XN (LR t) change to (bA t change a w to 4) k a w /\ yb8 (LR t) change (tid t) to (bA t change a w to 4) k a w L /\ r = (L, true)
theorem yp6 {t : Timetable} (hT : ya4 t) {change a to w : Int} {r r' : List Leg × Bool} (h : EJ t change a to w r) (h' : EJ t change a to w r') : r = r' := by
 rcases h with ⟨h1, rfl⟩ | ⟨k, L, h1, h2, h3, h4, rfl⟩ <;> rcases h' with ⟨g1, rfl⟩ | ⟨k', L', g1, g2, g3, g4, rfl⟩
 ·rfl
 ·exact absurd h1 g1
 ·exact absurd g1 h1
 ·have : k = k' := by
   rcases Nat.lt_trichotomy k k' with q | q | q
   ·exact absurd (yd3 h3.1 (by omega)) g3.2
   ·exact q
   ·exact absurd (yd3 g3.1 (by omega)) h3.2
  subst this
  rw [yeh (yb2 hT) h4 g4]
theorem ylu {t : Timetable} (hb : TB t) (change from_ to at_ : Int) : ((zq20 t change from_ at_).bind fun r => if (!r) = true then some true else (zq25 t.Network to).bind fun r1 => if (!r1) = true then some true else some (from_ == to)) = some (!decide (ycv t change from_ to /\ 0 <= at_ /\ at_ <= 1799)) := by
 rw [ybw hb, qb, ycf]
 by_cases h1 : ycw t change from_ at_
 ·rw [decide_eq_true h1]
  obtain ⟨⟨hT, hc⟩, hf, ha⟩ := h1
  by_cases h2 : 0 <= to /\ to < (t.Network.Stops.length : Int)
  ·rw [decide_eq_true h2]
   by_cases h3 : from_ = to
   ·rw [decide_eq_false (p := ycv t change from_ to /\ 0 <= at_ /\ at_ <= 1799) fun h => h.1.2.2.2 h3]
    simp [h3]
   ·rw [decide_eq_true ⟨⟨⟨hT, hc⟩, hf, h2, h3⟩, ha⟩]
    simp [h3]
  ·rw [decide_eq_false h2, decide_eq_false (p := ycv t change from_ to /\ 0 <= at_ /\ at_ <= 1799) fun h => h2 h.1.2.2.1]
   simp
 ·rw [decide_eq_false h1, decide_eq_false (p := ycv t change from_ to /\ 0 <= at_ /\ at_ <= 1799) fun h => h1 ⟨h.1.1, h.1.2.1, h.2⟩]
  simp
theorem yqu {t : Timetable} (hb : TB t) {change from_ to at_ : Int} (h : ycv t change from_ to /\ 0 <= at_ /\ at_ <= 1799) : Tot (zq3 t change from_ to at_) fun r => EJ t change from_ to at_ r := by
 have h0 := h
 obtain ⟨⟨⟨hT, hc⟩, hf, ht, hne⟩, hat⟩ := h
 unfold zq3
 have e := ylu hb change from_ to at_
 rw [decide_eq_true h0] at e
 obtain ⟨y, e1, e2⟩ := jad e
 refine .eq e1 (.eq e2 (.ite (fun h => by cases h) fun _ => .call (yly hT hc hf ht at_ (n := 4) (by omega)) fun r2 hr2 => ?_))
 rcases hr2 with ⟨hno, rfl⟩ | ⟨by_, k', L, hmin, hk', hx, hF, rfl⟩
 ·have e : bA t change from_ at_ to 4 = 1073741824 := yfw (ycn hT hc hf ht at_ (by omega)) (.inl ⟨rfl, hno⟩)
  exact .call (P := fun o => o = ([], false)) (show Tot (some (([] : List Leg), false)) _ from .ok rfl) fun ⟨v6, v7⟩ hz => .ok (by cases hz; exact .inl ⟨e, rfl⟩)
 ·have e : bA t change from_ at_ to 4 = by_ := yfw (ycn hT hc hf ht at_ (by omega)) (.inr hmin)
  subst e
  have hnv : bA t change from_ at_ to 4 ≠ 1073741824 := by
   obtain ⟨⟨k2, q1, q2⟩, _⟩ := hmin
   have := ybm (yb2 hT) hc.1 q2; omega
  obtain ⟨j1, j2, _⟩ := ybv hT hc (k := k') (by omega) hx hF (fun τ hτ => hmin.2 k' τ hk'.2 hτ)
  refine .call (P := fun o => o = (L, true)) ?_ fun ⟨v6, v7⟩ hz => .ok (by cases hz; exact .inr ⟨k', L, hnv, hk', hx, hF, rfl⟩)
  cases L with
  | nil => simp at j2; omega
  | cons a0 l0 => exact show Tot (some ((a0 :: l0), true)) _ from .ok rfl
theorem yqq {t : Timetable} (hb : TB t) {change from_ to at_ : Int} (h : ycv t change from_ to /\ 0 <= at_ /\ at_ <= 1799) : Tot (zq39 t change from_ to at_) fun r => EJ t change from_ to at_ r := by
 have h0 := h
 obtain ⟨⟨⟨hT, hc⟩, hf, ht, hne⟩, hat⟩ := h
 unfold zq39
 rw [ygb hb, decide_eq_true h0]
 refine .eq rfl (.ite (fun h => by cases h) fun _ => ?_)
 have hr := ynu hT hc hf ht at_ (n := 4) (by omega)
 unfold zq82
 refine .call (P := fun l => EJ t change from_ to at_ (l, decide (0 < (l.length : Int)))) (ylg hT hc hf ht (Ne.symm hne) (by omega) (by omega) fun o ho1 ho2 => .eq ho2 ?_) fun l hl => .ok hl
 by_cases hbig : bA t change from_ at_ to (4 : Int).toNat = 1073741824
 ·rw [if_pos hbig]
  exact .ite (fun _ => .ok (.inl ⟨hbig, rfl⟩)) fun h => by simp at h
 ·have hr : at_ < bA t change from_ at_ to 4 /\ bA t change from_ at_ to 4 <= 1799 /\ 0 <= bA t change from_ at_ to 4 := hr.resolve_left hbig
  rw [if_neg hbig, show bA t change from_ at_ to (4 : Int).toNat = bA t change from_ at_ to 4 from rfl]
  refine .iteP (fun h => by omega) fun _ => ?_
  refine .flb ((Tot.iter (fun m (s : Int) => ∃ v : Nat, s = ((v + 1 : Nat) : Int) /\ m + v = 4 /\ bA t change from_ at_ to v ≠ bA t change from_ at_ to 4) (Q := fun b => ∃ l, b = .ret l /\ EJ t change from_ to at_ (l, decide (0 < (l.length : Int)))) (n := 4) ⟨0, rfl, rfl, ?_⟩ ?_).mono fun b ⟨l, hB, hE⟩ => ⟨fun r e => (by rw [hB] at e; cases e; exact hE), fun u e => by rw [hB] at e; cases e⟩)
  ·rw [yp8 (ycn hT hc hf ht at_ (by omega))]; omega
  ·rintro m s ⟨v, rfl, hm, hI⟩
   unfold ygn
   dsimp only
   refine .iteP (fun hlt => ?_) (fun hge => ?_)
   ·have hm1 := yl2 hT hc hf ht at_ (n := v) (m := 4) (by omega) (by omega)
    have hm2 := yl2 hT hc hf ht at_ (n := v + 1) (m := 4) (by omega) (by omega)
    refine ylg hT hc hf ht (Ne.symm hne) (by omega) (by omega) fun o2 ho1 ho2 => .eq ho2 ?_
    rw [Int.toNat_natCast]
    by_cases heq : bA t change from_ at_ to (v + 1) = bA t change from_ at_ to 4
    ·refine .ite (fun _ => ?_) fun h => ?_
     ·have hx : XN (LR t) change to (bA t change from_ at_ to 4) (v + 1) from_ at_ := by
       refine ⟨?_, fun h => ?_⟩
       ·exact (yl5 (yb2 hT) hc.1 (ycn hT hc hf ht at_ (n := v + 1) (by omega)) (by omega)).1 (by omega)
       ·have := (yl5 (yb2 hT) hc.1 (ycn hT hc hf ht at_ (n := v) (by omega)) (by_ := bA t change from_ at_ to 4) (by omega)).2 (by simpa using h)
        omega
      have hmin := ynv hT hc hf ht at_ (n := 4) (by omega) hbig
      refine .call (ylf hT hc hf (n := ((v + 1 : Nat) : Int)) (by omega) (by rw [Int.toNat_natCast]; exact hx) (fun k τ hk hch => hmin.2 k τ (by rw [Int.toNat_natCast] at hk; omega) hch)) fun L hL => .dn ⟨L, rfl, .inr ⟨v + 1, L, hbig, by omega, hx, by rw [Int.toNat_natCast] at hL; exact hL, ?_⟩⟩
      rw [Int.toNat_natCast] at hL
      obtain ⟨j1, j2, _⟩ := ybv hT hc (k := v + 1) (by omega) hx hL (fun τ hτ => hmin.2 (v + 1) τ (by omega) hτ)
      rw [j2]
      simp
     ·rw [if_neg (by omega), heq] at h
      simp at h
    ·refine .ite (fun h => ?_) fun h => .nx ⟨m - 1, by omega, v + 1, jaj (by omega), by omega, heq⟩
     split at h
     ·simp at h; omega
     ·simp at h; omega
   ·have : v = 4 := by omega
    subst this
    exact absurd rfl hI
theorem yck (l : List Leg) (hl : l.length <= 1000) : yja l l = some true := by
 unfold yja
 refine Tot.val (.ite (fun h => by simp at h) fun _ => .flb ((Tot.iter (fun m (s : Int) => ∃ i : Nat, s = (i : Int) /\ m + i = l.length) (Q := fun b => b = .go ()) (n := l.length) ⟨0, rfl, by omega⟩ ?_).mono fun b hB => ⟨fun r e => (by rw [hB] at e; cases e), fun u e => .ok rfl⟩))
 rintro m s ⟨i, rfl, hm⟩
 unfold yfl
 dsimp only
 refine .iteP (fun hlt => ?_) (fun hge => .dn rfl)
 obtain ⟨g, hg⟩ := ja9 (l := l) (i := i) (by omega)
 refine .eq (ixs hg) (.eq (ixs hg) (.ite (fun h => by simp at h) fun _ => .nx ⟨m - 1, by omega, i + 1, jaj (by omega), by omega⟩))
theorem yef {A : Int -> Option Int} {by_ : Int} : ∀ {l : List Int}, l.Pairwise (· > ·) -> (∀ τ ∈ l, ∃ a, A τ = some a) -> ∀ x ∈ l, (∃ a, A x = some a /\ a <= by_) -> ∃ τ, je3 A by_ l = some (τ, true) /\ x <= τ
 | [], _, _, x, hx, _ => by cases hx
 | τ :: l, hp, hd, x, hx, hax => by
  obtain ⟨p1, p2⟩ := List.pairwise_cons.1 hp
  obtain ⟨a, ha⟩ := hd τ (List.mem_cons_self ..)
  unfold je3
  rw [ha, qb]
  by_cases hle : a <= by_
  ·rw [if_pos hle]
   refine ⟨τ, rfl, ?_⟩
   rcases List.mem_cons.1 hx with rfl | hx
   ·exact Int.le_refl _
   ·have := p1 x hx; omega
  ·rw [if_neg hle]
   rcases List.mem_cons.1 hx with rfl | hx
   ·obtain ⟨a', h1, h2⟩ := hax
    rw [ha] at h1; cases h1; exact absurd h2 hle
   ·exact yef p2 (fun y hy => hd y (List.mem_cons_of_mem _ hy)) x hx hax
theorem yp1 {t : Timetable} (hb : TB t) {change from_ to by_ d : Int} (h : ycv t change from_ to) (hby : 0 <= by_ /\ by_ <= 1799) (hd : DepT t from_ d) (hA : bA t change from_ d to 4 <= by_) : ∃ τ, zq8 t change from_ to by_ = some (τ, true) /\ d <= τ := by
 obtain ⟨⟨hT, hc⟩, hf, ht, hne⟩ := h
 have hval : ∀ τ, ((zq29 t from_ τ).bind fun r => (zq12 t change r 4).bind fun l => idx l to) = some (bA t change from_ τ to 4) := fun τ => by
  refine Tot.val (ylj hT hc hf τ (by omega) fun o ho1 ho2 => ?_)
  have := yfw (ho2 to ht.1 ht.2) (ycn hT hc hf ht τ (by omega))
  have e := yba ht.1 (l := o) (by omega)
  rw [this] at e
  exact .of e rfl
 obtain ⟨D, eD, d1, d2, d3⟩ := yp3 hT from_
 unfold zq8 jsa
 have hFr : ycw t change from_ by_ := ⟨⟨hT, hc⟩, hf, hby⟩
 rw [ybw hb, ycf, eD, decide_eq_true hFr, decide_eq_true ht]
 simp only [qb, Bool.not_true, Bool.false_eq_true, if_false, beq_eq_false_iff_ne.2 hne]
 rw [if_pos (List.all_eq_true.2 fun τ _ => by rw [hval]; rfl)]
 exact yef (by rw [List.pairwise_reverse]; exact d1) (fun τ _ => ⟨_, hval τ⟩) d (List.mem_reverse.2 ((d2 d).2 hd)) ⟨_, hval d, hA⟩
theorem ym3 {L : List Leg} {k : Nat} (hk : 1 <= k /\ k <= 1000) (h : L.length = k) {g : Leg} (hg : L[k - 1]? = some g) : idx L (w64 ((L.length : Int) - 1)) = some g := by
 rw [jah (by omega), show (L.length : Int) - 1 = ((k - 1 : Nat) : Int) by omega, jav]; exact hg
theorem yp7 {t : Timetable} (hb : TB t) {change from_ at_ : Int} (h : ycw t change from_ at_) : Tot (zq14 t change from_ at_) fun r => r.length = t.Network.Stops.length /\ gv r from_ = at_ /\ ∀ s, 0 <= s -> s < (t.Network.Stops.length : Int) -> s ≠ from_ -> gv r s = if bA t change from_ at_ s 4 = 1073741824 then -1 else bA t change from_ at_ s 4 := by
 obtain ⟨y, e, _, h2⟩ := ylz hb h
 unfold zq2 at e
 rw [ybw hb, decide_eq_true h] at e
 obtain ⟨r, e1, e2⟩ := jad e
 cases e1
 simp only [Bool.not_true, Bool.false_eq_true, if_false] at e2
 obtain ⟨r1, e3, e4⟩ := jad e2
 cases e4
 exact .of e3 h2
theorem yjk {t : Timetable} (hb : TB t) {change from_ to at_ by_ : Int} (h : ycv t change from_ to /\ 0 <= at_ /\ at_ <= 1799) (hby : 0 <= by_ /\ by_ <= 1799) (he : bA t change from_ at_ to 4 = by_) : Tot (zq9 t change from_ at_ by_) fun r => r.2 = true /\ r.1.length <= 8 /\ to ∈ r.1 := by
 obtain ⟨⟨⟨hT, hc⟩, hf, ht, hne⟩, hat⟩ := h
 have h8 := hT.1.1
 have hFr : ycw t change from_ at_ := ⟨⟨hT, hc⟩, hf, hat⟩
 unfold zq9
 rw [ybw hb, decide_eq_true hFr]
 refine .eq rfl (.call (P := fun b => b = false) (.ite (fun h => by cases h) fun _ => .eq (yfq by_) (.ok (by simp [hby]))) fun b hB => ?_)
 subst hB
 refine .ite (fun h => by cases h) fun _ => .call (yp7 hb hFr) fun o ⟨o1, o2, o3⟩ => .call (P := fun l => l.length <= 8 /\ to ∈ l) ?_ fun l hl => .ok ⟨rfl, hl⟩
 have hto : gv o to = by_ := by rw [o3 to ht.1 ht.2 (Ne.symm hne), he, if_neg (by omega)]
 refine .iter (fun m s => ∃ i : Nat, s.1 = (i : Int) /\ m + i = o.length /\ s.2.length <= i /\ (to < (i : Int) -> to ∈ s.2)) (n := o.length) ⟨0, rfl, by omega, by simp, fun h => by omega⟩ ?_
 rintro m ⟨v, l⟩ ⟨i, hv, hm, hl, hI⟩
 dsimp only at hv hl hI
 subst hv
 unfold yjq
 dsimp only
 refine .iteP (fun hlt => ?_) (fun hge => .dn ⟨by omega, hI (by omega)⟩)
 obtain ⟨e, hE⟩ := ja9 (l := o) (i := i) (by omega)
 refine .call (P := fun l' => l'.length <= i + 1 /\ (to < ((i + 1 : Nat) : Int) -> to ∈ l')) (.eq (ixs hE) (.call (P := fun b => b = decide (0 <= e /\ e <= by_)) (.iteP (fun h => .ok (by simp [h])) fun h => .ok (by simp [h])) fun b hB => ?_)) fun l' ⟨z1, z2⟩ => .nx ⟨m - 1, by omega, i + 1, jaj (by omega), by omega, z1, z2⟩
 subst hB
 refine .iteP (fun hq => .chk (by simp; omega) (.ok ⟨by simp; omega, fun hlt2 => ?_⟩)) fun hq => .ok ⟨by omega, fun hlt2 => ?_⟩
 ·by_cases hti : to = (i : Int)
  ·rw [hti]; simp
  ·exact List.mem_append_left _ (hI (by omega))
 ·by_cases hti : to = (i : Int)
  ·exfalso
   have hg : gv o to = e := by
    have := yba ht.1 (l := o) (by omega)
    rw [hti, jav, hE] at this
    rw [hti]; exact (Option.some.inj this).symm
   rw [hg] at hto
   exact hq ⟨by omega, by omega⟩
  ·exact hI (by omega)
theorem earliest_true (code : List UInt8) : ybf code = some true := by
 unfold ybf
 refine Tot.val (.eq (yq0 code) (.iteP (fun _ => .ok rfl) (fun _ => ?_)))
 refine .call (P := fun r => TB r.1) ?_ fun ⟨t, change, from_, to, at_⟩ hb => ?_
 ·unfold zq38
  exact .call (ymz (cur0 code) (by omega)) fun r hr => .ok hr.1
 dsimp only at hb ⊢
 by_cases h : ycv t change from_ to /\ 0 <= at_ /\ at_ <= 1799
 ·have h0 := h
  obtain ⟨⟨⟨hT, hc⟩, hf, ht, hne⟩, hat⟩ := h0
  refine .call (yqu hb h) fun ⟨L, ok⟩ hE => .call (yqq hb h) fun r' hE' => ?_
  have := yp6 hT hE hE'
  subst this
  have hr := ynu hT hc hf ht at_ (n := 4) (by omega)
  rcases hE with ⟨h1, h2⟩ | ⟨k, L', h1, h2, h3, h4, h5⟩
  ·cases h2
   refine .call (P := fun b => b = false) (.ite (fun h => by cases h) fun _ => .eq (yck [] (by simp)) (.ok rfl)) fun b hB => ?_
   subst hB
   exact .ite (fun h => by cases h) fun _ => .ite (fun _ => .ok rfl) fun h => by cases h
  ·cases h5
   obtain ⟨p1, p2, ⟨g, g1, g2, g3⟩, g', g4, g5, g6⟩ := ybv hT hc h2 h3 h4 (fun τ hτ => (ynv hT hc hf ht at_ (by omega) h1).2 k τ h2.2 hτ)
   have hby : 0 <= bA t change from_ at_ to 4 /\ bA t change from_ at_ to 4 <= 1799 := by omega
   refine .call (P := fun b => b = false) (.ite (fun h => by cases h) fun _ => .eq (yck L (by omega)) (.ok rfl)) fun b hB => ?_
   subst hB
   refine .ite (fun h => by cases h) fun _ => .ite (fun h => by cases h) fun _ => ?_
   refine .call (ylz hb (change := change) (from_ := from_) (at_ := at_) ⟨⟨hT, hc⟩, hf, hat⟩) fun ⟨best, told⟩ ⟨b1, b2, b3, b4⟩ => ?_
   dsimp only at b1 b2 b3 b4 ⊢
   subst b1
   refine .call (P := fun b => b = false) ?_ fun b hB => ?_
   ·refine .ite (fun h => by cases h) fun _ => .ite (fun h => ?_) fun _ => ?_
    ·simp [b2] at h
    ·rw [yld hb, decide_eq_true p1]
     exact .eq rfl (.ite (fun h => by cases h) fun _ => .ok (by rw [beq_eq_false_iff_ne]; omega))
   subst hB
   have hla := ym3 (by omega) p2 g4
   have h0i : idx L 0 = some g := by rw [show (0 : Int) = ((0 : Nat) : Int) from rfl, jav]; exact g1
   -- the first leg's departure
   obtain ⟨d1, d2⟩ : DepT t from_ g.Depart /\ bA t change from_ g.Depart to 4 <= bA t change from_ at_ to 4 := by
    obtain ⟨n, rfl⟩ : ∃ n, k = n + 1 := ⟨k - 1, by omega⟩
    have h4' := h4
    obtain ⟨i, d, s, r, L2, q1, q2, q3, q4, q5⟩ := h4'
    rw [q4] at g1
    cases g1
    refine ⟨⟨i, s, r, q2⟩, ?_⟩
    have hx2 : EA (LR t) change 4 from_ d to (bA t change from_ at_ to 4) := by
     rcases (pk_x (yb2 hT) h3 q1.1 q2).2 with ⟨_, rfl, hb⟩ | ⟨_, hx'⟩
     ·exact ⟨1, r, by omega, ⟨i, d, _, r, q2, Int.le_refl _, .inl ⟨rfl, rfl, rfl⟩⟩, hb⟩
     ·exact yd3 (yby q2 (Int.le_refl _) hx'.1) (by omega)
    exact (yl5 (yb2 hT) hc.1 (ycn hT hc hf ht d (n := 4) (by omega)) (by omega)).2 hx2
   obtain ⟨τ, l1, l2⟩ := yp1 hb h.1 hby d1 d2
   refine .ite (fun h => by cases h) fun _ => .eq hla ?_
   rw [g5]
   refine .eq l1 (.call (yjk hb h hby rfl) fun ⟨rl, rok⟩ ⟨r1, r2, r3⟩ => ?_)
   dsimp only at r1 r2 r3
   subst r1
   have hto : idx best to = some (bA t change from_ at_ to 4) := by
    rw [yba ht.1 (by omega), b4 to ht.1 ht.2 (Ne.symm hne), if_neg h1]
   refine .eq h0i (.call (P := fun b => b = true) ?_ fun b hB => .ok hB)
   refine .ite (fun _ => .eq hla (.ite (fun _ => .eq h0i (.iteP (fun _ => .eq hto (.ite (fun _ => .ite (fun _ => .eq h0i (.iteP (fun _ => .ite (fun _ => .eq (ypo rl (by omega) to r3) (.ok rfl)) fun h => by cases h) fun h => absurd l2 h)) fun h => by cases h) fun h => by simp at h)) fun h => absurd g3 h)) fun h => by simp [g6] at h)) fun h => by simp [g2] at h
 ·have e1 : zq3 t change from_ to at_ = some ([], false) := by
   unfold zq3
   have e := ylu hb change from_ to at_
   rw [decide_eq_false h] at e
   obtain ⟨y, e1, e2⟩ := jad e
   rw [e1, qb, e2]
   rfl
  have e2 : zq39 t change from_ to at_ = some ([], false) := by
   unfold zq39
   rw [ygb hb, decide_eq_false h]
   rfl
  rw [e1, e2]
  refine .eq rfl (.eq rfl (.call (P := fun b => b = false) (.ite (fun h => by cases h) fun _ => .eq (yck [] (by simp)) (.ok rfl)) fun b hB => ?_))
  subst hB
  exact .ite (fun h => by cases h) fun _ => .ite (fun _ => .ok rfl) fun h => by cases h
end Go.Proofs.YtdocbkbpjdjlpaaGreat
