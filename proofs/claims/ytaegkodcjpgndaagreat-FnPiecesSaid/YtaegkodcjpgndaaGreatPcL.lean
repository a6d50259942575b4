/- The plain law: what the models compute, no program in sight. -/
import Derived.Test.YtaegkodcjpgndaaGreatPcM
import Derived.Test.YtaegkodcjpgndaaGreatAbPdq6
namespace Go.Proofs.YtaegkodcjpgndaaGreat
open Go Go.Ab
set_option maxHeartbeats 4000000
set_option linter.unusedVariables false
set_option linter.unusedSimpArgs false
def Cur (k : Nat) (c : l1Cur) : Prop := 0 ≤ c.at_ ∧ c.at_ ≤ k
theorem Cur.mono {k k' : Nat} {c : l1Cur} (h : Cur k c) (hk : k ≤ k') : Cur k' c := ⟨h.1, by have := h.2; omega⟩
theorem yarv {k : Nat} {c : l1Cur} (h : Cur k c) (hk : k ≤ 4000000000) : ∃ r, zq75 c = some r ∧ Cur (k + 1) r.2 ∧ 0 ≤ r.1 ∧ r.1 ≤ 255 := by
 obtain ⟨h0, h1⟩ := h
 have hw : w64 (c.at_ + 1) = c.at_ + 1 := w64_id (by omega)
 have hcur : ∀ s, Cur (k + 1) ⟨c.code_, w64 (c.at_ + 1), s⟩ := fun s => by rw [hw]; exact ⟨by show 0 ≤ c.at_ + 1; omega, by show c.at_ + 1 ≤ _; omega⟩
 unfold zq75
 have hv : ∃ v, (if (decide (c.at_ < (c.code_.length : Int))) = true then (idx c.code_ c.at_).bind fun e1 => some (w64 ((e1.toNat : Int))) else some 0) = some v ∧ 0 ≤ v ∧ v ≤ 255 := by
  by_cases hlt : c.at_ < c.code_.length
  ·obtain ⟨x, hx, _, _⟩ := idx_lt h0 hlt
   have := x.toNat_lt
   refine ⟨(x.toNat : Int), ?_, by omega, by omega⟩
   simp only [hlt, decide_true, if_true, hx, Option.bind_some]
   rw [w64_id (by omega)]
  ·exact ⟨0, by simp [hlt], by omega, by omega⟩
 obtain ⟨v, hv, hv0, hv1⟩ := hv
 rw [hv]
 simp only [Option.bind_some]
 split
 ·exact ⟨_, rfl, hcur _, hv0, hv1⟩
 ·rw [chk_of (by omega)]
  exact ⟨_, rfl, hcur _, and255 _⟩
theorem yabb {k : Nat} {c : l1Cur} (n : Int) (h : Cur k c) (hk : k ≤ 3000000000) : ∃ r, zq79 c n = some r ∧ Cur (k + 2) r.2 ∧ 0 ≤ r.1 ∧ (r.1 < n ∨ r.1 = 0) := by
 unfold zq79
 by_cases hn : n ≤ 1
 ·exact ⟨(0, c), by simp [hn], h.mono (by omega), by simp, .inr rfl⟩
 ·obtain ⟨r, hr, hc, h0, h1⟩ := yarv h (by omega)
  have hn' : decide (n ≤ 1) = false := by simpa using hn
  simp only [hn', Bool.false_eq_true, if_false, hr, Option.bind_some]
  have hne : chk (n ≠ 0) = some () := chk_of (by omega)
  by_cases h2 : 200 < n
  ·obtain ⟨r', hr', hc', h0', h1'⟩ := yarv hc (by omega)
   have e1 : w64 (r.1 * 256) = r.1 * 256 := w64_id (by omega)
   have e2 : w64 (r.1 * 256 + r'.1) = r.1 * 256 + r'.1 := w64_id (by omega)
   have h3 := tmod_rng (a := r.1 * 256 + r'.1) (b := n) (by omega) (by omega)
   simp only [h2, decide_true, if_true, hr', Option.bind_some, hne, e1, e2]
   exact ⟨_, rfl, hc'.mono (by omega), h3.1, .inl h3.2⟩
  ·have h2' : decide (200 < n) = false := by simpa using h2
   have h3 := tmod_rng (a := r.1) (b := n) (by omega) (by omega)
   simp only [h2', Bool.false_eq_true, if_false, Option.bind_some, hne]
   exact ⟨_, rfl, hc.mono (by omega), h3.1, .inl h3.2⟩
theorem yaes {k : Nat} {c : l1Cur} (l : List Int) (hl : l ≠ []) (h : Cur k c) (hk : k ≤ 3000000000) : ∃ r, zq66 c l = some r ∧ Cur (k + 2) r.2 ∧ r.1 ∈ l := by
 unfold zq66
 obtain ⟨r, hr, hc, h0, h1⟩ := yabb (l.length : Int) h hk
 have hpos : 0 < l.length := List.length_pos_iff.2 hl
 obtain ⟨x, hx, _, hm⟩ := idx_lt (l := l) h0 (by omega)
 simp only [hr, Option.bind_some, hx]
 exact ⟨_, rfl, hc, hm⟩
theorem yafy {k : Nat} {c : l1Cur} (l : List Int) (hl : l ≠ []) (h : Cur k c) (hk : k ≤ 3000000000) : ∃ r, zq65 c l = some r ∧ Cur (k + 2) r.2 ∧ r.1 ∈ l := by
 have : zq65 c l = zq66 c l := rfl
 rw [this]; exact yaes l hl h hk
theorem yalf {k : Nat} {c : l1Cur} (n : Int) (h : Cur k c) (hk : k ≤ 3000000000) : ∃ r, zq78 c n = some r ∧ Cur (k + 2) r.2 := by
 unfold zq78
 obtain ⟨r, hr, hc, _, _⟩ := yabb n h hk
 simp only [hr, Option.bind_some]
 exact ⟨_, rfl, hc⟩
theorem of_ok {k : Nat} {c : l1Cur} (l : List ByteArray) (hl : l ≠ []) (h : Cur k c) (hk : k ≤ 3000000000) : ∃ r, zq76 c l = some r ∧ Cur (k + 2) r.2 ∧ r.1 ∈ l := by
 unfold zq76
 obtain ⟨r, hr, hc, h0, h1⟩ := yabb (l.length : Int) h hk
 have hpos : 0 < l.length := List.length_pos_iff.2 hl
 obtain ⟨x, hx, _, hm⟩ := idx_lt (l := l) h0 (by omega)
 simp only [hr, Option.bind_some, hx]
 exact ⟨_, rfl, hc, hm⟩
theorem yayl {k : Nat} {c : l1Cur} (l : List ByteArray) (hl : l ≠ []) (h : Cur k c) (hk : k ≤ 3000000000) : ∃ r, zq77 c l = some r ∧ Cur (k + 2) r.2 ∧ r.1 ∈ l := by
 have : zq77 c l = zq76 c l := rfl
 rw [this]; exact of_ok l hl h hk
theorem cur0 (code : List UInt8) : Cur 0 ⟨code, 0, ⟨0⟩⟩ := ⟨by show (0 : Int) ≤ 0; omega, by show (0 : Int) ≤ _; omega⟩
theorem fdivp {x : Int} (h : 0 ≤ x) (k : Nat) : x.fdiv (2 ^ k) = x / (2 ^ k : Nat) := by
 rw [Int.fdiv_eq_ediv_of_nonneg _ (by exact_mod_cast Nat.zero_le (2 ^ k))]
 simp
theorem yalb {x y : Int} {v k : Nat} (h : y * (2 ^ v : Nat) ≤ x) (hy : 0 ≤ y) : y / (2 ^ k : Nat) * (2 ^ (v + k) : Nat) ≤ x := by
 have h1 : y / (2 ^ k : Nat) * (2 ^ k : Nat) ≤ y := Int.ediv_mul_le _ (by have := Nat.two_pow_pos k; omega)
 have h2 : y / (2 ^ k : Nat) * (2 ^ k : Nat) * (2 ^ v : Nat) ≤ y * (2 ^ v : Nat) := Int.mul_le_mul_of_nonneg_right h1 (Int.natCast_nonneg _)
 rw [Nat.add_comm, Nat.pow_add, Int.natCast_mul, ← Int.mul_assoc]
 omega
theorem yaty (x : IK .u64) (h0 : 0 ≤ x.v) (h1 : x.v < 8589934592) : Tot (zq40 x) fun r => 0 ≤ r ∧ r ≤ 64 ∧ (1 ≤ x.v → ((2 ^ r.toNat : Nat) : Int) ≤ 2 * x.v) := by
 unfold zq40
 refine Tot.call (P := fun (r : Int × Int) => 0 ≤ r.1 ∧ r.1 < 4294967296 ∧ (1 ≤ x.v → 1 ≤ r.1) ∧ 0 ≤ r.2 ∧ r.2 ≤ 32 ∧ r.1 * (2 ^ r.2.toNat : Nat) ≤ x.v) (.iteP (fun hc => Tot.chk (by decide) (.ok ?_)) (fun hc => .ok ⟨h0, by dsimp only; omega, fun h => h, Int.le_refl _, by dsimp only; omega, by simp⟩)) fun ⟨x1, v⟩ ⟨p1, p2, p3, p4, p5, p6⟩ => ?_
 ·have e : ((2 ^ 32 : Nat) : Int) = 4294967296 := by decide
  have e2 : x.v.fdiv (2 ^ (min (32 : Int).toNat (IntKind.u64).bits)) = x.v / (2 ^ 32 : Nat) := fdivp h0 32
  simp only [e2]
  exact ⟨by omega, by omega, fun _ => by omega, by omega, by omega, Int.ediv_mul_le _ (by decide)⟩
 dsimp only at p1 p2 p3 p4 p5 p6 ⊢
 refine Tot.call (P := fun (r : Int × Int) => 0 ≤ r.1 ∧ r.1 < 65536 ∧ (1 ≤ x.v → 1 ≤ r.1) ∧ 0 ≤ r.2 ∧ r.2 ≤ 48 ∧ r.1 * (2 ^ r.2.toNat : Nat) ≤ x.v) (.iteP (fun hc => Tot.chk (by decide) (.ok ?_)) (fun hc => .ok ⟨p1, by dsimp only; omega, p3, p4, by dsimp only; omega, p6⟩)) fun ⟨x2, v1⟩ ⟨q1, q2, q3, q4, q5, q6⟩ => ?_
 ·have e : ((2 ^ 16 : Nat) : Int) = 65536 := by decide
  have e2 : x1.fdiv (2 ^ (min (16 : Int).toNat (IntKind.u64).bits)) = x1 / (2 ^ 16 : Nat) := fdivp p1 16
  have e3 : w64 (v + 16) = v + 16 := w64_id (by omega)
  have e4 : (v + 16).toNat = v.toNat + 16 := by omega
  simp only [e2, e3, e4]
  exact ⟨by omega, by omega, fun _ => by omega, by omega, by omega, yalb p6 p1⟩
 dsimp only at q1 q2 q3 q4 q5 q6 ⊢
 refine Tot.call (P := fun (r : Int × Int) => 0 ≤ r.1 ∧ r.1 < 256 ∧ (1 ≤ x.v → 1 ≤ r.1) ∧ 0 ≤ r.2 ∧ r.2 ≤ 56 ∧ r.1 * (2 ^ r.2.toNat : Nat) ≤ x.v) (.iteP (fun hc => Tot.chk (by decide) (.ok ?_)) (fun hc => .ok ⟨q1, by dsimp only; omega, q3, q4, by dsimp only; omega, q6⟩)) fun ⟨x3, v2⟩ ⟨r1, r2, r3, r4, r5, r6⟩ => ?_
 ·have e : ((2 ^ 8 : Nat) : Int) = 256 := by decide
  have e2 : x2.fdiv (2 ^ (min (8 : Int).toNat (IntKind.u64).bits)) = x2 / (2 ^ 8 : Nat) := fdivp q1 8
  have e3 : w64 (v1 + 8) = v1 + 8 := w64_id (by omega)
  have e4 : (v1 + 8).toNat = v1.toNat + 8 := by omega
  simp only [e2, e3, e4]
  exact ⟨by omega, by omega, fun _ => by omega, by omega, by omega, yalb q6 q1⟩
 dsimp only at r1 r2 r3 r4 r5 r6 ⊢
 have e8 : IntKind.u8.wrap x3 = x3 := Int.emod_eq_of_lt r1 r2
 rw [e8]
 generalize hs : str _ = S
 have hS : (Nat.beq S.size 256 && (List.range 256).all fun i => Nat.ble (S.data.toList.getD i 0).toNat 8 && (Nat.beq i 0 || Nat.ble (2 ^ (S.data.toList.getD i 0).toNat) (2 * i))) = true := by
  rw [← hs]; kernel_rfl
 clear hs
 simp only [Bool.and_eq_true, List.all_eq_true, List.mem_range, Bool.or_eq_true] at hS
 obtain ⟨s1, s2⟩ := hS
 have s1 := Nat.eq_of_beq_eq_true s1
 obtain ⟨n, rfl⟩ : ∃ n : Nat, x3 = n := ⟨x3.toNat, by omega⟩
 have s2 := s2 n (by omega)
 have t1 := Nat.le_of_ble_eq_true s2.1
 refine Tot.chk (by omega) (.ok ?_)
 rw [Int.toNat_natCast]
 revert t1 s2
 generalize (S.data.toList.getD n 0).toNat = t
 intro s2 t1
 rw [w64_id (x := (t : Int)) (by omega), w64_id (by omega)]
 refine ⟨by omega, by omega, fun hx => ?_⟩
 have e1 : (v2 + (t : Int)).toNat = v2.toNat + t := by omega
 rw [e1, Nat.pow_add, Int.natCast_mul]
 have hn := r3 hx
 have t2 : 2 ^ t ≤ 2 * n := by
  rcases s2.2 with h | h
  ·have := Nat.eq_of_beq_eq_true h; omega
  ·exact Nat.le_of_ble_eq_true h
 have t3 : ((2 ^ v2.toNat : Nat) : Int) * (2 ^ t : Nat) ≤ (2 ^ v2.toNat : Nat) * (2 * n : Nat) := Int.mul_le_mul_of_nonneg_left (by exact_mod_cast t2) (by exact_mod_cast Nat.zero_le _)
 have t4 : ((2 ^ v2.toNat : Nat) : Int) * ((2 * n : Nat) : Int) = 2 * ((n : Int) * (2 ^ v2.toNat : Nat)) := by
  rw [Int.natCast_mul, Int.mul_comm ((2 ^ v2.toNat : Nat) : Int), Int.mul_assoc]; rfl
 omega
theorem yaym (x : IK .u64) (h0 : 0 ≤ x.v) (h1 : x.v < 8589934592) : Tot (zq39 x) fun r => 0 ≤ r ∧ r ≤ 64 ∧ (1 ≤ x.v → ((2 ^ r.toNat : Nat) : Int) ≤ 2 * x.v) := by
 unfold zq39
 exact Tot.call (yaty x h0 h1) fun r hr => .ok hr
theorem yaim {n : Int} (h0 : 0 ≤ n) (h1 : n < 18446744073709551616) : IntKind.u64.wrap n = n := by
 show n % 18446744073709551616 = n
 exact Int.emod_eq_of_lt h0 h1
theorem hlp : Pdq.Hlp zq125 zq133 := by
 refine ⟨fun n h1 h2 => ?_, fun x => ?_⟩
 ·unfold zq125
  rw [yaim (by omega) (by omega)]
  refine Tot.call (yaym ⟨n⟩ (by dsimp only; omega) (by dsimp only; omega)) fun r ⟨r1, r2, r3⟩ => Tot.chk r1 (.ok ?_)
  have r3 := r3 (by dsimp only; omega)
  dsimp only at r3 ⊢
  have e : min r.toNat (IntKind.u64).bits = r.toNat := Nat.min_eq_left (by show r.toNat ≤ 64; omega)
  have e2 : (1 : Int) * 2 ^ r.toNat = ((2 ^ r.toNat : Nat) : Int) := by rw [Int.one_mul]; norm_cast
  rw [e, e2]
  have := Nat.two_pow_pos r.toNat
  rw [yaim (by omega) (by omega)]
  omega
 ·unfold zq133
  exact Tot.chk (by decide) (Tot.chk (by decide) (Tot.chk (by decide) (.ok trivial)))
noncomputable def yaax (x y : Int) : Option Int := some (if x < y then -1 else 0)
theorem yaay (x y : Int) : zq0 x y = some (decide (x < y)) := by
 unfold zq0 zq1
 simp
theorem yabc (x y : Int) : decide ((if x < y then (-1 : Int) else 0) < 0) = decide (x < y) := by
 by_cases h : x < y <;> simp [h]
theorem yaaa (a : Int) : yaed a = Pdq.insertionSort_L1 a yaax := by
 funext ⟨s0, s1⟩
 simp only [yaed, Pdq.insertionSort_L1, yaax, yaay, yabc, Option.bind_some]
theorem yaab (a : Int) (b : Int) : yaec a b = Pdq.insertionSort_L2 a b yaax := by
 funext ⟨s0, s1⟩
 simp only [yaec, Pdq.insertionSort_L2, yaaa, yaax, yaay, yabc, Option.bind_some]
theorem yaae (data : List Int) (a : Int) (b : Int) : zq122 data a b = Pdq.insertionSort data a b yaax := by
 simp only [zq122, Pdq.insertionSort, yaaa, yaab, yaax, yaay, yabc, Option.bind_some]
theorem yaah (hi : Int) (first : Int) : yadn hi first = Pdq.siftDown_L1 hi first yaax := by
 funext ⟨s0, s1⟩
 simp only [yadn, Pdq.siftDown_L1, yaaa, yaab, yaae, yaax, yaay, yabc, Option.bind_some]
theorem yaap (data : List Int) (lo : Int) (hi : Int) (first : Int) : zq132 data lo hi first = Pdq.siftDown data lo hi first yaax := by
 simp only [zq132, Pdq.siftDown, yaaa, yaab, yaae, yaah, yaax, yaay, yabc, Option.bind_some]
theorem yaak (a : Int) (b : Int) : yaef a b = Pdq.heapSort_L1 a b yaax := by
 funext ⟨s0, s1⟩
 simp only [yaef, Pdq.heapSort_L1, yaaa, yaab, yaae, yaah, yaap, yaax, yaay, yabc, Option.bind_some]
theorem yaal (a : Int) : yaee a = Pdq.heapSort_L2 a yaax := by
 funext ⟨s0, s1⟩
 simp only [yaee, Pdq.heapSort_L2, yaaa, yaab, yaae, yaah, yaap, yaak, yaax, yaay, yabc, Option.bind_some]
theorem yaas (data : List Int) (a : Int) (b : Int) : zq121 data a b = Pdq.heapSort data a b yaax := by
 simp only [zq121, Pdq.heapSort, yaaa, yaab, yaae, yaah, yaap, yaak, yaal, yaax, yaay, yabc, Option.bind_some]
theorem yaau (data : List Int) (a : Int) (b : Int) (swaps : Int) : zq126 data a b swaps = Pdq.order2 data a b swaps yaax := by
 simp only [zq126, Pdq.order2, yaaa, yaab, yaae, yaah, yaap, yaak, yaal, yaas, yaax, yaay, yabc, Option.bind_some]
theorem yaaw (data : List Int) (a : Int) (b : Int) (c : Int) (swaps : Int) : zq124 data a b c swaps = Pdq.median data a b c swaps yaax := by
 simp only [zq124, Pdq.median, yaaa, yaab, yaae, yaah, yaap, yaak, yaal, yaas, yaau, yaax, yaay, yabc, Option.bind_some]
theorem yaai (data : List Int) (a : Int) (swaps : Int) : zq123 data a swaps = Pdq.medianAdjacent data a swaps yaax := by
 simp only [zq123, Pdq.medianAdjacent, yaaa, yaab, yaae, yaah, yaap, yaak, yaal, yaas, yaau, yaaw, yaax, yaay, yabc, Option.bind_some]
theorem yaan (data : List Int) (a : Int) (b : Int) : zq120 data a b = Pdq.choosePivot data a b yaax := by
 simp only [zq120, Pdq.choosePivot, yaaa, yaab, yaae, yaah, yaap, yaak, yaal, yaas, yaau, yaaw, yaai, yaax, yaay, yabc, Option.bind_some]
theorem yaaj : yado = Pdq.reverseRange_L1 := by
 funext ⟨s0, s1, s2⟩
 simp only [yado, Pdq.reverseRange_L1, yaaa, yaab, yaae, yaah, yaap, yaak, yaal, yaas, yaau, yaaw, yaai, yaan, yaax, yaay, yabc, Option.bind_some]
theorem yaao (data : List Int) (a : Int) (b : Int) : zq131 data a b = Pdq.reverseRange data a b yaax := by
 simp only [zq131, Pdq.reverseRange, yaaa, yaab, yaae, yaah, yaap, yaak, yaal, yaas, yaau, yaaw, yaai, yaan, yaaj, yaax, yaay, yabc, Option.bind_some]
theorem yaac (b : Int) (data1 : List Int) : yaeb b data1 = Pdq.partialInsertionSort_L1 b yaax data1 := by
 funext s0
 simp only [yaeb, Pdq.partialInsertionSort_L1, yaaa, yaab, yaae, yaah, yaap, yaak, yaal, yaas, yaau, yaaw, yaai, yaan, yaaj, yaao, yaax, yaay, yabc, Option.bind_some]
theorem yaad : yaea = Pdq.partialInsertionSort_L2 yaax := by
 funext ⟨s0, s1⟩
 simp only [yaea, Pdq.partialInsertionSort_L2, yaaa, yaab, yaae, yaah, yaap, yaak, yaal, yaas, yaau, yaaw, yaai, yaan, yaaj, yaao, yaac, yaax, yaay, yabc, Option.bind_some]
theorem yaaf (b : Int) : yadz b = Pdq.partialInsertionSort_L3 b yaax := by
 funext ⟨s0, s1⟩
 simp only [yadz, Pdq.partialInsertionSort_L3, yaaa, yaab, yaae, yaah, yaap, yaak, yaal, yaas, yaau, yaaw, yaai, yaan, yaaj, yaao, yaac, yaad, yaax, yaay, yabc, Option.bind_some]
theorem yaag (a : Int) (b : Int) : yady a b = Pdq.partialInsertionSort_L4 a b yaax := by
 funext ⟨s0, s1, s2⟩
 simp only [yady, Pdq.partialInsertionSort_L4, yaaa, yaab, yaae, yaah, yaap, yaak, yaal, yaas, yaau, yaaw, yaai, yaan, yaaj, yaao, yaac, yaad, yaaf, yaax, yaay, yabc, Option.bind_some]
theorem yaam (data : List Int) (a : Int) (b : Int) : zq127 data a b = Pdq.partialInsertionSort data a b yaax := by
 simp only [zq127, Pdq.partialInsertionSort, yaaa, yaab, yaae, yaah, yaap, yaak, yaal, yaas, yaau, yaaw, yaai, yaan, yaaj, yaao, yaac, yaad, yaaf, yaag, yaax, yaay, yabc, Option.bind_some]
theorem yaaq (a : Int) (v1 : Int) (data1 : List Int) : yadx a v1 data1 = Pdq.partitionEqual_L1 a yaax v1 data1 := by
 funext s0
 simp only [yadx, Pdq.partitionEqual_L1, yaaa, yaab, yaae, yaah, yaap, yaak, yaal, yaas, yaau, yaaw, yaai, yaan, yaaj, yaao, yaac, yaad, yaaf, yaag, yaam, yaax, yaay, yabc, Option.bind_some]
theorem yaar (a : Int) (data1 : List Int) (v4 : Int) : yadw a data1 v4 = Pdq.partitionEqual_L2 a yaax data1 v4 := by
 funext s0
 simp only [yadw, Pdq.partitionEqual_L2, yaaa, yaab, yaae, yaah, yaap, yaak, yaal, yaas, yaau, yaaw, yaai, yaan, yaaj, yaao, yaac, yaad, yaaf, yaag, yaam, yaaq, yaax, yaay, yabc, Option.bind_some]
theorem yaat (a : Int) : yadv a = Pdq.partitionEqual_L3 a yaax := by
 funext ⟨s0, s1, s2⟩
 simp only [yadv, Pdq.partitionEqual_L3, yaaa, yaab, yaae, yaah, yaap, yaak, yaal, yaas, yaau, yaaw, yaai, yaan, yaaj, yaao, yaac, yaad, yaaf, yaag, yaam, yaaq, yaar, yaax, yaay, yabc, Option.bind_some]
theorem yaav (data : List Int) (a : Int) (b : Int) (pivot : Int) : zq128 data a b pivot = Pdq.partitionEqual data a b pivot yaax := by
 simp only [zq128, Pdq.partitionEqual, yaaa, yaab, yaae, yaah, yaap, yaak, yaal, yaas, yaau, yaaw, yaai, yaan, yaaj, yaao, yaac, yaad, yaaf, yaag, yaam, yaaq, yaar, yaat, yaax, yaay, yabc, Option.bind_some]
theorem yaaz (data : List Int) (a : Int) (b : Int) (pivot : Int) (e4 : Int) (e5 : Int) : yadu data a b pivot e4 e5 = Pdq.partition_L1 data a b pivot yaax e4 e5 := by
 funext s0
 simp only [yadu, Pdq.partition_L1, yaaa, yaab, yaae, yaah, yaap, yaak, yaal, yaas, yaau, yaaw, yaai, yaan, yaaj, yaao, yaac, yaad, yaaf, yaag, yaam, yaaq, yaar, yaat, yaav, yaax, yaay, yabc, Option.bind_some]
theorem yabd (data : List Int) (a : Int) (pivot : Int) (e4 : Int) (e5 : Int) (v2 : Int) : yadt data a pivot e4 e5 v2 = Pdq.partition_L2 data a pivot yaax e4 e5 v2 := by
 funext s0
 simp only [yadt, Pdq.partition_L2, yaaa, yaab, yaae, yaah, yaap, yaak, yaal, yaas, yaau, yaaw, yaai, yaan, yaaj, yaao, yaac, yaad, yaaf, yaag, yaam, yaaq, yaar, yaat, yaav, yaaz, yaax, yaay, yabc, Option.bind_some]
theorem yabe (a : Int) (v7 : Int) (data1 : List Int) : yads a v7 data1 = Pdq.partition_L3 a yaax v7 data1 := by
 funext s0
 simp only [yads, Pdq.partition_L3, yaaa, yaab, yaae, yaah, yaap, yaak, yaal, yaas, yaau, yaaw, yaai, yaan, yaaj, yaao, yaac, yaad, yaaf, yaag, yaam, yaaq, yaar, yaat, yaav, yaaz, yabd, yaax, yaay, yabc, Option.bind_some]
theorem yabg (a : Int) (data1 : List Int) (v10 : Int) : yadr a data1 v10 = Pdq.partition_L4 a yaax data1 v10 := by
 funext s0
 simp only [yadr, Pdq.partition_L4, yaaa, yaab, yaae, yaah, yaap, yaak, yaal, yaas, yaau, yaaw, yaai, yaan, yaaj, yaao, yaac, yaad, yaaf, yaag, yaam, yaaq, yaar, yaat, yaav, yaaz, yabd, yabe, yaax, yaay, yabc, Option.bind_some]
theorem yabh (a : Int) : yadq a = Pdq.partition_L5 a yaax := by
 funext ⟨s0, s1, s2⟩
 simp only [yadq, Pdq.partition_L5, yaaa, yaab, yaae, yaah, yaap, yaak, yaal, yaas, yaau, yaaw, yaai, yaan, yaaj, yaao, yaac, yaad, yaaf, yaag, yaam, yaaq, yaar, yaat, yaav, yaaz, yabd, yabe, yabg, yaax, yaay, yabc, Option.bind_some]
theorem yabu (data : List Int) (a : Int) (b : Int) (pivot : Int) : zq129 data a b pivot = Pdq.partition data a b pivot yaax := by
 simp only [zq129, Pdq.partition, yaaa, yaab, yaae, yaah, yaap, yaak, yaal, yaas, yaau, yaaw, yaai, yaan, yaaj, yaao, yaac, yaad, yaaf, yaag, yaam, yaaq, yaar, yaat, yaav, yaaz, yabd, yabe, yabg, yabh, yaax, yaay, yabc, Option.bind_some]
theorem yabl (a : Int) (b : Int) (r : (IK .u64)) : yaeg a b r = Pdq.breakPatterns_L1 zq133 a b r := by
 funext ⟨s0, s1, s2⟩
 simp only [yaeg, Pdq.breakPatterns_L1, yaaa, yaab, yaae, yaah, yaap, yaak, yaal, yaas, yaau, yaaw, yaai, yaan, yaaj, yaao, yaac, yaad, yaaf, yaag, yaam, yaaq, yaar, yaat, yaav, yaaz, yabd, yabe, yabg, yabh, yabu, yaax, yaay, yabc, Option.bind_some]
theorem yacg (data : List Int) (a : Int) (b : Int) : zq119 data a b = Pdq.breakPatterns zq125 zq133 data a b yaax := by
 simp only [zq119, Pdq.breakPatterns, yaaa, yaab, yaae, yaah, yaap, yaak, yaal, yaas, yaau, yaaw, yaai, yaan, yaaj, yaao, yaac, yaad, yaaf, yaag, yaam, yaaq, yaar, yaat, yaav, yaaz, yabd, yabe, yabg, yabh, yabu, yabl, yaax, yaay, yabc, Option.bind_some]
theorem yald (rec_ : List Int → Int → Int → Int → Option (List Int)) : yadp rec_ = Pdq.pdq_L1 zq125 zq133 yaax rec_ := by
 funext ⟨s0, s1, s2, s3, s4, s5⟩
 simp only [yadp, Pdq.pdq_L1, yaaa, yaab, yaae, yaah, yaap, yaak, yaal, yaas, yaau, yaaw, yaai, yaan, yaaj, yaao, yaac, yaad, yaaf, yaag, yaam, yaaq, yaar, yaat, yaav, yaaz, yabd, yabe, yabg, yabh, yabu, yabl, yacg, yaax, yaay, yabc, Option.bind_some]
theorem yaps (rec_ : List Int → Int → Int → Int → Option (List Int)) (l : List Int) (a b k : Int) : yacf rec_ l a b k = Pdq.pdq_F zq125 zq133 yaax rec_ l a b k := by
 unfold yacf Pdq.pdq_F
 rw [yald]
theorem yalc : ∀ n, yaew n = Pdq.pdq_k zq125 zq133 yaax n
 | 0 => rfl
 | n + 1 => by
  funext l a b k
  show yacf (yaew n) l a b k = Pdq.pdq_F zq125 zq133 yaax (Pdq.pdq_k zq125 zq133 yaax n) l a b k
  rw [yalc n, yaps]
theorem ybas : Pdq.Lt yaax (· ≤ ·) := by
 refine ⟨fun x y => by omega, fun a b => by omega, fun x y => ⟨_, rfl, ?_⟩⟩
 by_cases h : x < y <;> simp [h] <;> omega
theorem yatw (l : List Int) (h : l.length < 4294967296) : Tot (zq118 l) fun l' => l'.Perm l ∧ l'.Pairwise (· ≤ ·) := by
 unfold zq118
 refine Tot.call (yaym _ (by dsimp only; rw [yaim (by omega) (by omega)]; omega) (by dsimp only; rw [yaim (by omega) (by omega)]; omega)) fun r _ => ?_
 unfold zq130
 rw [yalc]
 refine Tot.call (Pdq.pdq_ok ybas hlp (limit := r) h) fun l' hl' => .ok hl'
theorem yabm (n lo hi : Int) : zq38 n lo hi = some (decide (lo ≤ n ∧ n ≤ hi)) := by
 unfold zq38
 by_cases h : lo ≤ n <;> simp [h]
theorem yabv (n lo hi : Int) : zq86 n lo hi = some (decide (lo ≤ n ∧ n ≤ hi)) := by
 unfold zq86
 by_cases h : lo ≤ n <;> simp [h]
def ChOK (i : Nat) (c : UInt8) : Prop := (97 ≤ (c.toNat : Int) ∧ (c.toNat : Int) ≤ 122) ∨ (i ≠ 0 ∧ 48 ≤ (c.toNat : Int) ∧ (c.toNat : Int) ≤ 57)
def yabk (s : ByteArray) : Prop := (1 ≤ s.size ∧ s.size ≤ 8) ∧ ∀ (i : Nat) c, s.data.toList[i]? = some c → ChOK i c
open Classical in
noncomputable instance (s : ByteArray) : Decidable (yabk s) := Classical.propDecidable _
theorem yaio (s : ByteArray) : s.data.toList.length = s.size := by simp
theorem yalo {α : Type} {l : List α} {i : Nat} {x d : α} (h : l[i]? = some x) : l.getD i d = x := by rw [List.getD_eq_getElem?_getD, h]; rfl
theorem yapz (s : ByteArray) : zq23 s = some (decide (yabk s)) := by
 unfold zq23
 by_cases h1 : 1 ≤ s.size ∧ s.size ≤ 8
 ·have e1 : decide ((s.size : Int) < 1) = false := by simp; omega
  have e2 : decide (8 < (s.size : Int)) = false := by simp; omega
  simp only [e1, e2, Bool.false_eq_true, if_false, Option.bind_some]
  have hsz := yaio s
  have key := all_loop s.data.toList ChOK (step := yaev s) ?_ ?_ 0 0 rfl (by omega)
  ·rcases key with ⟨g1, g2⟩ | ⟨g1, g2⟩
   ·rw [g1, flb_go]
    have : yabk s := ⟨h1, fun i c hc => g2 i c (by omega) hc⟩
    simp [this]
   ·rw [g1, flb_ret]
    have : ¬ yabk s := fun hn => g2 fun i c _ hc => hn.2 i c hc
    simp [this]
  ·intro i x hx
   have hi := (List.getElem?_eq_some_iff.1 hx).1
   have hg : s.data.toList.getD (i : Int).toNat 0 = x := by rw [Int.toNat_natCast]; exact yalo hx
   have hc : chk ((0 : Int) ≤ (i : Int) ∧ (i : Int) < (s.size : Int)) = some () := chk_of (by omega)
   have hlt : decide ((i : Int) < (s.size : Int)) = true := by simp; omega
   unfold yaev
   simp only [hlt, if_true, hc, hg, Option.bind_some, w64_succ (n := i) (by omega)]
   unfold ChOK
   by_cases a1 : (97 : Int) ≤ (x.toNat : Int)
   ·by_cases a2 : (x.toNat : Int) ≤ 122
    ·left; refine ⟨by simp [a1, a2], .inl ⟨a1, a2⟩⟩
    ·right
     refine ⟨?_, by omega⟩
     have b1 : decide ((x.toNat : Int) < 48) = false := by simp; omega
     have b2 : decide ((57 : Int) < (x.toNat : Int)) = true := by simp; omega
     have c1 : ¬ (x.toNat : Int) < 48 := by omega
     have c2 : (57 : Int) < (x.toNat : Int) := by omega
     by_cases hi0 : i = 0
     ·simp [a1, a2, hi0]
     ·have hi0' : ((i : Int) == 0) = false := by simp; omega
      simp [a1, a2, hi0', c1, c2]
   ·by_cases hi0 : i = 0
    ·right
     refine ⟨by simp [a1, hi0], by omega⟩
    ·have hi0' : ((i : Int) == 0) = false := by simp; omega
     by_cases b1 : (x.toNat : Int) < 48
     ·right
      refine ⟨by simp [a1, hi0', b1], by omega⟩
     ·by_cases b2 : (57 : Int) < (x.toNat : Int)
      ·right
       refine ⟨by simp [a1, hi0', b1, b2], by omega⟩
      ·left
       refine ⟨by simp [a1, hi0', b1, b2], .inr ⟨hi0, by omega, by omega⟩⟩
  ·unfold yaev
   rw [hsz]
   simp
 ·have : ¬ yabk s := fun h => h1 h.1
  have e : (if (decide ((s.size : Int) < 1)) = true then some true else some (decide (8 < (s.size : Int)))) = some true := by
   by_cases h2 : s.size < 1
   ·have : decide ((s.size : Int) < 1) = true := by simp; omega
    simp [this]
   ·have e1 : decide ((s.size : Int) < 1) = false := by simp; omega
    have e2 : decide (8 < (s.size : Int)) = true := by simp; omega
    simp [e1, e2]
  rw [e]
  simp [this]
theorem yaiu (s : ByteArray) : zq99 s = some (decide (yabk s)) := by
 unfold zq99
 rw [yabv]
 simp only [Option.bind_some]
 by_cases h1 : 1 ≤ s.size ∧ s.size ≤ 8
 ·have e1 : decide ((1 : Int) ≤ (s.size : Int) ∧ (s.size : Int) ≤ 8) = true := by simp; omega
  have hsz := yaio s
  obtain ⟨x0, hx0⟩ := get_ex (l := s.data.toList) (i := 0) (by omega)
  have hg0 : s.data.toList.getD (0 : Int).toNat 0 = x0 := yalo hx0
  have hc0 : chk ((0 : Int) ≤ 0 ∧ 0 < (s.size : Int)) = some () := chk_of (by omega)
  simp only [e1, Bool.not_true, Bool.false_eq_true, if_false, hc0, hg0, Option.bind_some]
  by_cases a0 : 97 ≤ (x0.toNat : Int) ∧ (x0.toNat : Int) ≤ 122
  ·have b1 : decide ((x0.toNat : Int) < 97) = false := by simp; omega
   have b2 : decide ((122 : Int) < (x0.toNat : Int)) = false := by simp; omega
   simp only [b1, b2, Bool.false_eq_true, if_false, Option.bind_some]
   have key := all_loop s.data.toList ChOK (step := yaet s) ?_ ?_ 0 0 rfl (by omega)
   ·rcases key with ⟨g1, g2⟩ | ⟨g1, g2⟩
    ·rw [g1, flb_go]
     have : yabk s := ⟨h1, fun i c hc => g2 i c (by omega) hc⟩
     simp [this]
    ·rw [g1, flb_ret]
     have : ¬ yabk s := fun hn => g2 fun i c _ hc => hn.2 i c hc
     simp [this]
   ·intro i x hx
    have hi := (List.getElem?_eq_some_iff.1 hx).1
    have hg : s.data.toList.getD (i : Int).toNat 0 = x := by rw [Int.toNat_natCast]; exact yalo hx
    have hc : chk ((0 : Int) ≤ (i : Int) ∧ (i : Int) < (s.size : Int)) = some () := chk_of (by omega)
    have hlt : decide ((i : Int) < (s.size : Int)) = true := by simp; omega
    have h0 : i = 0 → x = x0 := fun h => by subst h; rw [hx0] at hx; cases hx; rfl
    unfold yaet
    simp only [hlt, if_true, hc, hg, Option.bind_some, w64_succ (n := i) (by omega)]
    unfold ChOK
    by_cases a1 : (x.toNat : Int) < 97
    ·have hi0 : i ≠ 0 := fun h => by have := h0 h; subst this; omega
     by_cases c1 : (x.toNat : Int) < 48
     ·right; refine ⟨by simp [a1, c1], by omega⟩
     ·by_cases c2 : (57 : Int) < (x.toNat : Int)
      ·right; refine ⟨by simp [a1, c1, c2], by omega⟩
      ·left; refine ⟨by simp [a1, c1, c2], .inr ⟨hi0, by omega, by omega⟩⟩
    ·by_cases a2 : (122 : Int) < (x.toNat : Int)
     ·right
      have c1 : ¬ (x.toNat : Int) < 48 := by omega
      have c2 : (57 : Int) < (x.toNat : Int) := by omega
      refine ⟨by simp [a1, a2, c1, c2], by omega⟩
     ·left; refine ⟨by simp [a1, a2], .inl ⟨by omega, by omega⟩⟩
   ·unfold yaet
    rw [hsz]
    simp
  ·have : ¬ yabk s := fun hn => by
    have := hn.2 0 x0 hx0
    unfold ChOK at this
    omega
   have e : (if (decide ((x0.toNat : Int) < 97)) = true then some true else some (decide ((122 : Int) < (x0.toNat : Int)))) = some true := by
    by_cases h2 : (x0.toNat : Int) < 97
    ·simp [h2]
    ·have : (122 : Int) < (x0.toNat : Int) := by omega
     simp [h2, this]
   rw [e]
   simp [this]
 ·have e1 : decide ((1 : Int) ≤ (s.size : Int) ∧ (s.size : Int) ≤ 8) = false := by simp; omega
  have : ¬ yabk s := fun h => h1 h.1
  simp [e1, this]
theorem yafu (l : List ByteArray) (hl : l.length ≤ 4000000000) (v : ByteArray) : zq117 l v = some (fixI (fun e => v.toList == e.toList) l) := by
 unfold zq117
 refine find_val l (fun e => v.toList == e.toList) (fun i x hx => ?_) (by unfold yaeh; simp)
 have hi := (List.getElem?_eq_some_iff.1 hx).1
 unfold yaeh
 have hlt : decide ((i : Int) < (l.length : Int)) = true := by simp; omega
 simp only [hlt, if_true, idx_nat, hx, Option.bind_some, w64_succ (n := i) (by omega)]
 split <;> rfl
theorem yacb (l : List Int) (hl : l.length ≤ 4000000000) (v : Int) : zq116 l v = some (fixI (fun e => v == e) l) := by
 unfold zq116
 refine find_val l (fun e => v == e) (fun i x hx => ?_) (by unfold yaei; simp)
 have hi := (List.getElem?_eq_some_iff.1 hx).1
 unfold yaei
 have hlt : decide ((i : Int) < (l.length : Int)) = true := by simp; omega
 simp only [hlt, if_true, idx_nat, hx, Option.bind_some, w64_succ (n := i) (by omega)]
 split <;> rfl
theorem yafb (x : Line) (hl : x.Stops.length ≤ 4000000000) (v : Int) : zq102 x v = some (fixI (fun e => v == e) x.Stops) := by
 have hc : fixI (fun e => v == e) x.Stops = fixI (fun e => e == v) x.Stops := fixI_congr _ fun e => BEq.comm
 rw [hc]
 unfold zq102
 refine find_val x.Stops (fun e => e == v) (fun i y hx => ?_) (by unfold yaem; simp)
 have hi := (List.getElem?_eq_some_iff.1 hx).1
 unfold yaem
 have hlt : decide ((i : Int) < (x.Stops.length : Int)) = true := by simp; omega
 simp only [hlt, if_true, idx_nat, hx, Option.bind_some, w64_succ (n := i) (by omega)]
 split <;> rfl
theorem yasa (a b : List UInt8) : (a == b) = (b == a) := BEq.comm
theorem yapv (l : List ByteArray) (hl : l.length ≤ 4000000000) (v : ByteArray) : zq95 l v = some (fixI (fun e => v.toList == e.toList) l) := by
 rw [fixI_congr l (q := fun e => e.toList == v.toList) fun e => yasa _ _]
 unfold zq95
 refine find_val l (fun e => e.toList == v.toList) (fun i x hx => ?_) (by unfold yage; simp)
 have hi := (List.getElem?_eq_some_iff.1 hx).1
 unfold yage
 have hlt : decide ((i : Int) < (l.length : Int)) = true := by simp; omega
 simp only [hlt, if_true, idx_nat, hx, Option.bind_some, w64_succ (n := i) (by omega)]
 split <;> rfl
theorem yaep (n : Network) (hl : n.Lines.length ≤ 4000000000) (v : ByteArray) : zq98 n v = some (fixI (fun e => v.toList == e.toList) (n.Lines.map (·.Name))) := by
 rw [fixI_map, fixI_congr n.Lines (q := fun e => e.Name.toList == v.toList) fun e => yasa _ _]
 unfold zq98
 refine find_val n.Lines (fun e => e.Name.toList == v.toList) (fun i x hx => ?_) (by unfold yafz; simp)
 have hi := (List.getElem?_eq_some_iff.1 hx).1
 unfold yafz
 have hlt : decide ((i : Int) < (n.Lines.length : Int)) = true := by simp; omega
 simp only [hlt, if_true, idx_nat, hx, Option.bind_some, w64_succ (n := i) (by omega)]
 split <;> rfl
def yafg (l : List ByteArray) : Prop := ∀ (i : Nat) x, l[i]? = some x → yabk x ∧ fixI (fun e => x.toList == e.toList) l = (i : Int)
def LineP (st : Nat) (x : Line) : Prop := (2 ≤ x.Stops.length ∧ x.Stops.length ≤ 6) ∧ (x.Runs.length : Int) = (x.Stops.length : Int) - 1 ∧
 (∀ (i : Nat) e, x.Stops[i]? = some e → (0 ≤ e ∧ e < (st : Int)) ∧ fixI (fun y => e == y) x.Stops = (i : Int)) ∧ ∀ (i : Nat) r, x.Runs[i]? = some r → 1 ≤ r ∧ r ≤ 60
def Good (n : Network) : Prop := (2 ≤ n.Stops.length ∧ n.Stops.length ≤ 8) ∧ (1 ≤ n.Lines.length ∧ n.Lines.length ≤ 5) ∧ yafg n.Stops ∧ yafg (n.Lines.map (·.Name)) ∧ ∀ (i : Nat) x, n.Lines[i]? = some x → LineP n.Stops.length x
noncomputable instance (l : List ByteArray) : Decidable (yafg l) := Classical.propDecidable _
noncomputable instance (st : Nat) (x : Line) : Decidable (LineP st x) := Classical.propDecidable _
noncomputable instance (n : Network) : Decidable (Good n) := Classical.propDecidable _
def Bd (n : Network) : Prop := n.Stops.length ≤ 1000 ∧ n.Lines.length ≤ 1000 ∧ ∀ x ∈ n.Lines, x.Stops.length ≤ 1000 ∧ x.Runs.length ≤ 1000
theorem yadj (l : List ByteArray) (hl : l.length ≤ 1000) : zq12 l = some (decide (yafg l)) := by
 unfold zq12
 rw [all_val (hd := Classical.propDecidable _) l (fun i x => yabk x ∧ fixI (fun e => x.toList == e.toList) l = (i : Int)) (fun i x hx => ?_) (by unfold yahj; simp)]
 ·by_cases h : yafg l
  ·rw [if_pos (show ∀ (i : Nat) x, l[i]? = some x → yabk x ∧ fixI (fun e => x.toList == e.toList) l = (i : Int) from h)]; simp [h]
  ·rw [if_neg (show ¬ ∀ (i : Nat) x, l[i]? = some x → yabk x ∧ fixI (fun e => x.toList == e.toList) l = (i : Int) from h)]; simp [h]
 ·have hi := (List.getElem?_eq_some_iff.1 hx).1
  unfold yahj
  have hlt : decide ((i : Int) < (l.length : Int)) = true := by simp; omega
  simp only [hlt, if_true, idx_nat, hx, Option.bind_some, yapz, yafu l (by omega), w64_succ (n := i) (by omega)]
  by_cases h1 : yabk x
  ·by_cases h2 : fixI (fun e => x.toList == e.toList) l = (i : Int)
   ·left; simp [h1, h2]
   ·right; simp [h1, h2]
  ·right; simp [h1]
theorem yafs (n : Network) (hl : n.Lines.length ≤ 1000) : zq30 n = some (n.Lines.map (·.Name)) := by
 unfold zq30
 rw [chk_of (by omega)]
 simp only [Option.bind_some]
 rw [fill_loop (fun x : Line => x.Name) n.Lines _ (by simp) (fun i a x y ha hy hx => ?_) (fun a ha => ?_)]
 ·rfl
 ·have hi := (List.getElem?_eq_some_iff.1 hx).1
  unfold yagx
  have hlt : decide ((i : Int) < (n.Lines.length : Int)) = true := by simp; omega
  simp only [hlt, if_true, idx_nat, hx, hy, Option.bind_some, w64_succ (n := i) (by omega), Int.toNat_natCast]
 ·unfold yagx; simp
theorem yapx (n : Network) (e : Int) : zq26 n e = some (decide (0 ≤ e ∧ e < (n.Stops.length : Int))) := by
 unfold zq26
 by_cases h : 0 ≤ e <;> simp [h]
theorem yaqa (n : Network) (e : Int) : zq22 n e = some (decide (0 ≤ e ∧ e < (n.Lines.length : Int))) := by
 unfold zq22
 by_cases h : 0 ≤ e <;> simp [h]
theorem yaeq (n : Network) (l : Line) (h1 : l.Stops.length ≤ 1000) (h2 : l.Runs.length ≤ 1000) : zq27 n l = some (decide (LineP n.Stops.length l)) := by
 unfold zq27
 rw [yabm]
 have e0 : w64 ((l.Stops.length : Int) - 1) = (l.Stops.length : Int) - 1 := w64_id (by omega)
 simp only [Option.bind_some, e0]
 by_cases a1 : 2 ≤ l.Stops.length ∧ l.Stops.length ≤ 6
 ·have d1 : decide ((2 : Int) ≤ (l.Stops.length : Int) ∧ (l.Stops.length : Int) ≤ 6) = true := by simp; omega
  simp only [d1, Bool.not_true, Bool.false_eq_true, if_false]
  by_cases a2 : (l.Runs.length : Int) = (l.Stops.length : Int) - 1
  ·have d2 : ((l.Runs.length : Int) != (l.Stops.length : Int) - 1) = false := by simp [a2]
   simp only [d2, Option.bind_some, Bool.false_eq_true, if_false]
   rw [all_val (hd := Classical.propDecidable _) l.Stops (fun i e => (0 ≤ e ∧ e < (n.Stops.length : Int)) ∧ fixI (fun y => e == y) l.Stops = (i : Int)) (fun i x hx => ?_) (by unfold yagz; simp)]
   ·rw [all_val (hd := Classical.propDecidable _) l.Runs (fun i r => 1 ≤ r ∧ r ≤ 60) (fun i x hx => ?_) (by unfold yagy; simp)]
    ·by_cases b1 : ∀ (i : Nat) e, l.Stops[i]? = some e → (0 ≤ e ∧ e < (n.Stops.length : Int)) ∧ fixI (fun y => e == y) l.Stops = (i : Int)
     ·rw [if_pos b1]
      by_cases b2 : ∀ (i : Nat) r, l.Runs[i]? = some r → 1 ≤ r ∧ r ≤ 60
      ·rw [if_pos b2]
       have : LineP n.Stops.length l := ⟨a1, a2, b1, b2⟩
       simp [this]
      ·rw [if_neg b2]
       have : ¬ LineP n.Stops.length l := fun h => b2 h.2.2.2
       simp [this]
     ·rw [if_neg b1]
      have : ¬ LineP n.Stops.length l := fun h => b1 h.2.2.1
      simp [this]
    ·have hi := (List.getElem?_eq_some_iff.1 hx).1
     unfold yagy
     have hlt : decide ((i : Int) < (l.Runs.length : Int)) = true := by simp; omega
     simp only [hlt, if_true, idx_nat, hx, Option.bind_some, yabm, w64_succ (n := i) (by omega)]
     by_cases b : 1 ≤ x ∧ x ≤ 60
     ·left; simp [b]
     ·right; simp [b]
   ·have hi := (List.getElem?_eq_some_iff.1 hx).1
    unfold yagz
    have hlt : decide ((i : Int) < (l.Stops.length : Int)) = true := by simp; omega
    simp only [hlt, if_true, idx_nat, hx, Option.bind_some, yapx, yacb l.Stops (by omega), w64_succ (n := i) (by omega)]
    by_cases b1 : 0 ≤ x ∧ x < (n.Stops.length : Int)
    ·by_cases b2 : fixI (fun y => x == y) l.Stops = (i : Int)
     ·left; simp [b1, b2]
     ·right; simp [b1, b2]
    ·right; simp [b1]
  ·have d2 : ((l.Runs.length : Int) != (l.Stops.length : Int) - 1) = true := by simp [a2]
   have : ¬ LineP n.Stops.length l := fun h => a2 h.2.1
   simp [d2, this]
 ·have d1 : decide ((2 : Int) ≤ (l.Stops.length : Int) ∧ (l.Stops.length : Int) ≤ 6) = false := by simp; omega
  have : ¬ LineP n.Stops.length l := fun h => a1 h.1
  simp [d1, this]
theorem yapu (l : Line) (st : Nat) (hst : st ≤ 1000) (h1 : l.Stops.length ≤ 1000) (h2 : l.Runs.length ≤ 1000) : zq97 l (st : Int) = some (decide (yabk l.Name ∧ LineP st l)) := by
 unfold zq97
 rw [yaiu]
 have e0 : w64 ((l.Stops.length : Int) - 1) = (l.Stops.length : Int) - 1 := w64_id (by omega)
 have e1 : w64 ((st : Int) - 1) = (st : Int) - 1 := w64_id (by omega)
 simp only [Option.bind_some, e0, yabv]
 by_cases a0 : yabk l.Name
 ·simp only [a0, decide_true, Bool.not_true, Bool.false_eq_true, if_false, true_and]
  by_cases a1 : 2 ≤ l.Stops.length ∧ l.Stops.length ≤ 6
  ·have d1 : decide ((2 : Int) ≤ (l.Stops.length : Int) ∧ (l.Stops.length : Int) ≤ 6) = true := by simp; omega
   simp only [d1, Bool.not_true, Bool.false_eq_true, if_false]
   by_cases a2 : (l.Runs.length : Int) = (l.Stops.length : Int) - 1
   ·have d2 : ((l.Runs.length : Int) != (l.Stops.length : Int) - 1) = false := by simp [a2]
    simp only [d2, Option.bind_some, Bool.false_eq_true, if_false]
    rw [all_val (hd := Classical.propDecidable _) l.Stops (fun i e => (0 ≤ e ∧ e < (st : Int)) ∧ fixI (fun y => e == y) l.Stops = (i : Int)) (fun i x hx => ?_) (by unfold yagb; simp)]
    ·rw [all_val (hd := Classical.propDecidable _) l.Runs (fun i r => 1 ≤ r ∧ r ≤ 60) (fun i x hx => ?_) (by unfold yaga; simp)]
     ·by_cases b1 : ∀ (i : Nat) e, l.Stops[i]? = some e → (0 ≤ e ∧ e < (st : Int)) ∧ fixI (fun y => e == y) l.Stops = (i : Int)
      ·rw [if_pos b1]
       by_cases b2 : ∀ (i : Nat) r, l.Runs[i]? = some r → 1 ≤ r ∧ r ≤ 60
       ·rw [if_pos b2]
        have : LineP st l := ⟨a1, a2, b1, b2⟩
        simp [this]
       ·rw [if_neg b2]
        have : ¬ LineP st l := fun h => b2 h.2.2.2
        simp [this]
      ·rw [if_neg b1]
       have : ¬ LineP st l := fun h => b1 h.2.2.1
       simp [this]
     ·have hi := (List.getElem?_eq_some_iff.1 hx).1
      unfold yaga
      have hlt : decide ((i : Int) < (l.Runs.length : Int)) = true := by simp; omega
      simp only [hlt, if_true, idx_nat, hx, Option.bind_some, yabv, w64_succ (n := i) (by omega)]
      by_cases b : 1 ≤ x ∧ x ≤ 60
      ·left; simp [b]
      ·right; simp [b]
    ·have hi := (List.getElem?_eq_some_iff.1 hx).1
     unfold yagb
     have hlt : decide ((i : Int) < (l.Stops.length : Int)) = true := by simp; omega
     simp only [hlt, if_true, idx_nat, hx, Option.bind_some, yabv, e1, yafb l (by omega), w64_succ (n := i) (by omega)]
     by_cases b1 : 0 ≤ x ∧ x < (st : Int)
     ·have d3 : decide (0 ≤ x ∧ x ≤ (st : Int) - 1) = true := by simp; omega
      by_cases b2 : fixI (fun y => x == y) l.Stops = (i : Int)
      ·left; simp only [d3]; simp [b1, b2]
      ·right; simp only [d3]; simp [b1, b2]
     ·have d3 : decide (0 ≤ x ∧ x ≤ (st : Int) - 1) = false := by simp; omega
      right; simp only [d3]; simp [b1]
   ·have d2 : ((l.Runs.length : Int) != (l.Stops.length : Int) - 1) = true := by simp [a2]
    have : ¬ LineP st l := fun h => a2 h.2.1
    simp [d2, this]
  ·have d1 : decide ((2 : Int) ≤ (l.Stops.length : Int) ∧ (l.Stops.length : Int) ≤ 6) = false := by simp; omega
   have : ¬ LineP st l := fun h => a1 h.1
   simp [d1, this]
 ·simp [a0]
theorem yatp (n : Network) (h : Bd n) : zq6 n = some (decide (Good n)) := by
 obtain ⟨h1, h2, h3⟩ := h
 unfold zq6
 simp only [yabm, Option.bind_some, yadj n.Stops h1, yafs n h2, yadj (n.Lines.map (·.Name)) (by simpa using h2)]
 by_cases a1 : 2 ≤ n.Stops.length ∧ n.Stops.length ≤ 8
 ·have d1 : decide ((2 : Int) ≤ (n.Stops.length : Int) ∧ (n.Stops.length : Int) ≤ 8) = true := by simp; omega
  simp only [d1, Bool.not_true, Bool.false_eq_true, if_false]
  by_cases a2 : 1 ≤ n.Lines.length ∧ n.Lines.length ≤ 5
  ·have d2 : decide ((1 : Int) ≤ (n.Lines.length : Int) ∧ (n.Lines.length : Int) ≤ 5) = true := by simp; omega
   simp only [d2, Bool.not_true, Bool.false_eq_true, if_false]
   by_cases a3 : yafg n.Stops
   ·simp only [a3, decide_true, Bool.not_true, Bool.false_eq_true, if_false]
    by_cases a4 : yafg (n.Lines.map (·.Name))
    ·simp only [a4, decide_true, Bool.not_true, Option.bind_some, Bool.false_eq_true, if_false]
     rw [all_val (hd := Classical.propDecidable _) n.Lines (fun i x => LineP n.Stops.length x) (fun i x hx => ?_) (by unfold yanb; simp)]
     ·by_cases b1 : ∀ (i : Nat) x, n.Lines[i]? = some x → LineP n.Stops.length x
      ·rw [if_pos b1]
       have : Good n := ⟨a1, a2, a3, a4, b1⟩
       simp [this]
      ·rw [if_neg b1]
       have : ¬ Good n := fun h => b1 h.2.2.2.2
       simp [this]
     ·have hi := (List.getElem?_eq_some_iff.1 hx).1
      obtain ⟨g1, g2⟩ := h3 x (List.mem_of_getElem? hx)
      unfold yanb
      have hlt : decide ((i : Int) < (n.Lines.length : Int)) = true := by simp; omega
      simp only [hlt, if_true, idx_nat, hx, Option.bind_some, yaeq n x g1 g2, w64_succ (n := i) (by omega)]
      by_cases b : LineP n.Stops.length x
      ·left; simp [b]
      ·right; simp [b]
    ·have : ¬ Good n := fun h => a4 h.2.2.2.1
     simp [a4, this]
   ·have : ¬ Good n := fun h => a3 h.2.2.1
    simp [a3, this]
  ·have d2 : decide ((1 : Int) ≤ (n.Lines.length : Int) ∧ (n.Lines.length : Int) ≤ 5) = false := by simp; omega
   have : ¬ Good n := fun h => a2 h.2.1
   simp [d2, this]
 ·have d1 : decide ((2 : Int) ≤ (n.Stops.length : Int) ∧ (n.Stops.length : Int) ≤ 8) = false := by simp; omega
  have : ¬ Good n := fun h => a1 h.1
  simp [d1, this]
theorem yary (n : Network) (h : Bd n) : zq96 n = some (decide (Good n)) := by
 obtain ⟨h1, h2, h3⟩ := h
 unfold zq96
 simp only [yabv, Option.bind_some]
 by_cases a1 : 2 ≤ n.Stops.length ∧ n.Stops.length ≤ 8
 ·have d1 : decide ((2 : Int) ≤ (n.Stops.length : Int) ∧ (n.Stops.length : Int) ≤ 8) = true := by simp; omega
  simp only [d1, Bool.not_true, Bool.false_eq_true, if_false]
  by_cases a2 : 1 ≤ n.Lines.length ∧ n.Lines.length ≤ 5
  ·have d2 : decide ((1 : Int) ≤ (n.Lines.length : Int) ∧ (n.Lines.length : Int) ≤ 5) = true := by simp; omega
   simp only [d2, Bool.not_true, Option.bind_some, Bool.false_eq_true, if_false]
   rw [all_val (hd := Classical.propDecidable _) n.Stops (fun i x => yabk x ∧ fixI (fun e => x.toList == e.toList) n.Stops = (i : Int)) (fun i x hx => ?_) (by unfold yagd; simp)]
   ·rw [all_val (hd := Classical.propDecidable _) n.Lines (fun i x => (yabk x.Name ∧ LineP n.Stops.length x) ∧ fixI (fun e => x.Name.toList == e.toList) (n.Lines.map (·.Name)) = (i : Int)) (fun i x hx => ?_) (by unfold yagc; simp)]
    ·by_cases b1 : yafg n.Stops
     ·rw [if_pos (show ∀ (i : Nat) x, n.Stops[i]? = some x → yabk x ∧ fixI (fun e => x.toList == e.toList) n.Stops = (i : Int) from b1)]
      by_cases b2 : ∀ (i : Nat) x, n.Lines[i]? = some x → (yabk x.Name ∧ LineP n.Stops.length x) ∧ fixI (fun e => x.Name.toList == e.toList) (n.Lines.map (·.Name)) = (i : Int)
      ·rw [if_pos b2]
       have : Good n := ⟨a1, a2, b1, fun i y hy => by
        rw [List.getElem?_map] at hy
        obtain ⟨x, hx, rfl⟩ := Option.map_eq_some_iff.1 hy
        exact ⟨(b2 i x hx).1.1, (b2 i x hx).2⟩, fun i x hx => (b2 i x hx).1.2⟩
       simp [this]
      ·rw [if_neg b2]
       have : ¬ Good n := fun h => b2 fun i x hx => by
        have h4 := h.2.2.2.1 i x.Name (by rw [List.getElem?_map, hx]; rfl)
        exact ⟨⟨h4.1, h.2.2.2.2 i x hx⟩, h4.2⟩
       simp [this]
     ·rw [if_neg (show ¬ ∀ (i : Nat) x, n.Stops[i]? = some x → yabk x ∧ fixI (fun e => x.toList == e.toList) n.Stops = (i : Int) from b1)]
      have : ¬ Good n := fun h => b1 h.2.2.1
      simp [this]
    ·have hi := (List.getElem?_eq_some_iff.1 hx).1
     obtain ⟨g1, g2⟩ := h3 x (List.mem_of_getElem? hx)
     unfold yagc
     have hlt : decide ((i : Int) < (n.Lines.length : Int)) = true := by simp; omega
     simp only [hlt, if_true, idx_nat, hx, Option.bind_some, yapu x n.Stops.length h1 g1 g2, yaep n (by omega), w64_succ (n := i) (by omega)]
     by_cases b1 : yabk x.Name ∧ LineP n.Stops.length x
     ·by_cases b2 : fixI (fun e => x.Name.toList == e.toList) (n.Lines.map (·.Name)) = (i : Int)
      ·left; simp [b1, b2]
      ·right; simp [b1, b2]
     ·right; simp [b1]
   ·have hi := (List.getElem?_eq_some_iff.1 hx).1
    unfold yagd
    have hlt : decide ((i : Int) < (n.Stops.length : Int)) = true := by simp; omega
    simp only [hlt, if_true, idx_nat, hx, Option.bind_some, yaiu, yapv n.Stops (by omega), w64_succ (n := i) (by omega)]
    by_cases b1 : yabk x
    ·by_cases b2 : fixI (fun e => x.toList == e.toList) n.Stops = (i : Int)
     ·left; simp [b1, b2]
     ·right; simp [b1, b2]
    ·right; simp [b1]
  ·have d2 : decide ((1 : Int) ≤ (n.Lines.length : Int) ∧ (n.Lines.length : Int) ≤ 5) = false := by simp; omega
   have : ¬ Good n := fun h => a2 h.2.1
   simp [d2, this]
 ·have d1 : decide ((2 : Int) ≤ (n.Stops.length : Int) ∧ (n.Stops.length : Int) ≤ 8) = false := by simp; omega
  have : ¬ Good n := fun h => a1 h.1
  simp [d1, this]
theorem yalk (l : List Int) (h : l.length ≤ 1000) : zq91 l = some l := by
 unfold zq91
 rw [chk_of (by simp; omega)]; rfl
theorem yaua (n : Network) (h : Bd n) : zq100 n = some n := by
 obtain ⟨h1, h2, h3⟩ := h
 unfold zq100
 rw [chk_of (by simp; omega)]
 simp only [Option.bind_some]
 rw [app_loop (fun x : Line => x) n.Lines (fun i a x ha hx => ?_) (fun a ha => ?_)]
 ·simp only [Option.bind_some, List.map_id', List.nil_append]
 ·have hi := (List.getElem?_eq_some_iff.1 hx).1
  obtain ⟨g1, g2⟩ := h3 x (List.mem_of_getElem? hx)
  unfold yaen
  have hlt : decide ((i : Int) < (n.Lines.length : Int)) = true := by simp; omega
  have hch : ∀ y : Line, chk (a.length + ([y] : List Line).length ≤ 4294967296) = some () := fun y => chk_of (by simp; omega)
  simp only [hlt, if_true, idx_nat, hx, Option.bind_some, yalk _ g1, yalk _ g2, hch, w64_succ (n := i) (by omega)]
 ·unfold yaen; simp
theorem yalj (n : Network) (h : Bd n) : zq101 n = some n := by
 have : zq101 n = zq100 n := rfl
 rw [this]; exact yaua n h
theorem yapw (s : List Int) (hs : s.length ≤ 1000) : zq93 s = some s.reverse := by
 unfold zq93
 have e0 : w64 ((s.length : Int) - 1) = (s.length : Int) - 1 := w64_id (by omega)
 rw [e0]
 have h := iter_rule (step := yagf s) (fun m a => ∃ j : Nat, a.1 = (s.length : Int) - 1 - j ∧ m + j = s.length ∧ a.2 = s.reverse.take j) (fun b => b = s.reverse) ?_ (k := s.length) (a := ((s.length : Int) - 1, [])) ⟨0, by simp, by omega, by simp⟩
 ·obtain ⟨b, hb, rfl⟩ := h
  rw [hb]; rfl
 rintro m ⟨v, i⟩ ⟨j, hv, hm, hi⟩
 simp only at hv hi
 subst hv
 by_cases hlt : j < s.length
 ·left
  have ev : (s.length : Int) - 1 - j = ((s.length - 1 - j : Nat) : Int) := by omega
  rw [ev]
  obtain ⟨e, he⟩ := get_ex (l := s) (i := s.length - 1 - j) (by omega)
  have hd : decide ((0 : Int) ≤ ((s.length - 1 - j : Nat) : Int)) = true := by simp
  have hlen : i.length = j := by rw [hi]; simp; omega
  have hch : chk (i.length + ([e] : List Int).length ≤ 4294967296) = some () := chk_of (by simp; omega)
  have ev2 : w64 (((s.length - 1 - j : Nat) : Int) - 1) = (s.length : Int) - 1 - ((j + 1 : Nat) : Int) := by rw [w64_id (by omega)]; omega
  refine ⟨((s.length : Int) - 1 - ((j + 1 : Nat) : Int), i ++ [e]), m - 1, ?_, by omega, j + 1, rfl, by omega, ?_⟩
  ·unfold yagf
   simp only [hd, if_true, idx_nat, he, hch, Option.bind_some, ev2]
  ·show i ++ [e] = _
   rw [take_succ (x := e) (by rw [List.getElem?_reverse hlt]; exact he), hi]
 ·right
  have ej : j = s.length := by omega
  subst ej
  have hd : decide ((0 : Int) ≤ (s.length : Int) - 1 - (s.length : Int)) = false := by simp; omega
  refine ⟨i, by unfold yagf; simp only [hd, Bool.false_eq_true, if_false], ?_⟩
  rw [hi, List.take_of_length_le (by simp)]
theorem yafc (s : List Int) (hs : s.length ≤ 1000) : zq94 s = some s.reverse := yapw s hs
def LB (x : Line) : Prop := (2 ≤ x.Stops.length ∧ x.Stops.length ≤ 10) ∧ 1 ≤ x.Runs.length ∧ x.Runs.length ≤ 10
def NB (n : Network) : Prop := (2 ≤ n.Stops.length ∧ n.Stops.length ≤ 6) ∧ (1 ≤ n.Lines.length ∧ n.Lines.length ≤ 8) ∧ ∀ x ∈ n.Lines, LB x
theorem NB.bd {n : Network} (h : NB n) : Bd n := ⟨by have := h.1; omega, by have := h.2.1; omega, fun x hx => by have := h.2.2 x hx; unfold LB at this; omega⟩
theorem yall (n : Int) (h0 : 0 ≤ n) (h1 : n < 10) : ∃ r, zq89 n = some r ∧ r.size ≤ 10 := by
 have e : zq89 n = yafi (yamh 4294967295) n := rfl
 rw [e]
 unfold yafi
 have d1 : decide (n < 0) = false := by simp; omega
 have d2 : decide (n < 10) = true := by simp; omega
 have e1 : w64 (n + 1) = n + 1 := w64_id (by omega)
 have hs : (str [48, 49, 50, 51, 52, 53, 54, 55, 56, 57]).size = 10 := rfl
 simp only [d1, d2, Bool.false_eq_true, if_false, if_true, e1, hs]
 rw [chk_of (by omega)]
 refine ⟨_, rfl, ?_⟩
 rw [ByteArray.size_extract, hs]
 omega
theorem yarw {k : Nat} {c : l1Cur} (name : ByteArray) (stops : Int) (hs : 2 ≤ stops ∧ stops ≤ 1000) (h : Cur k c) (hk : k ≤ 1000000000) : ∃ r, zq71 c name stops = some r ∧ Cur (k + 40) r.2 ∧ LB r.1 := by
 unfold zq71
 obtain ⟨r, hr, hc, h0, h1⟩ := yabb stops h (by omega)
 obtain ⟨r1, hr1, hc1, h10, h11⟩ := yabb 3 hc (by omega)
 simp only [hr, hr1, Option.bind_some]
 have e1 : w64 (2 + r1.1) = ((2 + r1.1.toNat : Nat) : Int) := by rw [w64_id (by omega)]; omega
 rw [e1]
 have loop : ∃ b, iter (yagj name stops) (r.1, ((2 + r1.1.toNat : Nat) : Int), r1.2.code_, r1.2.at_, r1.2.seed_.v, []) = some b ∧ (Cur (k + 4 + 2 * 4) ⟨b.1, b.2.1, ⟨b.2.2.1⟩⟩ ∧ 1 ≤ b.2.2.2.length ∧ b.2.2.2.length ≤ 4) := by
  refine iter_rule (fun m a => (0 ≤ a.1 ∧ a.1 < stops) ∧ a.2.1 = (m : Int) ∧ m + a.2.2.2.2.2.length ≤ 4 ∧ (1 ≤ m ∨ 1 ≤ a.2.2.2.2.2.length) ∧ Cur (k + 4 + 2 * (4 - m)) ⟨a.2.2.1, a.2.2.2.1, ⟨a.2.2.2.2.1⟩⟩) _ ?_ (k := 2 + r1.1.toNat) ⟨⟨h0, by show r.1 < stops; omega⟩, rfl, by simp; omega, .inl (by omega), hc1.mono (by omega)⟩
  rintro m ⟨v, v1, v2, v3, v4, v5⟩ ⟨hv, hv1, hl, hne, hcur⟩
  simp only at hv hv1 hl hne hcur
  subst hv1
  unfold yagj
  cases m with
  | zero => right; exact ⟨_, by simp; rfl, hcur, by show 1 ≤ v5.length; omega, by show v5.length ≤ 4; omega⟩
  | succ m =>
   left
   have hpos : decide ((0 : Int) < ((m + 1 : Nat) : Int)) = true := by simp
   obtain ⟨r3, hr3, hc3, h30, h31⟩ := yabb 2 hcur (by omega)
   have hpl := yafb (⟨name, v5, []⟩ : Line) (by show v5.length ≤ _; omega) v
   have hch : chk (v5.length + ([v] : List Int).length ≤ 4294967296) = some () := chk_of (by simp; omega)
   have hne0 : chk (stops ≠ 0) = some () := chk_of (by omega)
   have w1 : w64 (v + 1) = v + 1 := w64_id (by omega)
   have w2 : w64 (v + 1 + r3.1) = v + 1 + r3.1 := w64_id (by omega)
   have ht := tmod_rng (a := v + 1 + r3.1) (b := stops) (by omega) (by omega)
   simp only [hpos, if_true, hpl, hch, hr3, hne0, w1, w2, Option.bind_some]
   have w3 : w64 (((m + 1 : Nat) : Int) - 1) = (m : Int) := w64_pred (by omega)
   split
   ·refine ⟨_, m, by simp only [Option.bind_some]; rfl, by omega, ht, w3, ?_, .inr ?_, ?_⟩
    ·simp; omega
    ·simp
    ·exact hc3.mono (by omega)
   ·rename_i hn
    refine ⟨_, m, by simp only [Option.bind_some]; rfl, by omega, ht, w3, ?_, .inr ?_, ?_⟩
    ·show m + v5.length ≤ 4; omega
    ·show 1 ≤ v5.length
     cases v5 with
     | nil => simp [fixI] at hn
     | cons a l => simp
    ·exact hc3.mono (by omega)
 obtain ⟨⟨v7, v8, v9, v10⟩, hb, hcb, hlb⟩ := loop
 simp only at hcb hlb
 rw [hb]
 simp only [Option.bind_some]
 -- at least two stops
 have two : ∃ v11 : List Int, (if decide ((v10.length : Int) < 2) = true then (idx v10 0).bind fun e1 => (chk ((stops : Int) ≠ 0)).bind fun u4 => (chk (v10.length + ([((w64 (e1 + 1)).tmod stops)] : List Int).length ≤ 4294967296)).bind fun u5 => some (v10 ++ ([((w64 (e1 + 1)).tmod stops)] : List Int)) else some v10) = some v11 ∧ 2 ≤ v11.length ∧ v11.length ≤ 5 := by
  by_cases h2 : (v10.length : Int) < 2
  ·obtain ⟨e, he, _⟩ := idx_lt (l := v10) (i := 0) (by omega) (by omega)
   have hch : ∀ y : Int, chk (v10.length + ([y] : List Int).length ≤ 4294967296) = some () := fun y => chk_of (by simp; omega)
   have hne0 : chk (stops ≠ 0) = some () := chk_of (by omega)
   refine ⟨v10 ++ [(w64 (e + 1)).tmod stops], by simp only [h2, decide_true, if_true, he, hne0, hch, Option.bind_some], ?_, ?_⟩
   ·simp; omega
   ·simp; omega
  ·exact ⟨v10, by simp [h2], by omega, by omega⟩
 obtain ⟨v11, hv11, l1, l2⟩ := two
 rw [hv11]
 simp only [Option.bind_some]
 have loop2 : ∃ b, iter (yagi v11) (1, v7, v8, v9, []) = some b ∧ (Cur (k + 40) ⟨b.1, b.2.1, ⟨b.2.2.1⟩⟩ ∧ b.2.2.2.length + 1 = v11.length) := by
  refine iter_rule (fun m a => ∃ i : Nat, a.1 = (i : Int) ∧ m + i = v11.length ∧ a.2.2.2.2.length + 1 = i ∧ Cur (k + 12 + 2 * i) ⟨a.2.1, a.2.2.1, ⟨a.2.2.2.1⟩⟩) _ ?_ (k := v11.length - 1) ⟨1, rfl, by omega, rfl, hcb.mono (by omega)⟩
  rintro m ⟨v12, v13, v14, v15, v16⟩ ⟨i, hi, hm, hl, hcur⟩
  simp only at hi hl hcur
  subst hi
  unfold yagi
  by_cases hlt : i < v11.length
  ·left
   have hd : decide ((i : Int) < (v11.length : Int)) = true := by simp; omega
   obtain ⟨r5, hr5, hc5, _⟩ := yabb 12 hcur (by omega)
   have hch : ∀ y : Int, chk (v16.length + ([y] : List Int).length ≤ 4294967296) = some () := fun y => chk_of (by simp; omega)
   refine ⟨_, m - 1, by simp only [hd, if_true, hr5, hch, Option.bind_some, w64_succ (n := i) (by omega)]; rfl, by omega, i + 1, rfl, by omega, ?_, ?_⟩
   ·simp; omega
   ·exact hc5.mono (by omega)
  ·right
   have hd : decide ((i : Int) < (v11.length : Int)) = false := by simp; omega
   refine ⟨_, by simp only [hd, Bool.false_eq_true, if_false]; rfl, ?_, ?_⟩
   ·exact hcur.mono (by omega)
   ·show v16.length + 1 = _; omega
 obtain ⟨⟨v17, v18, v19, v20⟩, hb2, hcb2, hl2⟩ := loop2
 simp only at hcb2 hl2
 rw [hb2]
 simp only [Option.bind_some]
 exact ⟨_, rfl, hcb2, ⟨l1, by show v11.length ≤ 10; omega⟩, by show 1 ≤ v20.length; omega, by show v20.length ≤ 10; omega⟩
theorem yatx {k : Nat} {c : l1Cur} (name : ByteArray) (stops : Int) (hs : 2 ≤ stops ∧ stops ≤ 1000) (h : Cur k c) (hk : k ≤ 1000000000) : ∃ r, zq72 c name stops = some r ∧ Cur (k + 40) r.2 ∧ LB r.1 := yarw name stops hs h hk
theorem yayh (i : Nat) (h2 : 2 ≤ i) (h6 : i ≤ 6) (l : List ByteArray) (hl : l.length = 6) : 2 ≤ ((l.take i).drop (0 : Int).toNat).length ∧ ((l.take i).drop (0 : Int).toNat).length ≤ 6 := by
 simp; omega
theorem yabo {k : Nat} {c : l1Cur} (h : Cur k c) (hk : k ≤ 500000000) : ∃ r, zq74 c = some r ∧ Cur (k + 300) r.2 ∧ NB r.1 := by
 unfold zq74
 obtain ⟨r, hr, hc, h0, h1⟩ := yabb 5 h (by omega)
 have e1 : w64 (2 + r.1) = 2 + r.1 := w64_id (by omega)
 have hsix : ([(str [112, 111, 114, 116]), (str [109, 105, 108, 108]), (str [112, 97, 114, 107]), (str [104, 97, 108, 108]), (str [100, 111, 99, 107]), (str [102, 97, 105, 114])] : List ByteArray).length = 6 := rfl
 simp only [hr, Option.bind_some, e1, hsix]
 rw [chk_of (by omega)]
 obtain ⟨r1, hr1, hc1, h10, h11⟩ := yabb 3 hc (by omega)
 have e2 : w64 (1 + r1.1) = ((1 + r1.1.toNat : Nat) : Int) := by rw [w64_id (by omega)]; omega
 simp only [hr1, Option.bind_some, e2]
 have loop : ∃ b, iter (yagh r) (((1 + r1.1.toNat : Nat) : Int), r1.2.code_, r1.2.at_, r1.2.seed_.v, []) = some b ∧ (Cur (k + 4 + 40 * 3) ⟨b.1, b.2.1, ⟨b.2.2.1⟩⟩ ∧ (1 ≤ b.2.2.2.length ∧ b.2.2.2.length ≤ 3) ∧ ∀ x ∈ b.2.2.2, LB x) := by
  refine iter_rule (fun m a => a.1 = (m : Int) ∧ m + a.2.2.2.2.length ≤ 3 ∧ 1 ≤ m + a.2.2.2.2.length ∧ (∀ x ∈ a.2.2.2.2, LB x) ∧ Cur (k + 4 + 40 * (3 - m)) ⟨a.2.1, a.2.2.1, ⟨a.2.2.2.1⟩⟩) _ ?_ (k := 1 + r1.1.toNat) ⟨rfl, by simp; omega, by simp, by simp, hc1.mono (by omega)⟩
  rintro m ⟨x, v, v1, v2, v3⟩ ⟨hx, hl, hl1, hlb, hcur⟩
  simp only at hx hl hl1 hlb hcur
  subst hx
  unfold yagh
  cases m with
  | zero => right; exact ⟨_, by simp; rfl, hcur, ⟨by show 1 ≤ v3.length; omega, by show v3.length ≤ 3; omega⟩, hlb⟩
  | succ m =>
   left
   have hpos : decide ((0 : Int) < ((m + 1 : Nat) : Int)) = true := by simp
   obtain ⟨r4, hr4, hs4⟩ := yall ((m + 1 : Nat) : Int) (by omega) (by omega)
   have hs : (str [108]).size = 1 := rfl
   have hch : chk ((str [108]).size + r4.size ≤ 4294967296) = some () := chk_of (by omega)
   obtain ⟨r5, hr5, hc5, hb5⟩ := yatx (str [108] ++ r4) (2 + r.1) (by omega) hcur (by omega)
   have hch2 : ∀ y : Line, chk (v3.length + ([y] : List Line).length ≤ 4294967296) = some () := fun y => chk_of (by simp; omega)
   refine ⟨_, m, by simp only [hpos, if_true, hr4, hch, e1, hr5, hch2, Option.bind_some]; rfl, by omega, ?_, ?_, ?_, ?_, ?_⟩
   ·exact w64_pred (by omega)
   ·simp; omega
   ·simp; omega
   ·intro y hy
    rcases List.mem_append.1 hy with hy | hy
    ·exact hlb y hy
    ·simp at hy; subst hy; exact hb5
   ·exact hc5.mono (by omega)
 obtain ⟨⟨v4, v5, v6, v7⟩, hb, hcb, hlb, hall⟩ := loop
 simp only at hcb hlb hall
 rw [hb]
 simp only [Option.bind_some]
 obtain ⟨r6, hr6, hc6⟩ := yalf 2 hcb (by omega)
 simp only [hr6, Option.bind_some]
 have fin : ∀ (v8 : List UInt8) (v9 v10 : Int) (v11 : List Line), Cur (k + 200) ⟨v8, v9, ⟨v10⟩⟩ → (1 ≤ v11.length ∧ v11.length ≤ 8) → (∀ x ∈ v11, LB x) →
   ∃ r', ((zq101 (⟨((([(str [112, 111, 114, 116]), (str [109, 105, 108, 108]), (str [112, 97, 114, 107]), (str [104, 97, 108, 108]), (str [100, 111, 99, 107]), (str [102, 97, 105, 114])] : List ByteArray).take (2 + r.1).toNat).drop (0 : Int).toNat), v11⟩ : Network)).bind fun r11 => some ((⟨r11.Stops, r11.Lines⟩ : Network), (⟨v8, v9, (⟨v10⟩ : IK .u64)⟩ : l1Cur))) = some r' ∧ Cur (k + 300) r'.2 ∧ NB r'.1 := by
  intro v8 v9 v10 v11 g1 g2 g3
  have hst := yayh (2 + r.1).toNat (by omega) (by omega) _ hsix
  have hnb : NB (⟨((([(str [112, 111, 114, 116]), (str [109, 105, 108, 108]), (str [112, 97, 114, 107]), (str [104, 97, 108, 108]), (str [100, 111, 99, 107]), (str [102, 97, 105, 114])] : List ByteArray).take (2 + r.1).toNat).drop (0 : Int).toNat), v11⟩ : Network) := ⟨hst, g2, g3⟩
  rw [yalj _ hnb.bd]
  exact ⟨_, rfl, g1.mono (by omega), hnb⟩
 split
 ·obtain ⟨e, he, _, hem⟩ := idx_lt (l := v7) (i := 0) (by omega) (by omega)
  obtain ⟨g1, g2⟩ := hall e hem
  have hch2 : ∀ y : Line, chk (v7.length + ([y] : List Line).length ≤ 4294967296) = some () := fun y => chk_of (by simp; omega)
  simp only [he, yafc e.Stops (by omega), yafc e.Runs (by omega), hch2, Option.bind_some]
  refine fin _ _ _ _ (hc6.mono (by omega)) (by simp; omega) fun y hy => ?_
  rcases List.mem_append.1 hy with hy | hy
  ·exact hall y hy
  ·simp at hy; subst hy
   exact ⟨by simpa using g1, by simpa using g2⟩
 ·simp only [Option.bind_some]
  exact fin _ _ _ _ (hc6.mono (by omega)) (by omega) hall
theorem yafe {k : Nat} {c : l1Cur} (h : Cur k c) (hk : k ≤ 200000000) : ∃ r, zq67 c = some r ∧ Cur (k + 1000) r.2 ∧ Bd r.1 := by
 unfold zq67
 obtain ⟨r, hr, hc, hnb⟩ := yabo h (by omega)
 obtain ⟨n1, n2, n3⟩ := hnb
 obtain ⟨r1, hr1, hc1, h10, h11⟩ := yabb (r.1.Lines.length : Int) hc (by omega)
 obtain ⟨e, he, he2, hem⟩ := idx_lt (l := r.1.Lines) (i := r1.1) h10 (by omega)
 obtain ⟨g1, g2⟩ := n3 e hem
 obtain ⟨r2, hr2, hc2, _⟩ := yabb 24 hc1 (by omega)
 simp only [hr, hr1, he, hr2, Option.bind_some]
 have fin : ∀ (v : List UInt8) (v1 v2 : Int) (v3 : ByteArray) (v4 : List ByteArray) (v5 : List Line) (v6 : List Int), Cur (k + 900) ⟨v, v1, ⟨v2⟩⟩ → v4.length ≤ 6 → v5.length = r.1.Lines.length → (∀ x ∈ v5, LB x) → v6.length ≤ 11 →
   ∃ r', ((idx v5 r1.1).bind fun e9 => some ((⟨v4, (v5.set r1.1.toNat (⟨v3, e9.Stops, v6⟩ : Line))⟩ : Network), (⟨v, v1, (⟨v2⟩ : IK .u64)⟩ : l1Cur))) = some r' ∧ Cur (k + 1000) r'.2 ∧ Bd r'.1 := by
  intro v v1 v2 v3 v4 v5 v6 q1 q2 q3 q4 q5
  obtain ⟨e9, he9, _, hm9⟩ := idx_lt (l := v5) (i := r1.1) h10 (by omega)
  rw [he9]
  refine ⟨_, rfl, q1.mono (by omega), by show v4.length ≤ _; omega, by simp; omega, fun x hx => ?_⟩
  rcases List.mem_or_eq_of_mem_set hx with hx | hx
  ·have := q4 x hx
   unfold LB at this; omega
  ·subst hx
   have := q4 e9 hm9
   unfold LB at this
   exact ⟨by show e9.Stops.length ≤ _; omega, by show v6.length ≤ _; omega⟩
 split
 ·obtain ⟨r4, hr4, hc4, _⟩ := yayl ([(str [109, 105, 108, 108]), (str []), (str [65]), (str [97, 98, 99, 100, 101, 102, 103, 104]), (str [97, 98, 99, 100, 101, 102, 103, 104, 105])] : List ByteArray) (by simp) hc2 (by omega)
  obtain ⟨e2, he2', _⟩ := idx_lt (l := r.1.Stops) (i := 0) (by omega) (by omega)
  simp only [hr4, he2', Option.bind_some, flb_go]
  exact fin _ _ _ _ _ _ _ (hc4.mono (by omega)) (by simp; omega) rfl n3 (by omega)
 split
 ·obtain ⟨r5, hr5, hc5, _⟩ := yayl ([(str [114, 49]), (str [108, 49]), (str []), (str [88])] : List ByteArray) (by simp) hc2 (by omega)
  simp only [hr5, Option.bind_some, flb_go]
  exact fin _ _ _ _ _ _ _ (hc5.mono (by omega)) (by omega) rfl n3 (by omega)
 split
 ·obtain ⟨r8, hr8, hc8, h80, h81⟩ := yabb (e.Stops.length : Int) hc2 (by omega)
  obtain ⟨r9, hr9, hc9, _⟩ := yabb 10 hc8 (by omega)
  obtain ⟨e4, he4, _⟩ := idx_lt (l := e.Stops) (i := r8.1) h80 (by omega)
  simp only [hr8, hr9, he4, Option.bind_some, flb_go]
  refine fin _ _ _ _ _ _ _ (hc9.mono (by omega)) (by omega) (by simp) (fun x hx => ?_) (by show e.Runs.length ≤ 11; omega)
  rcases List.mem_or_eq_of_mem_set hx with hx | hx
  ·exact n3 x hx
  ·subst hx; exact ⟨by simpa using g1, g2⟩
 split
 ·obtain ⟨r12, hr12, hc12, h120, h121⟩ := yabb (e.Runs.length : Int) hc2 (by omega)
  obtain ⟨r13, hr13, hc13, _⟩ := yaes ([0, 60, 61, (-1)] : List Int) (by simp) hc12 (by omega)
  obtain ⟨e6, he6, _⟩ := idx_lt (l := e.Runs) (i := r12.1) h120 (by omega)
  simp only [hr12, hr13, he6, Option.bind_some, flb_go]
  refine fin _ _ _ _ _ _ _ (hc13.mono (by omega)) (by omega) (by simp) (fun x hx => ?_) (by simp; omega)
  rcases List.mem_or_eq_of_mem_set hx with hx | hx
  ·exact n3 x hx
  ·subst hx; exact ⟨g1, by simpa using g2⟩
 split
 ·have hch : chk (e.Runs.length + ([3] : List Int).length ≤ 4294967296) = some () := chk_of (by simp; omega)
  simp only [hch, Option.bind_some, flb_go]
  exact fin _ _ _ _ _ _ _ (hc2.mono (by omega)) (by omega) rfl n3 (by simp; omega)
 split
 ·simp only [flb_ret]
  exact ⟨_, rfl, hc2.mono (by omega), by show r.1.Stops.length ≤ _; omega, by simp, by simp⟩
 split
 ·have loop : ∃ b, iter (yagk r) (0, r2.2.code_, r2.2.at_, r2.2.seed_.v, r.1.Lines) = some b ∧ (Cur (k + 900) ⟨b.1, b.2.1, ⟨b.2.2.1⟩⟩ ∧ b.2.2.2.length ≤ 20 ∧ ∀ x ∈ b.2.2.2, LB x) := by
   refine iter_rule (fun m a => ∃ i : Nat, a.1 = (i : Int) ∧ m + i = 8 ∧ i ≤ 7 ∧ a.2.2.2.2.length ≤ 8 + i ∧ (∀ x ∈ a.2.2.2.2, LB x) ∧ Cur (k + 310 + 50 * i) ⟨a.2.1, a.2.2.1, ⟨a.2.2.2.1⟩⟩) _ ?_ (k := 8) ⟨0, rfl, rfl, by omega, by simpa using n2.2, n3, hc2.mono (by omega)⟩
   rintro m ⟨v7, v8, v9, v10, v11⟩ ⟨i, hi, hm, hi7, hl, hlb, hcur⟩
   simp only at hi hl hlb hcur
   subst hi
   unfold yagk
   obtain ⟨r16, hr16, hc16, h160, h161⟩ := yabb 2 hcur (by omega)
   have w1 : w64 (5 + r16.1) = 5 + r16.1 := w64_id (by omega)
   simp only [hr16, w1, Option.bind_some]
   by_cases a1 : (v11.length : Int) < 5 + r16.1 ∧ (i : Int) < 7
   ·left
    have d1 : decide ((v11.length : Int) < 5 + r16.1) = true := by simp; omega
    have d2 : decide ((i : Int) < 7) = true := by simp; omega
    obtain ⟨r19, hr19, hs19⟩ := yall (i : Int) (by omega) (by omega)
    have hs : (str [120]).size = 1 := rfl
    have hch : chk ((str [120]).size + r19.size ≤ 4294967296) = some () := chk_of (by omega)
    obtain ⟨r20, hr20, hc20, hb20⟩ := yarw (str [120] ++ r19) (r.1.Stops.length : Int) (by omega) hc16 (by omega)
    have hch2 : ∀ y : Line, chk (v11.length + ([y] : List Line).length ≤ 4294967296) = some () := fun y => chk_of (by simp; omega)
    refine ⟨_, m - 1, by simp only [d1, d2, if_true, hr19, hch, hr20, hch2, Option.bind_some, w64_succ (n := i) (by omega)]; rfl, by omega, i + 1, rfl, by omega, by omega, ?_, fun x hx => ?_, ?_⟩
    ·simp; omega
    ·rcases List.mem_append.1 hx with hx | hx
     ·exact hlb x hx
     ·simp at hx; subst hx; exact hb20
    ·exact hc20.mono (by omega)
   ·right
    have hcond : (if decide ((v11.length : Int) < 5 + r16.1) = true then some (decide ((i : Int) < 7)) else some false) = some false := by
     by_cases b1 : (v11.length : Int) < 5 + r16.1
     ·have : decide ((i : Int) < 7) = false := by simp; omega
      simp [b1, this]
     ·simp [b1]
    refine ⟨_, by simp only [hcond, Option.bind_some, Bool.false_eq_true, if_false]; rfl, ?_, ?_, hlb⟩
    ·exact hc16.mono (by omega)
    ·show v11.length ≤ 20; omega
  obtain ⟨⟨v13, v14, v15, v16⟩, hb, hcb, hlb, hall⟩ := loop
  simp only at hcb hlb hall
  rw [hb]
  simp only [Option.bind_some, flb_ret]
  refine ⟨_, rfl, hcb.mono (by omega), by show r.1.Stops.length ≤ _; omega, by show v16.length ≤ _; omega, fun x hx => ?_⟩
  have := hall x hx
  unfold LB at this; omega
 ·simp only [flb_go]
  exact fin _ _ _ _ _ _ _ (hc2.mono (by omega)) (by omega) rfl n3 (by omega)
def TB (t : Timetable) : Prop := Bd t.Network ∧ t.Trips.length ≤ 1000
def TripP (n : Network) (x : Trip) : Prop := (1 ≤ x.Id ∧ x.Id ≤ 999) ∧ ∃ l, idx n.Lines x.Line = some l ∧ (0 ≤ x.Start ∧ x.Start ≤ 1799) ∧ 0 ≤ x.Start + l.Runs.sum ∧ x.Start + l.Runs.sum ≤ 1799
def GoodT (t : Timetable) : Prop := Good t.Network ∧ t.Trips.length ≤ 12 ∧ (∀ (i : Nat) x, t.Trips[i]? = some x → TripP t.Network x) ∧ ∀ (i : Nat) a b, t.Trips[i]? = some a → t.Trips[i + 1]? = some b → a.Id < b.Id
noncomputable instance (t : Timetable) : Decidable (GoodT t) := Classical.propDecidable _
noncomputable instance (n : Network) (x : Trip) : Decidable (TripP n x) := Classical.propDecidable _
theorem yaru (t : Int) : zq8 t = some (decide (0 ≤ t ∧ t ≤ 1799)) := by
 unfold zq8; rw [yabm]; rfl
theorem yait (t : Int) : zq104 t = some (decide (0 ≤ t ∧ t ≤ 1799)) := by
 unfold zq104; rw [yabv]; rfl
theorem yatv (l : List Int) (h1 : l.length ≤ 1000000) (h2 : ∀ x ∈ l, 0 ≤ x ∧ x ≤ 1000000) : zq34 l = some l.sum := by
 unfold zq34
 rw [sum_loop (fun x : Int => x) l h1 h2 (fun i s x hx => ?_) (fun s => ?_)]
 ·simp
 ·have := get_lt hx
  unfold yagv
  simp (disch := omega) only [if_pos, if_neg, decide_eq_true_eq, decide_true, decide_false, Bool.not_true, Bool.not_false, Bool.false_eq_true, Bool.not_eq_true', decide_eq_false_iff_not, if_true, if_false, w64_id, chk_of, idx_nat, Option.bind_some, Option.map_some, Int.toNat_natCast, not_true_eq_false, not_false_eq_true, true_and, and_true, and_self, false_and, and_false, reduceIte, flb_go, flb_ret, beq_self_eq_true, ne_eq, bne_self_eq_false, Int.ofNat_lt.2 this, hx]
 ·unfold yagv; simp
theorem yatz (x : Line) (a b : Nat) (hab : a ≤ b) (hb : b ≤ x.Runs.length) (hl : x.Runs.length ≤ 1000) (h2 : ∀ r ∈ x.Runs, 0 ≤ r ∧ r ≤ 1000000) : zq103 x (a : Int) (b : Int) = some (((x.Runs.take b).drop a).sum) := by
 unfold zq103
 refine Tot.val (.call (P := fun v => v = ((x.Runs.take b).drop a).sum) ?_ fun v h => .ok h)
 refine .iter (fun m s => ∃ k : Nat, s.2 = ((a + k : Nat) : Int) ∧ m + k = b - a ∧ s.1 = (((x.Runs.take b).drop a).take k).sum) (n := b - a) ⟨0, by simp, by omega, by simp⟩ ?_
 rintro m ⟨s, v⟩ ⟨k, hk, hm, hs⟩
 simp only at hk hs
 subst hk
 unfold yafm
 refine .iteP (fun hc => ?_) (fun hc => .dn ?_)
 ·obtain ⟨r, hr⟩ := get_ex (l := x.Runs) (i := a + k) (by omega)
  have hr2 : ((x.Runs.take b).drop a)[k]? = some r := by
   rw [List.getElem?_drop, List.getElem?_take_of_lt (by omega)]; exact hr
  have hb1 := h2 r (List.mem_of_getElem? hr)
  have hb2 := sum_bd (l := ((x.Runs.take b).drop a).take k) (M := 1000000) fun y hy => h2 y (List.mem_of_mem_take (List.mem_of_mem_drop (List.mem_of_mem_take hy)))
  have hlen : ((((x.Runs.take b).drop a).take k).length : Int) ≤ 1000 := by simp; omega
  rw [← hs] at hb2
  refine .eq (by rw [idx_nat]; exact hr) (.nx ⟨m - 1, by omega, k + 1, ?_, by omega, ?_⟩)
  ·show w64 (((a + k : Nat) : Int) + 1) = _
   rw [w64_id (by omega)]; omega
  ·show w64 (s + r) = _
   rw [w64_id (by omega), sum_take_succ hr2, hs]
 ·rw [hs, List.take_of_length_le (by rw [List.length_drop, List.length_take]; omega)]
theorem yaci {n : Network} (h : Good n) {k : Int} {l : Line} (hl : idx n.Lines k = some l) : LineP n.Stops.length l := h.2.2.2.2 _ l (idx_some hl).2.2
theorem yaiq {st : Nat} {l : Line} (h : LineP st l) {j : Nat} {s : Int} (hs : l.Stops[j]? = some s) : 0 ≤ s ∧ s < (st : Int) := (h.2.2.1 j s hs).1
theorem yabp {st : Nat} {l : Line} (h : LineP st l) : (l.Runs.length + 1 = l.Stops.length ∧ 1 ≤ l.Runs.length ∧ l.Runs.length ≤ 5) ∧ ∀ r ∈ l.Runs, 1 ≤ r ∧ r ≤ 60 := by
 obtain ⟨h1, h2, h3, h4⟩ := h
 refine ⟨by omega, fun r hr => ?_⟩
 obtain ⟨i, hi⟩ := List.getElem?_of_mem hr
 exact h4 i r hi
theorem yakz {st : Nat} {l : Line} (h : LineP st l) (k : Nat) : 0 ≤ (l.Runs.take k).sum ∧ (l.Runs.take k).sum ≤ 300 := by
 obtain ⟨⟨h1, h2, h3⟩, h4⟩ := yabp h
 have := sum_bd (l := l.Runs.take k) (M := 60) fun x hx => by have := h4 x (List.mem_of_mem_take hx); omega
 have hl : ((l.Runs.take k).length : Int) ≤ 5 := by simp; omega
 omega
theorem yapr {st : Nat} {l : Line} (h : LineP st l) : 0 ≤ l.Runs.sum ∧ l.Runs.sum ≤ 300 := by
 have := yakz h l.Runs.length
 rwa [List.take_length] at this
theorem yalq {t : Timetable} (hg : Good t.Network) {x : Trip} {l : Line} (hl : idx t.Network.Lines x.Line = some l) (hs : 0 ≤ x.Start ∧ x.Start ≤ 1799) : zq18 t x = some (x.Start + l.Runs.sum) := by
 have h := yaci hg hl
 obtain ⟨⟨h1, h2, h3⟩, h4⟩ := yabp h
 have h5 := yapr h
 unfold zq18
 rw [hl]
 simp only [Option.bind_some]
 rw [yatv l.Runs (by omega) (fun x hx => by have := h4 x hx; omega)]
 simp (disch := omega) only [if_pos, if_neg, decide_eq_true_eq, decide_true, decide_false, Bool.not_true, Bool.not_false, Bool.false_eq_true, Bool.not_eq_true', decide_eq_false_iff_not, if_true, if_false, w64_id, chk_of, idx_nat, Option.bind_some, Option.map_some, Int.toNat_natCast, not_true_eq_false, not_false_eq_true, true_and, and_true, and_self, false_and, and_false, reduceIte, flb_go, flb_ret, beq_self_eq_true, ne_eq, bne_self_eq_false]
theorem yais {t : Timetable} {i : Nat} {x : Trip} {l : Line} (hx : t.Trips[i]? = some x) (hl : idx t.Network.Lines x.Line = some l) : zq109 t (i : Int) = some l := by
 unfold zq109
 simp (disch := omega) only [if_pos, if_neg, decide_eq_true_eq, decide_true, decide_false, Bool.not_true, Bool.not_false, Bool.false_eq_true, Bool.not_eq_true', decide_eq_false_iff_not, if_true, if_false, w64_id, chk_of, idx_nat, Option.bind_some, Option.map_some, Int.toNat_natCast, not_true_eq_false, not_false_eq_true, true_and, and_true, and_self, false_and, and_false, reduceIte, flb_go, flb_ret, beq_self_eq_true, ne_eq, bne_self_eq_false, hx, hl]
theorem yact {t : Timetable} {i : Nat} {x : Trip} {l : Line} (hx : t.Trips[i]? = some x) (hl : idx t.Network.Lines x.Line = some l) : zq110 t (i : Int) = some l.Stops := by
 unfold zq110
 rw [yais hx hl]; rfl
theorem yayn {t : Timetable} (hg : Good t.Network) {i : Nat} {x : Trip} {l : Line} (hx : t.Trips[i]? = some x) (hl : idx t.Network.Lines x.Line = some l) (hs : 0 ≤ x.Start ∧ x.Start ≤ 1799) {k : Nat} (hk : k ≤ l.Runs.length) : zq105 t (i : Int) (k : Int) = some (x.Start + (l.Runs.take k).sum) := by
 have h := yaci hg hl
 obtain ⟨⟨h1, h2, h3⟩, h4⟩ := yabp h
 have h5 := yakz h k
 have e := yatz l 0 k (by omega) hk (by omega) (fun x hx => by have := h4 x hx; omega)
 rw [List.drop_zero] at e
 have e' : zq103 l 0 (k : Int) = some (l.Runs.take k).sum := e
 unfold zq105
 simp (disch := omega) only [if_pos, if_neg, decide_eq_true_eq, decide_true, decide_false, Bool.not_true, Bool.not_false, Bool.false_eq_true, Bool.not_eq_true', decide_eq_false_iff_not, if_true, if_false, w64_id, chk_of, idx_nat, Option.bind_some, Option.map_some, Int.toNat_natCast, not_true_eq_false, not_false_eq_true, true_and, and_true, and_self, false_and, and_false, reduceIte, flb_go, flb_ret, beq_self_eq_true, ne_eq, bne_self_eq_false, hx, yais hx hl, e']
theorem yali {t : Timetable} (hg : Good t.Network) {i : Nat} {x : Trip} {l : Line} (hx : t.Trips[i]? = some x) (hl : idx t.Network.Lines x.Line = some l) (hs : 0 ≤ x.Start ∧ x.Start ≤ 1799) : zq106 t (i : Int) = some (x.Start + l.Runs.sum) := by
 have h := yaci hg hl
 obtain ⟨⟨h1, h2, h3⟩, h4⟩ := yabp h
 have e : w64 ((l.Stops.length : Int) - 1) = (l.Runs.length : Int) := by rw [w64_id (by omega)]; omega
 unfold zq106
 rw [yact hx hl]
 simp only [Option.bind_some, e, yayn hg hx hl hs (Nat.le_refl _), List.take_length]
def yajh (t : Timetable) : Prop := (∀ (i : Nat) x, t.Trips[i]? = some x → TripP t.Network x) ∧ ∀ (i : Nat) a b, t.Trips[i]? = some a → t.Trips[i + 1]? = some b → a.Id < b.Id
noncomputable instance (t : Timetable) : Decidable (yajh t) := Classical.propDecidable _
theorem ybao {t : Timetable} (hb : TB t) (hg : Good t.Network) (x : Trip) (last : Int) (hlast : 0 ≤ last) : ((if (decide (x.Id ≤ last)) = true then some true else if (decide (999 < x.Id)) = true then some true else (zq22 t.Network x.Line).bind fun r =>
   if (!r) = true then some true else (zq8 x.Start).bind fun r1 =>
   if (!r1) = true then some true else (zq18 t x).bind fun r2 =>
   (zq8 r2).bind fun r3 =>
   some (!r3))) = some (!decide (last < x.Id ∧ TripP t.Network x)) := by
 by_cases c1 : x.Id ≤ last
 ·have : ¬ (last < x.Id ∧ TripP t.Network x) := fun h => by omega
  simp [c1, this]
 ·by_cases c2 : 999 < x.Id
  ·have : ¬ (last < x.Id ∧ TripP t.Network x) := fun h => by have := h.2.1; omega
   simp [c1, c2, this]
  ·simp only [yaqa, yaru, Option.bind_some, c1, c2, decide_false, Bool.false_eq_true, if_false]
   by_cases c3 : 0 ≤ x.Line ∧ x.Line < (t.Network.Lines.length : Int)
   ·obtain ⟨l, hl, _⟩ := idx_lt (l := t.Network.Lines) c3.1 c3.2
    by_cases c4 : 0 ≤ x.Start ∧ x.Start ≤ 1799
    ·have hT : (last < x.Id ∧ TripP t.Network x) ↔ (0 ≤ x.Start + l.Runs.sum ∧ x.Start + l.Runs.sum ≤ 1799) := by
      constructor
      ·rintro ⟨_, _, l', hl', _, h⟩
       rw [hl] at hl'; cases hl'; exact h
      ·intro h; exact ⟨by omega, ⟨by omega, by omega⟩, l, hl, c4, h⟩
     simp only [c3, c4, and_self, decide_true, Bool.not_true, Bool.false_eq_true, if_false, yalq hg hl c4, yaru, Option.bind_some, hT]
    ·have : ¬ (last < x.Id ∧ TripP t.Network x) := fun h => by
      obtain ⟨_, _, l', _, h4, _⟩ := h
      exact c4 h4
     simp only [c3, c4, this, and_self, decide_true, decide_false, Bool.not_true, Bool.not_false, Bool.false_eq_true, if_false, if_true]
   ·have : ¬ (last < x.Id ∧ TripP t.Network x) := fun h => by
     obtain ⟨_, _, l', hl', _⟩ := h
     have := idx_some hl'
     exact c3 ⟨this.1, this.2.1⟩
    simp only [c3, this, decide_false, Bool.not_false, if_true]
theorem yajg {t : Timetable} (hb : TB t) (hg : Good t.Network) : zq14 t = some (decide (t.Trips.length ≤ 12 ∧ yajh t)) := by
 unfold zq14
 by_cases h12 : t.Trips.length ≤ 12
 ·have d : decide ((12 : Int) < (t.Trips.length : Int)) = false := by simp; omega
  have e : decide (t.Trips.length ≤ 12 ∧ yajh t) = decide (yajh t) := by simp [h12]
  rw [d, e]
  simp only [Bool.false_eq_true, if_false]
  refine flb_dec (.iter (fun m a => ∃ i : Nat, a.2 = (i : Int) ∧ m + i = t.Trips.length ∧ 0 ≤ a.1 ∧ (∀ y, 0 < i → t.Trips[i - 1]? = some y → a.1 = y.Id) ∧ (i = 0 → a.1 = 0) ∧ (∀ (j : Nat) x, j < i → t.Trips[j]? = some x → TripP t.Network x) ∧ ∀ (j : Nat) a b, j + 1 < i → t.Trips[j]? = some a → t.Trips[j + 1]? = some b → a.Id < b.Id)
   (n := t.Trips.length) ⟨0, rfl, rfl, by simp, by simp, by simp, fun j x h => by omega, fun j a b h => by omega⟩ ?_)
  rintro m ⟨last, v⟩ ⟨i, hv, hm, h0, h1, h2, h3, h4⟩
  simp only at hv h0 h1 h2
  subst hv
  unfold yaki
  refine .iteP (fun hc => ?_) (fun hc => .dn (.inl ⟨rfl, fun j x hx => h3 j x (by have := get_lt hx; omega) hx, fun j a b ha hb' => h4 j a b (by have := get_lt hb'; omega) ha hb'⟩))
  obtain ⟨x, hx⟩ := get_ex (l := t.Trips) (i := i) (by omega)
  refine .eq (by rw [idx_nat]; exact hx) (.eq (ybao hb hg x last h0) (.iteN (fun hn => .dn (.inr ⟨rfl, fun hp => hn ⟨?_, hp.1 i x hx⟩⟩)) (fun hp => .nx ⟨m - 1, by omega, i + 1, w64_succ (by omega), by omega, ?_, ?_, by simp, ?_, ?_⟩)))
  ·by_cases hi : i = 0
   ·rw [h2 hi]; have := (hp.1 i x hx).1; omega
   ·obtain ⟨y, hy⟩ := get_ex (l := t.Trips) (i := i - 1) (by omega)
    rw [h1 y (by omega) hy]
    exact hp.2 (i - 1) y x hy (by rw [show i - 1 + 1 = i by omega]; exact hx)
  ·show 0 ≤ x.Id
   have := hp.2.1; omega
  ·intro y _ hy
   rw [show i + 1 - 1 = i by omega, hx] at hy; cases hy; rfl
  ·intro j y hj hy
   by_cases hji : j = i
   ·subst hji; rw [hx] at hy; cases hy; exact hp.2
   ·exact h3 j y (by omega) hy
  ·intro j a b hj ha hb'
   by_cases hji : j + 1 = i
   ·subst hji; rw [hx] at hb'; cases hb'
    have := h1 a (by omega) (by simpa using ha)
    omega
   ·exact h4 j a b (by omega) ha hb'
 ·have d : decide ((12 : Int) < (t.Trips.length : Int)) = true := by simp; omega
  simp [d, h12]
def TripQ (t : Timetable) (i : Nat) (x : Trip) : Prop := TripP t.Network x ∧ ∀ y, 0 < i → t.Trips[i - 1]? = some y → y.Id < x.Id
noncomputable instance (t : Timetable) (i : Nat) (x : Trip) : Decidable (TripQ t i x) := Classical.propDecidable _
theorem yaiv (t : Timetable) : GoodT t ↔ Good t.Network ∧ t.Trips.length ≤ 12 ∧ yajh t := Iff.rfl
theorem yapq {t : Timetable} (hb : TB t) : zq9 t = some (decide (GoodT t)) := by
 unfold zq9
 rw [yatp _ hb.1]
 by_cases hg : Good t.Network
 ·simp only [hg, decide_true, if_true, Option.bind_some, yajg hb hg, yaiv, true_and]
 ·have : ¬ GoodT t := fun h => hg h.1
  simp [hg, this]
theorem yauc {t : Timetable} (hb : TB t) : zq108 t = some (decide (GoodT t)) := by
 unfold zq108
 rw [yary _ hb.1]
 by_cases hg : Good t.Network
 ·by_cases h12 : t.Trips.length ≤ 12
  ·have d : decide ((12 : Int) < (t.Trips.length : Int)) = false := by simp; omega
   have e : decide (GoodT t) = decide (yajh t) := by rw [decide_eq_decide, yaiv]; simp [hg, h12]
   simp only [hg, decide_true, Bool.not_true, Bool.false_eq_true, if_false, Option.bind_some, d, e]
   refine flb_dec (.iter (fun m a => ∃ i : Nat, a = (i : Int) ∧ m + i = t.Trips.length ∧ (∀ (j : Nat) x, j < i → t.Trips[j]? = some x → TripP t.Network x) ∧ ∀ (j : Nat) a b, j + 1 < i → t.Trips[j]? = some a → t.Trips[j + 1]? = some b → a.Id < b.Id)
    (n := t.Trips.length) ⟨0, rfl, rfl, fun j x h => by omega, fun j a b h => by omega⟩ ?_)
   rintro m v ⟨i, hv, hm, h3, h4⟩
   subst hv
   unfold yafk
   refine .iteP (fun hc => ?_) (fun hc => .dn (.inl ⟨rfl, fun j x hx => h3 j x (by have := get_lt hx; omega) hx, fun j a b ha hb' => h4 j a b (by have := get_lt hb'; omega) ha hb'⟩))
   obtain ⟨x, hx⟩ := get_ex (l := t.Trips) (i := i) (by omega)
   refine .eq (by rw [idx_nat]; exact hx) ?_
   have hll := hg.2.1
   have ew : w64 ((t.Network.Lines.length : Int) - 1) = (t.Network.Lines.length : Int) - 1 := w64_id (by omega)
   have key : ((zq86 x.Id 1 999).bind fun r6 =>
   (if (!r6) = true then some true else (zq86 x.Line 0 (w64 ((t.Network.Lines.length : Int) - 1))).bind fun r7 =>
   if (!r7) = true then some true else (zq104 x.Start).bind fun r8 =>
   if (!r8) = true then some true else (zq106 t (i : Int)).bind fun r9 =>
   (zq104 r9).bind fun r10 =>
   if (!r10) = true then some true else if (decide (0 < (i : Int))) = true then (idx t.Trips (w64 ((i : Int) - 1))).bind fun e2 =>
   some (decide (x.Id ≤ e2.Id)) else some false)) = some (!decide (TripQ t i x)) := by
    have no : ¬ TripP t.Network x → (!decide (TripQ t i x)) = true := fun h => (by simp [show ¬ TripQ t i x from fun q => h q.1])
    simp only [yabv, yait, ew, Option.bind_some]
    by_cases c1 : 1 ≤ x.Id ∧ x.Id ≤ 999
    ·by_cases c3 : 0 ≤ x.Line ∧ x.Line ≤ (t.Network.Lines.length : Int) - 1
     ·obtain ⟨l, hl, _⟩ := idx_lt (l := t.Network.Lines) c3.1 (by omega)
      by_cases c4 : 0 ≤ x.Start ∧ x.Start ≤ 1799
      ·simp only [c1, c3, c4, and_self, decide_true, Bool.not_true, Bool.false_eq_true, if_false, yali hg hx hl c4, yait, Option.bind_some]
       by_cases c5 : 0 ≤ x.Start + l.Runs.sum ∧ x.Start + l.Runs.sum ≤ 1799
       ·have hT : TripP t.Network x := ⟨c1, l, hl, c4, c5⟩
        simp only [c5, and_self, decide_true, Bool.not_true, Bool.false_eq_true, if_false, ]
        by_cases c6 : 0 < i
        ·obtain ⟨y, hy⟩ := get_ex (l := t.Trips) (i := i - 1) (by omega)
         have e1 : w64 ((i : Int) - 1) = ((i - 1 : Nat) : Int) := by rw [w64_id (by omega)]; omega
         have c6' : (0 : Int) < (i : Int) := by omega
         simp only [c6', decide_true, if_true, e1, idx_nat, hy, Option.bind_some, Option.some.injEq]
         by_cases c7 : x.Id ≤ y.Id
         ·have : ¬ TripQ t i x := fun h => by have := h.2 y c6 hy; omega
          simp only [c7, decide_true, this, decide_false, Bool.not_false]
         ·have : TripQ t i x := ⟨hT, fun z _ hz => by rw [hy] at hz; cases hz; omega⟩
          simp only [c7, decide_false, this, decide_true, Bool.not_true]
        ·have c6' : ¬ (0 : Int) < (i : Int) := by omega
         have : TripQ t i x := ⟨hT, fun z h0 _ => absurd h0 c6⟩
         simp only [c6', decide_false, Bool.false_eq_true, if_false, this, decide_true, Bool.not_true]
       ·rw [no (fun hT => by
         obtain ⟨_, l', hl', _, h⟩ := hT
         rw [hl] at hl'; cases hl'; exact c5 h)]
        simp only [c5, decide_false, Bool.not_false, if_true]
      ·rw [no (fun hT => by obtain ⟨_, l', _, h, _⟩ := hT; exact c4 h)]
       simp only [c1, c3, c4, and_self, decide_true, decide_false, Bool.not_true, Bool.not_false, Bool.false_eq_true, if_false, if_true]
     ·rw [no (fun hT => by
       obtain ⟨_, l', hl', _⟩ := hT
       have := idx_some hl'
       exact c3 ⟨this.1, by omega⟩)]
      simp only [c1, c3, and_self, decide_true, decide_false, Bool.not_true, Bool.not_false, Bool.false_eq_true, if_false, if_true]
    ·rw [no (fun hT => c1 hT.1)]
     simp only [c1, decide_false, Bool.not_false, if_true]
   rw [bind_assoc', key]
   refine .iteN (fun hn => .dn (.inr ⟨rfl, fun hp => hn ⟨hp.1 i x hx, fun y hi hy => hp.2 (i - 1) y x hy (by rw [show i - 1 + 1 = i by omega]; exact hx)⟩⟩)) (fun hp => .nx ⟨m - 1, by omega, i + 1, w64_succ (by omega), by omega, ?_, ?_⟩)
   ·intro j y hj hy
    by_cases hji : j = i
    ·subst hji; rw [hx] at hy; cases hy; exact hp.1
    ·exact h3 j y (by omega) hy
   ·intro j a b hj ha hb'
    by_cases hji : j + 1 = i
    ·subst hji; rw [hx] at hb'; cases hb'
     exact hp.2 a (by omega) (by simpa using ha)
    ·exact h4 j a b (by omega) ha hb'
  ·have d : decide ((12 : Int) < (t.Trips.length : Int)) = true := by simp; omega
   have : ¬ GoodT t := fun h => h12 h.2.1
   simp [hg, d, this]
 ·have : ¬ GoodT t := fun h => hg h.1
  simp [hg, this]
theorem yafq (t : Timetable) (h : t.Trips.length ≤ 1000) (id : Int) : zq35 t id = some (fixI (fun x => x.Id == id) t.Trips) := by
 unfold zq35 zq115 zq114
 rw [find_val t.Trips (fun x => x.Id == id) (fun i x hx => ?_) (by unfold yaej; simp)]
 ·rfl
 ·have := get_lt hx
  unfold yaej zq36
  simp (disch := omega) only [if_pos, if_neg, decide_eq_true_eq, decide_true, decide_false, Bool.not_true, Bool.not_false, Bool.false_eq_true, Bool.not_eq_true', decide_eq_false_iff_not, if_true, if_false, w64_id, chk_of, idx_nat, Option.bind_some, Option.map_some, Int.toNat_natCast, not_true_eq_false, not_false_eq_true, true_and, and_true, and_self, false_and, and_false, reduceIte, flb_go, flb_ret, beq_self_eq_true, ne_eq, bne_self_eq_false, hx, Int.ofNat_lt.2 this]
  split <;> simp [*] <;> omega
theorem yapt (t : Timetable) (h : t.Trips.length ≤ 1000) (id : Int) : zq107 t id = some (fixI (fun x => x.Id == id) t.Trips) := by
 unfold zq107
 rw [find_val t.Trips (fun x => x.Id == id) (fun i x hx => ?_) (by unfold yael; simp)]
 have := get_lt hx
 unfold yael
 simp (disch := omega) only [if_pos, if_neg, decide_eq_true_eq, decide_true, decide_false, Bool.not_true, Bool.not_false, Bool.false_eq_true, Bool.not_eq_true', decide_eq_false_iff_not, if_true, if_false, w64_id, chk_of, idx_nat, Option.bind_some, Option.map_some, Int.toNat_natCast, not_true_eq_false, not_false_eq_true, true_and, and_true, and_self, false_and, and_false, reduceIte, flb_go, flb_ret, beq_self_eq_true, ne_eq, bne_self_eq_false, hx, Int.ofNat_lt.2 this]
 split <;> simp [*] <;> omega
theorem yair {t : Timetable} {x : Trip} {l : Line} (hl : idx t.Network.Lines x.Line = some l) : zq31 t x = some l := by
 unfold zq31; rw [hl]; rfl
theorem yaeo {t : Timetable} (h : GoodT t) {i : Nat} {x : Trip} (hx : t.Trips[i]? = some x) : ∃ l, idx t.Network.Lines x.Line = some l ∧ LineP t.Network.Stops.length l ∧ (1 ≤ x.Id ∧ x.Id ≤ 999) ∧ (0 ≤ x.Start ∧ x.Start ≤ 1799) ∧ 0 ≤ x.Start + l.Runs.sum ∧ x.Start + l.Runs.sum ≤ 1799 := by
 obtain ⟨h1, l, hl, h2, h3⟩ := h.2.2.1 i x hx
 exact ⟨l, hl, yaci h.1 hl, h1, h2, h3⟩
theorem yalg {k : Nat} {c : l1Cur} (h : Cur k c) (hk : k ≤ 500000000) : ∃ r, zq73 c = some r ∧ Cur (k + 300) r.2 ∧ NB r.1 := yabo h hk
theorem yaqk {k : Nat} {c : l1Cur} (h : Cur k c) (hk : k ≤ 200000000) : Tot (zq67 c) fun r => Cur (k + 1000) r.2 ∧ Bd r.1 := yafe h hk
def DT (t : Timetable) : Prop := Bd t.Network ∧ t.Trips.length ≤ 30
theorem DT.tb {t : Timetable} (h : DT t) : TB t := ⟨h.1, by have := h.2; omega⟩
theorem yacq {k : Nat} {c : l1Cur} (h : Cur k c) (hk : k ≤ 100000000) : Tot (zq83 c) fun r => Cur (k + 400) r.2 ∧ DT r.1 ∧ NB r.1.Network ∧ r.1.Trips.length ≤ 8 := by
 unfold zq83
 refine .call (yabo h (by omega)) fun r ⟨hc, hn⟩ => .call (yabb 8 hc (by omega)) fun r1 ⟨hc1, h0, h1⟩ => ?_
 refine .call (P := fun o => Cur (k + 400) ⟨o.1, o.2.1, ⟨o.2.2.1⟩⟩ ∧ o.2.2.2.length ≤ 8) ?_ fun o ⟨ho1, ho2⟩ => .ok ⟨ho1, ⟨hn.bd, by show o.2.2.2.length ≤ 30; omega⟩, hn, ho2⟩
 refine .iter (fun m s => s.2.1 = (m : Int) ∧ m + s.2.2.2.2.2.length ≤ 8 ∧ Cur (k + 302 + 6 * (8 - m)) ⟨s.2.2.1, s.2.2.2.1, ⟨s.2.2.2.2.1⟩⟩) (n := r1.1.toNat) ⟨by show r1.1 = _; omega, by show r1.1.toNat + 0 ≤ 8; omega, hc1.mono (by omega)⟩ ?_
 rintro m ⟨n, v, v1, v2, v3, v4⟩ ⟨hv, hl, hcur⟩
 simp only at hv hl hcur
 subst hv
 unfold yajp
 refine .iteP (fun hc => ?_) (fun hc => .dn ⟨hcur.mono (by omega), by show v4.length ≤ 8; omega⟩)
 refine .call (yabb 3 hcur (by omega)) fun r2 ⟨hc2, _⟩ => .call (yabb _ hc2 (by omega)) fun r5 ⟨hc5, _⟩ => .call (yabb 24 hc5 (by omega)) fun r6 ⟨hc6, _⟩ => .chk (by simp; omega) (.nx ⟨m - 1, by omega, ?_, ?_, ?_⟩)
 ·show w64 ((m : Int) - 1) = _; rw [w64_id (by omega)]; omega
 ·show m - 1 + (v4 ++ [_]).length ≤ 8; simp; omega
 ·exact hc6.mono (by omega)
theorem yacw {k : Nat} {c : l1Cur} (h : Cur k c) (hk : k ≤ 50000000) : Tot (zq68 c) fun r => Cur (k + 2000) r.2 ∧ DT r.1 := by
 unfold zq68
 refine .call (yacq h (by omega)) fun r ⟨hc, hd, hn, hl⟩ => ?_
 refine .ite (fun _ => .ok ⟨hc.mono (by omega), hd⟩) fun he => ?_
 have hpos : 0 < r.1.Trips.length := by
  have : (r.1.Trips.length : Int) ≠ 0 := by simpa using he
  omega
 refine .call (yabb _ hc (by omega)) fun r1 ⟨hc1, h10, h11⟩ => ?_
 have h12 : r1.1 < (r.1.Trips.length : Int) := by omega
 refine .idx h10 h12 fun e _ => ?_
 have fin : ∀ (v : List UInt8) (v1 v2 : Int) (v3 : List Line) (v4 v5 v6 : Int) (v7 : List ByteArray), Cur (k + 2000) ⟨v, v1, ⟨v2⟩⟩ → Bd ⟨v7, v3⟩ → Tot ((idx r.1.Trips r1.1).bind fun e2 => some ((⟨(⟨v7, v3⟩ : Network), (r.1.Trips.set r1.1.toNat (⟨v4, v5, v6⟩ : Trip))⟩ : Timetable), (⟨v, v1, (⟨v2⟩ : IK .u64)⟩ : l1Cur))) fun r => Cur (k + 2000) r.2 ∧ DT r.1 := fun v v1 v2 v3 v4 v5 v6 v7 q1 q2 =>
  .idx h10 h12 fun e2 _ => .ok ⟨q1, q2, by show (r.1.Trips.set _ _).length ≤ 30; rw [List.length_set]; omega⟩
 refine .flb (.call (yabb 24 hc1 (by omega)) fun r2 ⟨hc2, _⟩ => ?_)
 refine .ite (fun _ => .call (yafy _ (by simp) hc2 (by omega)) fun r3 ⟨hc3, _⟩ => .go (fin _ _ _ _ _ _ _ _ (hc3.mono (by omega)) hd.1)) fun _ => ?_
 refine .ite (fun _ => .call (yabb 7 hc2 (by omega)) fun r3 ⟨hc3, _⟩ => .go (fin _ _ _ _ _ _ _ _ (hc3.mono (by omega)) hd.1)) fun _ => ?_
 refine .ite (fun _ => .call (yafy _ (by simp) hc2 (by omega)) fun r3 ⟨hc3, _⟩ => .go (fin _ _ _ _ _ _ _ _ (hc3.mono (by omega)) hd.1)) fun _ => ?_
 refine .ite (fun _ => .call (yaqk hc2 (by omega)) fun r3 ⟨hc3, hb⟩ => .go (fin _ _ _ _ _ _ _ _ (hc3.mono (by omega)) hb)) fun _ => ?_
 refine .ite (fun _ => ?_) fun _ => .go (fin _ _ _ _ _ _ _ _ (hc2.mono (by omega)) hd.1)
 refine .call (P := fun o => Cur (k + 2000) ⟨o.1, o.2.1, ⟨o.2.2.1⟩⟩ ∧ o.2.2.2.length ≤ 30) ?_ fun o ⟨ho1, ho2⟩ => .ret ⟨ho1, hd.1, ho2⟩
 refine .iter (fun m s => ∃ i : Nat, s.1 = (i : Int) ∧ m + i = 14 ∧ s.2.2.2.2.length ≤ 8 + i ∧ Cur (k + 500 + 2 * i) ⟨s.2.1, s.2.2.1, ⟨s.2.2.2.1⟩⟩) (n := 14) ⟨0, rfl, rfl, by simpa using hl, hc2.mono (by omega)⟩ ?_
 rintro m ⟨v8, v9, v10, v11, v12⟩ ⟨i, hv, hm, hl12, hcur⟩
 simp only at hv hl12 hcur
 subst hv
 unfold yajs
 refine .call (yabb 2 hcur (by omega)) fun r8 ⟨hc8, _⟩ => ?_
 refine .call (P := fun b => b = true → i < 14) (.ite (fun _ => .ok fun hb => by simp at hb; omega) fun _ => .ok fun hb => by cases hb) fun b hb => ?_
 refine .ite (fun ht => .chk (by simp; omega) (.nx ⟨m - 1, by have := hb ht; omega, i + 1, w64_succ (by omega), by have := hb ht; omega, ?_, hc8.mono (by omega)⟩)) (fun _ => .dn ⟨hc8.mono (by omega), by show v12.length ≤ 30; omega⟩)
 show (v12 ++ [_]).length ≤ 8 + (i + 1); simp; omega
theorem yatu {k : Nat} {c : l1Cur} (h : Cur k c) (hk : k ≤ 40000000) : Tot (zq84 c) fun r => Cur (k + 3000) r.2 ∧ DT r.1 := by
 unfold zq84
 refine .call (yalf 16 h (by omega)) fun r hc => ?_
 refine .ite (fun _ => .call (yacw hc (by omega)) fun r1 ⟨hc1, hd⟩ => .ok ⟨hc1.mono (by omega), hd⟩) fun _ => ?_
 refine .call (yabo hc (by omega)) fun r2 ⟨hc2, hn⟩ => .call (yabb 6 hc2 (by omega)) fun r3 ⟨hc3, h30, h31⟩ => ?_
 refine .call (P := fun o => Cur (k + 3000) ⟨o.1, o.2.1, ⟨o.2.2.1⟩⟩ ∧ o.2.2.2.length ≤ 10) ?_ fun o ⟨ho1, ho2⟩ => ?_
 ·refine .iter (fun m s => s.1 = (m : Int) ∧ m + s.2.2.2.2.length ≤ 10 ∧ Cur (k + 310 + 6 * (10 - m)) ⟨s.2.1, s.2.2.1, ⟨s.2.2.2.1⟩⟩) (n := 3 + r3.1.toNat) ⟨by show w64 (3 + r3.1) = _; rw [w64_id (by omega)]; omega, by show 3 + r3.1.toNat + 0 ≤ 10; omega, hc3.mono (by omega)⟩ ?_
  rintro m ⟨i, v, v1, v2, v3⟩ ⟨hv, hl, hcur⟩
  simp only at hv hl hcur
  subst hv
  unfold yajo
  refine .iteP (fun hc => ?_) (fun hc => .dn ⟨hcur.mono (by omega), by show v3.length ≤ 10; omega⟩)
  refine .call (yabb 2 hcur (by omega)) fun r7 ⟨hc7, _⟩ => .call (yabb _ hc7 (by omega)) fun r8 ⟨hc8, _⟩ => .call (yabb 16 hc8 (by omega)) fun r9 ⟨hc9, _⟩ => .chk (by simp; omega) (.nx ⟨m - 1, by omega, ?_, ?_, ?_⟩)
  ·show w64 ((m : Int) - 1) = _; rw [w64_id (by omega)]; omega
  ·show m - 1 + (v3 ++ [_]).length ≤ 10; simp; omega
  ·exact hc9.mono (by omega)
 ·refine .call (P := fun l => l.length ≤ 10) ?_ fun l hl => .ok ⟨ho1, hn.bd, by show l.length ≤ 30; omega⟩
  refine .iter (fun m s => ∃ i : Nat, s.1 = (i : Int) ∧ 1 ≤ i ∧ m + i = 11 ∧ s.2.length ≤ 10) (n := 10) ⟨1, rfl, by omega, by omega, ho2⟩ ?_
  rintro m ⟨x, v8⟩ ⟨i, hx, h1, hm, hl⟩
  simp only at hx hl
  subst hx
  unfold yajn
  refine .iteP (fun hc => ?_) (fun hc => .dn hl)
  have e1 : w64 ((i : Int) - 1) = (i : Int) - 1 := w64_id (by omega)
  refine .idx (by omega) hc fun e _ => ?_
  rw [e1]
  refine .idx (by omega) (by omega) fun e2 _ => ?_
  refine .call (P := fun _ => True) ?_ fun r11 _ => .idx (by omega) hc fun e3 _ => .nx ⟨m - 1, by omega, i + 1, w64_succ (by omega), by omega, by omega, by show (v8.set _ _).length ≤ 10; rw [List.length_set]; exact hl⟩
  unfold zq88
  exact .ite (fun _ => .ok trivial) fun _ => .ok trivial
theorem yarx {k : Nat} {c : l1Cur} (t : Timetable) (h : Cur k c) (hk : k ≤ 1000000000) : Tot (zq70 c t) fun r => Cur (k + 4) r.2 := by
 unfold zq70
 refine .call (P := fun o => Cur (k + 2) ⟨o.2.1, o.2.2.1, ⟨o.2.2.2⟩⟩ ∧ (o.1 = false → 0 < t.Trips.length)) (.ite (fun _ => .ok ⟨h.mono (by omega), fun h => by cases h⟩) fun he => .call (yalf 8 h (by omega)) fun r hc => .ok ⟨hc, fun _ => ?_⟩) fun o ⟨ho, hz⟩ => ?_
 ·have : (t.Trips.length : Int) ≠ 0 := by simpa using he
  omega
 ·refine .ite (fun _ => .call (yabb 30 ho (by omega)) fun r1 ⟨hc1, _⟩ => .ok (hc1.mono (by omega))) fun hf => ?_
  have := hz hf
  refine .call (yabb _ ho (by omega)) fun r3 ⟨hc3, h0, h1⟩ => .idx h0 (by omega) fun e _ => .ok (hc3.mono (by omega))
theorem yacr {k : Nat} {c : l1Cur} (n : Int) (h : Cur k c) (hk : k ≤ 3000000000) : Tot (zq79 c n) fun r => Cur (k + 2) r.2 ∧ 0 ≤ r.1 ∧ (r.1 < n ∨ r.1 = 0) := yabb n h hk
theorem t_one {k : Nat} {c : l1Cur} (n : Int) (h : Cur k c) (hk : k ≤ 3000000000) : Tot (zq78 c n) fun r => Cur (k + 2) r.2 := yalf n h hk
theorem yacs {k : Nat} {c : l1Cur} (l : List Int) (hl : l ≠ []) (h : Cur k c) (hk : k ≤ 3000000000) : Tot (zq65 c l) fun r => Cur (k + 2) r.2 ∧ r.1 ∈ l := yafy l hl h hk
theorem yafr {k : Nat} {c : l1Cur} (l : List Int) (hl : l ≠ []) (h : Cur k c) (hk : k ≤ 3000000000) : Tot (zq66 c l) fun r => Cur (k + 2) r.2 ∧ r.1 ∈ l := yaes l hl h hk
theorem yaye (code : List UInt8) : zq134 code = some (decide (65536 < (code.length : Int))) := rfl
theorem idx0 {α : Type} (l : List α) : idx l 0 = l[0]? := idx_nat l 0
theorem yakx (a : List Int) (h : a.length ≤ 1000) : zq135 a a = some true := by
 unfold zq135
 simp only [bne_self_eq_false, Bool.false_eq_true, if_false]
 rw [all_val (hd := Classical.propDecidable _) a (fun _ _ => True) (fun i x hx => ?_) (by unfold yadm; simp)]
 ·rw [if_pos (fun _ _ _ => trivial)]
 ·have hi := (List.getElem?_eq_some_iff.1 hx).1
  unfold yadm
  have hlt : decide ((i : Int) < (a.length : Int)) = true := by simp; omega
  left
  simp only [hlt, if_true, idx_nat, hx, Option.bind_some, bne_self_eq_false, Bool.false_eq_true, if_false, w64_succ (n := i) (by omega), and_self]
theorem yaft (l : List Int) (hl : l.length ≤ 100000) (x : Int) : zq85 l x = some (decide (x ∈ l)) := by
 unfold zq85
 rw [find_loop l (fun e => e == x) (fun _ => true) (fun i y hy => ?_) (by unfold yagg; simp)]
 ·by_cases h : x ∈ l
  ·have : l.findIdx? (fun e => e == x) ≠ none := fun hn => by
    have := List.findIdx?_eq_none_iff.1 hn x h
    simp at this
   cases hf : l.findIdx? (fun e => e == x) with
   | none => exact absurd hf this
   | some i => simp [h]
  ·have : l.findIdx? (fun e => e == x) = none := List.findIdx?_eq_none_iff.2 fun y hy => by
    simp only [beq_eq_false_iff_ne, ne_eq]
    intro e; subst e; exact h hy
   rw [this]; simp [h]
 ·have hi := get_lt hy
  unfold yagg
  have hlt : decide ((i : Int) < (l.length : Int)) = true := by simp; omega
  simp only [hlt, if_true, idx_nat, hy, Option.bind_some, w64_succ (n := i) (by omega)]
  split <;> rfl
def RowP (st : Nat) (a : Nat) (row : List Int) : Prop := row.length = st ∧ row[a]? = some 0 ∧ ∀ d ∈ row, 0 ≤ d ∧ d ≤ 120
def yach (n : Network) (f : Fleet) : Prop := f.Dead.length = n.Stops.length ∧ (0 ≤ f.Turn ∧ f.Turn ≤ 30) ∧ ∀ (a : Nat) row, f.Dead[a]? = some row → RowP n.Stops.length a row
def RowsP (st : Nat) (f : Fleet) : Prop := ∀ (a : Nat) row, f.Dead[a]? = some row → RowP st a row
noncomputable instance (st : Nat) (f : Fleet) : Decidable (RowsP st f) := Classical.propDecidable _
noncomputable instance (n : Network) (f : Fleet) : Decidable (yach n f) := Classical.propDecidable _
noncomputable instance (st a : Nat) (row : List Int) : Decidable (RowP st a row) := Classical.propDecidable _
def FB (f : Fleet) : Prop := f.Dead.length ≤ 1000 ∧ ∀ row ∈ f.Dead, row.length ≤ 1000
theorem yaqe (e : List Int) (he : e.length ≤ 1000) : Tot (iter (yaha e) (0 : Int)) fun b => (b = .go () ∧ ∀ d ∈ e, 0 ≤ d ∧ d ≤ 120) ∨ (b = .ret (.dn (.ret false)) ∧ ¬ ∀ d ∈ e, 0 ≤ d ∧ d ≤ 120) := by
 refine .iter (fun m v => ∃ i : Nat, v = (i : Int) ∧ m + i = e.length ∧ ∀ (j : Nat) d, j < i → e[j]? = some d → 0 ≤ d ∧ d ≤ 120) (n := e.length) ⟨0, rfl, rfl, fun j d h => by omega⟩ ?_
 rintro m v ⟨i, rfl, hm, h3⟩
 unfold yaha
 refine .iteP (fun hc => ?_) (fun hc => .dn (.inl ⟨rfl, fun d hd => ?_⟩))
 ·obtain ⟨d, hd⟩ := get_ex (l := e) (i := i) (by omega)
  refine .eq (ixs hd) (.eq (yabm _ _ _) (.iteN (fun hn => .dn (.inr ⟨rfl, fun h => hn (h d (List.mem_of_getElem? hd))⟩)) (fun hp => .nx ⟨m - 1, by omega, i + 1, w64_succ (by omega), by omega, fun j x hj hx => ?_⟩)))
  by_cases hji : j = i
  ·subst hji; rw [hd] at hx; cases hx; exact hp
  ·exact h3 j x (by omega) hx
 ·obtain ⟨j, hj⟩ := List.getElem?_of_mem hd
  exact h3 j d (by have := get_lt hj; omega) hj
theorem yaqd {f : Fleet} {a : Nat} {e : List Int} (ha : f.Dead[a]? = some e) (he : e.length ≤ 1000) : Tot (iter (yagr f (a : Int)) (0 : Int)) fun b => (b = .go () ∧ ∀ d ∈ e, 0 ≤ d ∧ d ≤ 120) ∨ (b = .ret (.dn (.ret false)) ∧ ¬ ∀ d ∈ e, 0 ≤ d ∧ d ≤ 120) := by
 refine .iter (fun m v => ∃ i : Nat, v = (i : Int) ∧ m + i = e.length ∧ ∀ (j : Nat) d, j < i → e[j]? = some d → 0 ≤ d ∧ d ≤ 120) (n := e.length) ⟨0, rfl, rfl, fun j d h => by omega⟩ ?_
 rintro m v ⟨i, rfl, hm, h3⟩
 unfold yagr
 refine .eq (ixs ha) (.iteP (fun hc => ?_) (fun hc => .dn (.inl ⟨rfl, fun d hd => ?_⟩)))
 ·obtain ⟨d, hd⟩ := get_ex (l := e) (i := i) (by omega)
  refine .eq (ixs ha) (.eq (ixs hd) (.eq (yabv _ _ _) (.iteN (fun hn => .dn (.inr ⟨rfl, fun h => hn (h d (List.mem_of_getElem? hd))⟩)) (fun hp => .nx ⟨m - 1, by omega, i + 1, w64_succ (by omega), by omega, fun j x hj hx => ?_⟩))))
  by_cases hji : j = i
  ·subst hji; rw [hd] at hx; cases hx; exact hp
  ·exact h3 j x (by omega) hx
 ·obtain ⟨j, hj⟩ := List.getElem?_of_mem hd
  exact h3 j d (by have := get_lt hj; omega) hj
theorem yala {st a : Nat} {e : List Int} (ha : a < st) : ((if ((e.length : Int) != (st : Int)) = true then some true else (idx e (a : Int)).bind fun e1 => some (e1 != 0))) = some (!decide (e.length = st ∧ e[a]? = some 0)) := by
 by_cases h1 : e.length = st
 ·obtain ⟨x, hx⟩ := get_ex (l := e) (i := a) (by omega)
  have hb : ((e.length : Int) != (st : Int)) = false := by simp; omega
  rw [hb, idx_nat, hx]
  by_cases h2 : x = 0
  ·subst h2; simp [h1]
  ·simp [h1, h2]
 ·have hb : ((e.length : Int) != (st : Int)) = true := by simp; omega
  simp [hb, h1]
theorem yaln {n : Network} (hn : n.Stops.length ≤ 1000) {f : Fleet} (hf : FB f) : zq21 n f = some (decide (yach n f)) := by
 unfold zq21
 rw [yabm]
 by_cases h1 : f.Dead.length = n.Stops.length
 ·have hb : ((f.Dead.length : Int) != (n.Stops.length : Int)) = false := by simp; omega
  by_cases h2 : 0 ≤ f.Turn ∧ f.Turn ≤ 30
  ·simp only [hb, h2, and_self, decide_true, Bool.not_true, Bool.false_eq_true, if_false, Option.bind_some]
   have e : decide (yach n f) = decide (RowsP n.Stops.length f) := by
    rw [decide_eq_decide]; unfold yach RowsP; simp [h1, h2]
   rw [e]
   refine flb_dec (.iter (fun m v => ∃ i : Nat, v = (i : Int) ∧ m + i = f.Dead.length ∧ ∀ (j : Nat) row, j < i → f.Dead[j]? = some row → RowP n.Stops.length j row) (n := f.Dead.length) ⟨0, rfl, rfl, fun j d h => by omega⟩ ?_)
   rintro m v ⟨i, rfl, hm, h3⟩
   unfold yakf
   refine .iteP (fun hc => ?_) (fun hc => .dn (.inl ⟨rfl, fun j row hj => h3 j row (by have := get_lt hj; omega) hj⟩))
   obtain ⟨row, hr⟩ := get_ex (l := f.Dead) (i := i) (by omega)
   have hrl := hf.2 row (List.mem_of_getElem? hr)
   refine .eq (ixs hr) (.eq (yala (by omega)) (.iteN (fun hneg => .dn (.inr ⟨rfl, fun h => hneg ⟨(h i row hr).1, (h i row hr).2.1⟩⟩)) (fun hp => .flb ((yaqe row hrl).mono fun b hb' => ⟨fun r hr' => ?_, fun u hu => ?_⟩))))
   ·rcases hb' with ⟨h4, _⟩ | ⟨h4, h5⟩
    ·rw [h4] at hr'; cases hr'
    ·rw [h4] at hr'; cases hr'
     exact ⟨fun a' h => (by cases h), fun b h => (by cases h; exact .inr ⟨rfl, fun h => h5 (h i row hr).2.2⟩)⟩
   ·rcases hb' with ⟨_, h5⟩ | ⟨h4, _⟩
    ·refine .nx ⟨m - 1, by omega, i + 1, w64_succ (by omega), by omega, fun j x hj hx => ?_⟩
     by_cases hji : j = i
     ·subst hji; rw [hr] at hx; cases hx; exact ⟨hp.1, hp.2, h5⟩
     ·exact h3 j x (by omega) hx
    ·rw [h4] at hu; cases hu
  ·have : ¬ yach n f := fun h => h2 h.2.1
   simp [hb, h2, this]
 ·have hb : ((f.Dead.length : Int) != (n.Stops.length : Int)) = true := by simp; omega
  have : ¬ yach n f := fun h => h1 h.1
  simp [hb, this]
theorem yajd {n : Network} (hn : Bd n) {f : Fleet} (hf : FB f) : zq50 n f = some (decide (Good n ∧ yach n f)) := by
 have hn1 := hn.1
 unfold zq50
 rw [yary n hn, yabv]
 by_cases h0 : Good n
 ·by_cases h1 : f.Dead.length = n.Stops.length
  ·have hb : ((f.Dead.length : Int) != (n.Stops.length : Int)) = false := by simp; omega
   by_cases h2 : 0 ≤ f.Turn ∧ f.Turn ≤ 30
   ·simp only [h0, hb, h2, and_self, decide_true, Bool.not_true, Bool.false_eq_true, if_false, Option.bind_some, true_and]
    have e : decide (yach n f) = decide (RowsP n.Stops.length f) := by
     rw [decide_eq_decide]; unfold yach RowsP; simp [h1, h2]
    rw [e]
    refine flb_dec (.iter (fun m v => ∃ i : Nat, v = (i : Int) ∧ m + i = f.Dead.length ∧ ∀ (j : Nat) row, j < i → f.Dead[j]? = some row → RowP n.Stops.length j row) (n := f.Dead.length) ⟨0, rfl, rfl, fun j d h => by omega⟩ ?_)
    rintro m v ⟨i, rfl, hm, h3⟩
    unfold yajx
    refine .iteP (fun hc => ?_) (fun hc => .dn (.inl ⟨rfl, fun j row hj => h3 j row (by have := get_lt hj; omega) hj⟩))
    obtain ⟨row, hr⟩ := get_ex (l := f.Dead) (i := i) (by omega)
    have hrl := hf.2 row (List.mem_of_getElem? hr)
    have ht : ((if ((row.length : Int) != (n.Stops.length : Int)) = true then some true else (idx f.Dead (i : Int)).bind fun e4 => (idx e4 (i : Int)).bind fun e5 => some (e5 != 0))) = some (!decide (row.length = n.Stops.length ∧ row[i]? = some 0)) := by
     rw [ixs hr]; exact yala (by omega)
    refine .eq (ixs hr) (.eq ht (.iteN (fun hneg => .dn (.inr ⟨rfl, fun h => hneg ⟨(h i row hr).1, (h i row hr).2.1⟩⟩)) (fun hp => .flb ((yaqd hr hrl).mono fun b hb' => ⟨fun r hr' => ?_, fun u hu => ?_⟩))))
    ·rcases hb' with ⟨h4, _⟩ | ⟨h4, h5⟩
     ·rw [h4] at hr'; cases hr'
     ·rw [h4] at hr'; cases hr'
      exact ⟨fun a' h => (by cases h), fun b h => (by cases h; exact .inr ⟨rfl, fun h => h5 (h i row hr).2.2⟩)⟩
    ·rcases hb' with ⟨_, h5⟩ | ⟨h4, _⟩
     ·refine .nx ⟨m - 1, by omega, i + 1, w64_succ (by omega), by omega, fun j x hj hx => ?_⟩
      by_cases hji : j = i
      ·subst hji; rw [hr] at hx; cases hx; exact ⟨hp.1, hp.2, h5⟩
      ·exact h3 j x (by omega) hx
     ·rw [h4] at hu; cases hu
   ·have : ¬ yach n f := fun h => h2 h.2.1
    simp [h0, hb, h2, this]
  ·have hb : ((f.Dead.length : Int) != (n.Stops.length : Int)) = true := by simp; omega
   have : ¬ yach n f := fun h => h1 h.1
   simp [h0, hb, this]
 ·simp [h0]
def AskF (t : Timetable) (f : Fleet) : Prop := GoodT t ∧ yach t.Network f
noncomputable instance (t : Timetable) (f : Fleet) : Decidable (AskF t f) := Classical.propDecidable _
theorem yaub {t : Timetable} (hb : TB t) {f : Fleet} (hf : FB f) : zq25 t f = some (decide (AskF t f)) := by
 unfold zq25 AskF
 rw [yapq hb, yaln hb.1.1 hf]
 by_cases h : GoodT t <;> simp [h]
theorem yadi {t : Timetable} (hb : TB t) {f : Fleet} (hf : FB f) : zq45 t f = some (decide (AskF t f)) := by
 unfold zq45 AskF
 rw [yauc hb, yajd hb.1 hf]
 by_cases h : GoodT t
 ·have h2 : Good t.Network := h.1
  simp [h, h2]
 ·simp [h]
noncomputable def dv (t : Timetable) (f : Fleet) (x y : Trip) : Int := (zq17 t f x y).getD 0
noncomputable def ev (t : Timetable) (x : Trip) : Int := (zq18 t x).getD 0
theorem yacc {t : Timetable} {f : Fleet} (h : AskF t f) {i k : Nat} {x y : Trip} (hx : t.Trips[i]? = some x) (hy : t.Trips[k]? = some y) : (0 ≤ dv t f x y ∧ dv t f x y ≤ 120) ∧ zq17 t f x y = some (dv t f x y) ∧ zq49 t f (i : Int) (k : Int) = some (dv t f x y) := by
 obtain ⟨hg, hf1, hf2, hf3⟩ := h
 obtain ⟨la, hla, hpa, _⟩ := yaeo hg hx
 obtain ⟨lb, hlb, hpb, _⟩ := yaeo hg hy
 obtain ⟨⟨a1, a2, a3⟩, a4⟩ := yabp hpa
 obtain ⟨⟨b1, b2, b3⟩, b4⟩ := yabp hpb
 obtain ⟨s, hs⟩ := get_ex (l := la.Stops) (i := la.Stops.length - 1) (by omega)
 obtain ⟨u, hu⟩ := get_ex (l := lb.Stops) (i := 0) (by omega)
 have s1 := yaiq hpa hs
 have u1 := yaiq hpb hu
 have ws : w64 ((la.Stops.length : Int) - 1) = ((la.Stops.length - 1 : Nat) : Int) := by rw [w64_id (by omega)]; omega
 obtain ⟨row, hrow⟩ := get_ex (l := f.Dead) (i := s.toNat) (by omega)
 have hR := hf3 s.toNat row hrow
 obtain ⟨d, hd⟩ := get_ex (l := row) (i := u.toNat) (by rw [hR.1]; omega)
 have hdb := hR.2.2 d (List.mem_of_getElem? hd)
 have e1 : zq17 t f x y = some d := by
  unfold zq17 zq28 zq19
  rw [yair hla, yair hlb]
  simp only [Option.bind_some, ws, idx_nat, hs, idx_of s1.1 hrow, idx0, hu, idx_of u1.1 hd]
 have e2 : zq49 t f (i : Int) (k : Int) = some d := by
  unfold zq49
  rw [yact hx hla, yact hy hlb]
  simp only [Option.bind_some, ws, idx_nat, hs, idx_of s1.1 hrow, idx0, hu, idx_of u1.1 hd]
 have e3 : dv t f x y = d := by unfold dv; rw [e1]; rfl
 rw [e3]
 exact ⟨hdb, e1, e2⟩
theorem yacu {t : Timetable} (hg : GoodT t) {i : Nat} {x : Trip} (hx : t.Trips[i]? = some x) : (x.Start < ev t x ∧ ev t x ≤ 1799) ∧ (0 ≤ x.Start ∧ x.Start ≤ 1799) ∧ zq18 t x = some (ev t x) ∧ zq106 t (i : Int) = some (ev t x) := by
 obtain ⟨l, hl, hp, _, hs, h1, h2⟩ := yaeo hg hx
 have e1 := yalq hg.1 hl hs
 have e2 := yali hg.1 hx hl hs
 have e3 : ev t x = x.Start + l.Runs.sum := by unfold ev; rw [e1]; rfl
 obtain ⟨⟨a1, a2, a3⟩, a4⟩ := yabp hp
 have hpos : 1 ≤ l.Runs.sum := by
  cases hr : l.Runs with
  | nil => rw [hr] at a2; simp at a2
  | cons r rs =>
   rw [hr] at a4
   have q1 := a4 r (by simp)
   have q2 := sum_nonneg (l := rs) fun z hz => by have := a4 z (by simp [hz]); omega
   rw [List.sum_cons]; omega
 rw [e3]
 exact ⟨⟨by omega, h2⟩, hs, e1, e2⟩
def Fol (t : Timetable) (f : Fleet) (x y : Trip) : Prop := ev t x + f.Turn + dv t f x y ≤ y.Start
noncomputable instance (t : Timetable) (f : Fleet) (x y : Trip) : Decidable (Fol t f x y) := Classical.propDecidable _
theorem yayp {t : Timetable} {f : Fleet} (h : AskF t f) {i k : Nat} {x y : Trip} (hx : t.Trips[i]? = some x) (hy : t.Trips[k]? = some y) (hf : Fol t f x y) : x.Start < y.Start := by
 have h1 := (yacc h hx hy).1
 have h2 := yacu h.1 hx
 have h3 := h.2.2.1
 unfold Fol at hf; omega
theorem yacd {t : Timetable} {f : Fleet} (h : AskF t f) {i k : Nat} {x y : Trip} (hx : t.Trips[i]? = some x) (hy : t.Trips[k]? = some y) : zq16 t f x y = some (decide (Fol t f x y)) ∧ zq51 t f (i : Int) (k : Int) = some (decide (Fol t f x y)) := by
 obtain ⟨h1, h2, h3⟩ := yacc h hx hy
 obtain ⟨g1, g2, g3, g4⟩ := yacu h.1 hx
 have hT := h.2.2.1
 have w1 : w64 (w64 (ev t x + f.Turn) + dv t f x y) = ev t x + f.Turn + dv t f x y := by rw [w64_id (x := ev t x + f.Turn) (by omega), w64_id (by omega)]
 refine ⟨?_, ?_⟩
 ·unfold zq16
  rw [g3, h2]
  simp only [Option.bind_some, w1]; exact congrArg some (decide_eq_decide.2 Iff.rfl)
 ·unfold zq51
  by_cases hik : i = k
  ·subst hik
   rw [hx] at hy; cases hy
   have : ¬ Fol t f x x := fun hf => by have := yayp h hx hx hf; omega
   simp [this]
  ·have hb : ((i : Int) != (k : Int)) = true := by simp; omega
   simp only [hb, if_true, idx_nat, hy, g4, h3, Option.bind_some, w1]; exact congrArg some (decide_eq_decide.2 Iff.rfl)
theorem or64 {u a : Nat} (hu : u < 4096) (ha : a < 4096) : IntKind.i64.wrap (((BitVec.ofInt (IntKind.i64).bits (u : Int) ||| BitVec.ofInt (IntKind.i64).bits (a : Int)).toNat : Nat) : Int) = ((u ||| a : Nat) : Int) := by
 have h1 : (BitVec.ofInt (IntKind.i64).bits (u : Int)).toNat = u := by
  rw [BitVec.ofInt_natCast, BitVec.toNat_ofNat]
  exact Nat.mod_eq_of_lt (by show u < 2 ^ 64; omega)
 have h2 : (BitVec.ofInt (IntKind.i64).bits (a : Int)).toNat = a := by
  rw [BitVec.ofInt_natCast, BitVec.toNat_ofNat]
  exact Nat.mod_eq_of_lt (by show a < 2 ^ 64; omega)
 rw [BitVec.toNat_or, h1, h2]
 have h3 : u ||| a < 2 ^ 12 := Nat.or_lt_two_pow (by omega) (by omega)
 exact w64_id (x := ((u ||| a : Nat) : Int)) (by omega)
theorem yayd {n q : Nat} (hc : ((n - q : Nat) : Int) < (n : Int)) (hq : q ≤ n) (hn : n ≤ 1000000) : w64 (((n - q : Nat) : Int) + 1) = ((n - (q - 1) : Nat) : Int) := by
 rw [w64_id (by omega)]; omega
theorem yaug {n : Nat} (hn : n ≤ 9) {v : Int} (hv : v = -1 ∨ (0 ≤ v ∧ v < n)) : ∃ s : Nat, w64 (1 * 2 ^ (min ((IntKind.u64.wrap v) : Int).toNat (IntKind.i64).bits)) = (s : Int) ∧ s < 2 ^ n := by
 rcases hv with rfl | ⟨h0, h1⟩
 ·refine ⟨0, ?_, Nat.two_pow_pos n⟩
  kernel_rfl
 ·have e : IntKind.u64.wrap v = v := Int.emod_eq_of_lt h0 (by show v < (18446744073709551616 : Int); omega)
  rw [e]
  have hmin : min v.toNat (IntKind.i64).bits = v.toNat := Nat.min_eq_left (by show v.toNat ≤ 64; omega)
  rw [hmin]
  have hlt : 2 ^ v.toNat < 2 ^ n := Nat.pow_lt_pow_right (by omega) (by omega)
  have h9 : 2 ^ n ≤ 2 ^ 9 := Nat.pow_le_pow_right (by omega) hn
  refine ⟨2 ^ v.toNat, ?_, hlt⟩
  have e2 : (1 : Int) * 2 ^ v.toNat = ((2 ^ v.toNat : Nat) : Int) := by rw [Int.one_mul, Int.natCast_pow]; rfl
  rw [e2]
  generalize 2 ^ v.toNat = p at hlt ⊢
  generalize 2 ^ n = q at hlt h9
  exact w64_id (by omega)
theorem yaiz (v : Int) : (0 : Int) ≤ IntKind.u64.wrap v := (u64_rng v).1
def KS (n : Nat) (kn : List (List Int)) : Prop := kn.length = n ∧ ∀ row ∈ kn, row.length = 2 ^ n
theorem ybat {n : Nat} {kn : List (List Int)} (h : KS n kn) {i : Nat} {row : List Int} (hr : row.length = 2 ^ n) : KS n (kn.set i row) := by
 refine ⟨by rw [List.length_set]; exact h.1, fun r hm => ?_⟩
 rcases List.mem_or_eq_of_mem_set hm with hm | rfl
 ·exact h.2 r hm
 ·exact hr
theorem yaky {n : Nat} (hn : n ≤ 9) {u : Int} (hu : 0 ≤ u ∧ u < (2 ^ n : Nat)) {s : Nat} (hs : s < 2 ^ n) : 0 ≤ IntKind.i64.wrap (((BitVec.ofInt (IntKind.i64).bits u ||| BitVec.ofInt (IntKind.i64).bits (s : Int)).toNat : Nat) : Int) ∧ IntKind.i64.wrap (((BitVec.ofInt (IntKind.i64).bits u ||| BitVec.ofInt (IntKind.i64).bits (s : Int)).toNat : Nat) : Int) < (2 ^ n : Nat) := by
 have h9 : 2 ^ n ≤ 2 ^ 9 := Nat.pow_le_pow_right (by omega) hn
 obtain ⟨m, rfl⟩ : ∃ m : Nat, u = (m : Int) := ⟨u.toNat, by omega⟩
 rw [or64 (by omega) (by omega)]
 have := Nat.or_lt_two_pow (x := m) (y := s) (n := n) (by omega) hs
 omega
theorem yals {t : Timetable} {f : Fleet} (h : AskF t f) (h9 : t.Trips.length ≤ 9) : ∀ (m N : Nat) (kn : List (List Int)) (i : Nat) (u : Int), m + i = t.Trips.length → m < N → KS t.Trips.length kn → (0 ≤ u ∧ u < (2 ^ t.Trips.length : Nat)) →
  Tot (yaju N ⟨t, f, kn⟩ (i : Int) u) fun r => KS t.Trips.length r.2
 | m, 0, kn, i, u, _, hN, _, _ => by omega
 | m, N + 1, kn, i, u, hm, hN, hk, hu => by
  show Tot (yafj (yaju N) ⟨t, f, kn⟩ (i : Int) u) _
  unfold yafj
  by_cases hi : i = t.Trips.length
  ·have hb : ((i : Int) == (t.Trips.length : Int)) = true := by simp; omega
   simp only [hb, if_true]
   exact .ok hk
  ·have hb : ((i : Int) == (t.Trips.length : Int)) = false := by simp; omega
   simp only [hb, Bool.false_eq_true, if_false]
   have getr : ∀ {kn : List (List Int)}, KS t.Trips.length kn → ∃ row, kn[i]? = some row ∧ row.length = 2 ^ t.Trips.length := fun {kn} hk => by
    obtain ⟨row, hr⟩ := get_ex (l := kn) (i := i) (by rw [hk.1]; omega)
    exact ⟨row, hr, hk.2 row (List.mem_of_getElem? hr)⟩
   obtain ⟨row, hr, hrl⟩ := getr hk
   have hw : w64 ((i : Int) + 1) = ((i + 1 : Nat) : Int) := w64_succ (by omega)
   refine .eq (ixs hr) (.idx hu.1 (by omega) fun e1 he1 => .iteP (fun _ => .eq (ixs hr) (.idx hu.1 (by omega) fun e3 _ => .ok hk)) fun _ => ?_)
   rw [hw]
   refine .call (yals h h9 (m - 1) N kn (i + 1) u (by omega) (by omega) hk hu) fun r hr1 => ?_
   refine .call (P := fun o => KS t.Trips.length o.2) ?_ fun o ho => ?_
   ·refine .iter (fun q s => s.2.1 = ((t.Trips.length - q : Nat) : Int) ∧ q ≤ t.Trips.length ∧ KS t.Trips.length s.2.2) (n := t.Trips.length) ⟨by simp, Nat.le_refl _, hr1⟩ ?_
    rintro q ⟨v, v1, v2⟩ ⟨hv, hq, hkv⟩
    simp only at hv hkv
    subst hv
    unfold yajv
    refine .iteP (fun hc => ?_) (fun hc => .dn hkv)
    have hq0 : 0 < q := by simp only at hc; omega
    obtain ⟨x, hx⟩ := get_ex (l := t.Trips) (i := t.Trips.length - q) (by omega)
    obtain ⟨y, hy⟩ := get_ex (l := t.Trips) (i := i) (by omega)
    have hfo := (yacd h hx hy).2
    have hde := (yacc h hx hy).2.2
    obtain ⟨s, hs1, hs2⟩ := yaug (n := t.Trips.length) h9 (v := ((t.Trips.length - q : Nat) : Int)) (.inr ⟨by omega, by omega⟩)
    refine .call (P := fun o => KS t.Trips.length o.2) (.chk (yaiz _) (.call (P := fun _ => True) (.ite (fun _ => .eq hfo (.ok trivial)) fun _ => .ok trivial) fun v5 _ => .ite (fun _ => ?_) fun _ => .ok hkv)) fun o ho => .nx ⟨q - 1, by omega, ?_, by omega, ho⟩
    ·refine .eq hde (.chk (yaiz _) ?_)
     rw [hs1, hw]
     refine .call (yals h h9 (m - 1) N v2 (i + 1) _ (by omega) (by omega) hkv (yaky h9 hu hs2)) fun r7 h7 => ?_
     unfold zq87
     exact .call (P := fun _ => True) (.iteP (fun _ => .ok trivial) fun _ => .ok trivial) fun _ _ => .ok h7
    ·show w64 (((t.Trips.length - q : Nat) : Int) + 1) = _
     rw [w64_id (by omega)]; omega
   ·obtain ⟨v6, v7⟩ := o
    obtain ⟨row', hr', hrl'⟩ := getr ho
    refine .eq (ixs hr') (.idx hu.1 (by omega) fun e5 _ => .ok (ybat ho (by rw [List.length_set]; exact hrl')))
theorem yafw {t : Timetable} {f : Fleet} (h : AskF t f) (h9 : t.Trips.length ≤ 9) {kn : List (List Int)} {i : Nat} {u : Int} (hi : i ≤ t.Trips.length) (hk : KS t.Trips.length kn) (hu : 0 ≤ u ∧ u < (2 ^ t.Trips.length : Nat)) : Tot (zq53 ⟨t, f, kn⟩ (i : Int) u) fun r => KS t.Trips.length r.2 := by
 unfold zq53
 exact yals h h9 (t.Trips.length - i) _ kn i u (by omega) (by omega) hk hu
def BeP (t : Timetable) (f : Fleet) (before : List Int) : Prop := before.length = t.Trips.length ∧ ∀ (i : Nat) b, before[i]? = some b → b = -1 ∨ ∃ (k : Nat) (x y : Trip), b = (k : Int) ∧ t.Trips[k]? = some x ∧ t.Trips[i]? = some y ∧ Fol t f x y
theorem yaqi {t : Timetable} {f : Fleet} (h : AskF t f) (h9 : t.Trips.length ≤ 9) : Tot (zq46 t f) (BeP t f) := by
 have hp9 : 2 ^ t.Trips.length ≤ 2 ^ 9 := Nat.pow_le_pow_right (by omega) h9
 have hpp := Nat.two_pow_pos t.Trips.length
 unfold zq46
 have hsz : w64 (1 * 2 ^ (min ((IntKind.u64.wrap (t.Trips.length : Int)) : Int).toNat (IntKind.i64).bits)) = ((2 ^ t.Trips.length : Nat) : Int) := by
  have e : IntKind.u64.wrap (t.Trips.length : Int) = (t.Trips.length : Int) := Int.emod_eq_of_lt (by omega) (by show (t.Trips.length : Int) < (18446744073709551616 : Int); omega)
  rw [e]
  have hmin : min ((t.Trips.length : Int)).toNat (IntKind.i64).bits = t.Trips.length := by rw [Int.toNat_natCast]; exact Nat.min_eq_left (by show t.Trips.length ≤ 64; omega)
  rw [hmin]
  have e2 : (1 : Int) * 2 ^ t.Trips.length = ((2 ^ t.Trips.length : Nat) : Int) := by rw [Int.one_mul, Int.natCast_pow]; rfl
  rw [e2]
  generalize 2 ^ t.Trips.length = p at hp9 ⊢
  exact w64_id (by omega)
 refine .call (P := KS t.Trips.length) ?_ fun v1 hv1 => .call (P := BeP t f) ?_ fun o ho => .ok ho
 ·refine .iter (fun q s => s.1 = ((t.Trips.length - q : Nat) : Int) ∧ q ≤ t.Trips.length ∧ s.2.length = t.Trips.length - q ∧ ∀ row ∈ s.2, row.length = 2 ^ t.Trips.length) (n := t.Trips.length) ⟨by simp, Nat.le_refl _, by simp, by simp⟩ ?_
  rintro q ⟨k, v⟩ ⟨hk, hq, hl, hr⟩
  simp only at hk hl hr
  subst hk
  unfold yakb
  refine .iteP (fun hc => ?_) (fun hc => .dn ⟨by omega, hr⟩)
  rw [hsz]
  refine .chk (yaiz _) (.chk ⟨by omega, by omega⟩ (.call (P := fun o => o.length = 2 ^ t.Trips.length) ?_ fun o ho => .chk (by simp; omega) (.nx ⟨q - 1, by omega, ?_, by omega, ?_, fun row hm => ?_⟩)))
  ·refine .iter (fun q s => s.1 = ((2 ^ t.Trips.length - q : Nat) : Int) ∧ q ≤ 2 ^ t.Trips.length ∧ s.2.length = 2 ^ t.Trips.length) (n := 2 ^ t.Trips.length) ⟨by simp, Nat.le_refl _, by show (List.replicate _ _).length = _; rw [List.length_replicate, Int.toNat_natCast]⟩ ?_
   rintro q ⟨k, o⟩ ⟨hk, hq, hl⟩
   simp only at hk hl
   subst hk
   unfold yakc
   refine .iteP (fun hc => .idx (by omega) hc fun e _ => .nx ⟨q - 1, by omega, ?_, by omega, by rw [List.length_set]; exact hl⟩) (fun hc => .dn hl)
   show w64 (((2 ^ t.Trips.length - q : Nat) : Int) + 1) = _
   rw [w64_id (by omega)]; omega
  ·show w64 (((t.Trips.length - q : Nat) : Int) + 1) = _
   rw [w64_id (by omega)]; omega
  ·simp; omega
  ·rcases List.mem_append.1 hm with hm | hm
   ·exact hr row hm
   ·rw [List.mem_singleton.1 hm]; exact ho
 ·refine .iter (fun q (s : Int × Int × List Int × List (List Int)) => s.2.1 = ((t.Trips.length - q : Nat) : Int) ∧ q ≤ t.Trips.length ∧ s.2.2.1.length = t.Trips.length - q ∧ (0 ≤ s.1 ∧ s.1 < (2 ^ t.Trips.length : Nat)) ∧ KS t.Trips.length s.2.2.2 ∧ ∀ (i : Nat) b, s.2.2.1[i]? = some b → b = -1 ∨ ∃ (k : Nat) (x y : Trip), b = (k : Int) ∧ t.Trips[k]? = some x ∧ t.Trips[i]? = some y ∧ Fol t f x y) (n := t.Trips.length) ⟨by simp, Nat.le_refl _, by simp, ⟨Int.le_refl 0, Int.ofNat_lt.2 hpp⟩, hv1, by simp⟩ ?_
  rintro q ⟨want, before, i, v2⟩ ⟨hb, hq, hl, hu, hk, hB⟩
  simp only at hb hl hu hk hB
  subst hb
  unfold yajz
  refine .iteP (fun hc => ?_) (fun hc => .dn ⟨by omega, hB⟩)
  have hw : w64 (((t.Trips.length - q : Nat) : Int) + 1) = ((t.Trips.length - q + 1 : Nat) : Int) := w64_succ (by omega)
  obtain ⟨y, hy⟩ := get_ex (l := t.Trips) (i := t.Trips.length - q) (by omega)
  refine .call (yafw h h9 (by omega) hk hu) fun r hr => .call (P := fun (o : Int × Int × List (List Int)) => (0 ≤ o.1 ∧ o.1 < (2 ^ t.Trips.length : Nat)) ∧ KS t.Trips.length o.2.2 ∧ (o.2.1 = -1 ∨ ∃ (k : Nat) (x : Trip), o.2.1 = (k : Int) ∧ t.Trips[k]? = some x ∧ Fol t f x y)) ?_ fun ⟨want1, v3, v4⟩ hh => .chk (by clear hh; simp; omega) (.nx ⟨q - 1, by clear hh; omega, ?_, by clear hh; omega, ?_, hh.1, hh.2.1, fun j b hj => ?_⟩)
  ·rw [hw]
   refine .call (yafw h h9 (by omega) hr hu) fun r1 hr1 => .ite (fun _ => ?_) fun _ => .ok ⟨hu, hr1, .inl rfl⟩
   refine .call (P := fun o => KS t.Trips.length o.2 ∧ (o.1 = -1 ∨ ∃ (k : Nat) (x : Trip), o.1 = (k : Int) ∧ t.Trips[k]? = some x ∧ Fol t f x y)) ?_ fun ⟨v13, v14⟩ ⟨g1, g2⟩ => .chk (yaiz _) (.ok ?_)
   ·refine .iter (fun p s => s.2.1 = ((t.Trips.length - p : Nat) : Int) ∧ p ≤ t.Trips.length ∧ KS t.Trips.length s.2.2 ∧ (s.1 = -1 ∨ ∃ (k : Nat) (x : Trip), s.1 = (k : Int) ∧ t.Trips[k]? = some x ∧ Fol t f x y)) (n := t.Trips.length) ⟨by simp, Nat.le_refl _, hr1, .inl rfl⟩ ?_
    rintro p ⟨v5, v6, v7⟩ ⟨hv, hp, hkv, hok⟩
    simp only at hv hkv hok
    subst hv
    unfold yaka
    refine .call (P := fun b => b = true → 0 < p) (.iteP (fun hc => .ok fun _ => by omega) fun _ => .ok fun h => by cases h) fun b hb => .ite (fun hbt => ?_) fun _ => .dn ⟨hkv, hok⟩
    have hp0 := hb hbt
    obtain ⟨x, hx⟩ := get_ex (l := t.Trips) (i := t.Trips.length - p) (by omega)
    have hfo := (yacd h hx hy).2
    have hde := (yacc h hx hy).2.2
    obtain ⟨s, hs1, hs2⟩ := yaug (n := t.Trips.length) h9 (v := ((t.Trips.length - p : Nat) : Int)) (.inr ⟨by omega, by omega⟩)
    refine .call (P := fun o => KS t.Trips.length o.2 ∧ (o.1 = -1 ∨ ∃ (k : Nat) (x : Trip), o.1 = (k : Int) ∧ t.Trips[k]? = some x ∧ Fol t f x y)) (.chk (yaiz _) (.call (P := fun o => KS t.Trips.length o.2 ∧ (o.1 = true → Fol t f x y)) ?_ fun ⟨v11, v12⟩ ⟨a1, a2⟩ => .ite (fun ht => .ok ⟨a1, .inr ⟨_, x, rfl, hx, a2 ht⟩⟩) fun _ => .ok ⟨a1, hok⟩)) fun ⟨v9, v10⟩ ⟨b1, b2⟩ => .nx ⟨p - 1, by omega, ?_, by omega, b1, b2⟩
    ·refine .ite (fun _ => .eq hfo (.iteP (fun hF => .eq hde (.chk (yaiz _) ?_)) fun _ => .ok ⟨hkv, fun h => by cases h⟩)) fun _ => .ok ⟨hkv, fun h => by cases h⟩
     rw [hs1, hw]
     exact .call (yafw h h9 (by omega) hkv (yaky h9 hu hs2)) fun r4 h4 => .ok ⟨h4, fun _ => hF⟩
    ·show w64 (((t.Trips.length - p : Nat) : Int) + 1) = _
     rw [w64_id (by omega)]; omega
   ·obtain ⟨s, hs1, hs2⟩ := yaug (n := t.Trips.length) h9 (v := v13) (by
     rcases g2 with g2 | ⟨k, x, g2, hx, _⟩
     ·exact .inl g2
     ·have := get_lt hx
      exact .inr ⟨by simp only at g2; omega, by simp only at g2; omega⟩)
    dsimp only
    rw [hs1]
    exact ⟨yaky h9 hu hs2, g1, g2⟩
  ·exact yayd hc hq (by clear hh; omega)
  ·clear hh
   show (i ++ [v3]).length = _
   simp; omega
  ·have h3 := hh.2.2
   clear hh
   simp only at h3
   have hj : (i ++ [v3])[j]? = some b := hj
   rcases Nat.lt_or_ge j i.length with hji | hji
   ·rw [List.getElem?_append_left hji] at hj
    exact hB j b hj
   ·rw [List.getElem?_append_right hji] at hj
    have := get_lt hj
    simp only [List.length_singleton] at this
    have hj0 : j = t.Trips.length - q := by omega
    subst hj0
    rw [show t.Trips.length - q - i.length = 0 by omega] at hj
    simp only [List.getElem?_cons_zero, Option.some.injEq] at hj
    subst hj
    rcases h3 with h3 | ⟨k, x, h3, hx, hF⟩
    ·exact .inl h3
    ·exact .inr ⟨k, x, y, h3, hx, hy, hF⟩
theorem yaqh (before : List Int) (hl : before.length ≤ 9) (k : Int) : Tot (iter (yagu before k) (((-1) : Int), (0 : Int))) fun v => v = -1 ∨ ∃ j : Nat, v = (j : Int) ∧ before[j]? = some k := by
 refine .iter (fun q s => s.2 = ((before.length - q : Nat) : Int) ∧ q ≤ before.length ∧ (s.1 = -1 ∨ ∃ j : Nat, s.1 = (j : Int) ∧ before[j]? = some k)) (n := before.length) ⟨by simp, Nat.le_refl _, .inl rfl⟩ ?_
 rintro q ⟨v, v1⟩ ⟨hv, hq, hok⟩
 simp only at hv hok
 subst hv
 unfold yagu
 refine .iteP (fun hc => ?_) (fun hc => .dn hok)
 obtain ⟨b, hb⟩ := get_ex (l := before) (i := before.length - q) (by omega)
 refine .call (P := fun v => v = -1 ∨ ∃ j : Nat, v = (j : Int) ∧ before[j]? = some k) (.eq (ixs hb) (.ite (fun he => .ok (.inr ⟨_, rfl, by rw [hb]; simpa using he⟩)) fun _ => .ok hok)) fun v2 h2 => .nx ⟨q - 1, by omega, ?_, by omega, h2⟩
 exact yayd hc hq (by omega)
theorem yaqg {t : Timetable} {f : Fleet} (h : AskF t f) (h9 : t.Trips.length ≤ 9) {before : List Int} (hB : BeP t f before) {i : Nat} (hi : i < before.length) : Tot (iter (yagt t before) ((i : Int), ([] : List Int))) fun b => 1 ≤ b.length ∧ b.length ≤ 1801 := by
 refine .iter (fun q s => s.2.length + q ≤ 1801 ∧ ((s.1 = -1 ∧ 1 ≤ s.2.length) ∨ ∃ (k : Nat) (x : Trip), s.1 = (k : Int) ∧ t.Trips[k]? = some x ∧ 1800 - x.Start ≤ (q : Int))) (n := 1801) ⟨by simp, .inr ?_⟩ ?_
 ·obtain ⟨x, hx⟩ := get_ex (l := t.Trips) (i := i) (by rw [← hB.1]; exact hi)
  have := (yacu h.1 hx).2.1
  exact ⟨i, x, rfl, hx, by omega⟩
 ·rintro q ⟨k, next⟩ ⟨hl, hk⟩
  simp only at hl hk
  unfold yagt
  refine .iteP (fun hc => ?_) (fun hc => .dn ?_)
  ·rcases hk with ⟨hk, _⟩ | ⟨j, x, hk, hx, hs⟩
   ·omega
   ·subst hk
    have hst := (yacu h.1 hx).2.1
    refine .eq (ixs hx) (.chk (by simp; omega) (.call (yaqh before (by rw [hB.1]; exact h9) (j : Int)) fun v3 h3 => .nx ⟨q - 1, by omega, by simp; omega, ?_⟩))
    rcases h3 with h3 | ⟨j', h3, hb⟩
    ·exact .inl ⟨h3, by simp⟩
    ·right
     rcases hB.2 j' _ hb with hb | ⟨k', x', y, e1, e2, e3, hF⟩
     ·omega
     ·have : k' = j := by omega
      subst this
      rw [hx] at e2; cases e2
      have := yayp h hx e3 hF
      exact ⟨j', y, h3, e3, by omega⟩
  ·rcases hk with ⟨_, hk⟩ | ⟨j, x, hk, _, _⟩
   ·exact ⟨hk, by omega⟩
   ·omega
theorem yaqf {t : Timetable} {f : Fleet} (h : AskF t f) (h9 : t.Trips.length ≤ 9) {before : List Int} (hB : BeP t f before) : Tot (zq48 t before) fun B => B.length ≤ 9 ∧ ∀ b ∈ B, 1 ≤ b.length ∧ b.length ≤ 1801 := by
 have hbl := hB.1
 unfold zq48
 refine .call (P := fun B => B.length ≤ 9 ∧ ∀ b ∈ B, 1 ≤ b.length ∧ b.length ≤ 1801) ?_ fun B hB => .ok hB
 refine .iter (fun q s => s.1 = ((before.length - q : Nat) : Int) ∧ q ≤ before.length ∧ s.2.length + q ≤ 9 ∧ ∀ b ∈ s.2, 1 ≤ b.length ∧ b.length ≤ 1801) (n := before.length) ⟨by simp, Nat.le_refl _, by simp; omega, by simp⟩ ?_
 rintro q ⟨v, B⟩ ⟨hv, hq, hl, hb⟩
 simp only at hv hl hb
 subst hv
 unfold yajy
 refine .iteP (fun hc => ?_) (fun hc => .dn ⟨by omega, hb⟩)
 obtain ⟨e, he⟩ := get_ex (l := before) (i := before.length - q) (by omega)
 refine .call (P := fun B' => B'.length + (q - 1) ≤ 9 ∧ ∀ b ∈ B', 1 ≤ b.length ∧ b.length ≤ 1801) (.eq (ixs he) (.iteP (fun _ => .ok ⟨by omega, hb⟩) fun _ => .call (yaqg h h9 hB (by omega)) fun b hb' => .chk (by simp; omega) (.ok ⟨by simp; omega, fun x hx => ?_⟩))) fun B' hB' => .nx ⟨q - 1, by omega, ?_, by omega, hB'⟩
 ·rcases List.mem_append.1 hx with hx | hx
  ·exact hb x hx
  ·rw [List.mem_singleton.1 hx]; exact hb'
 ·show w64 (((before.length - q : Nat) : Int) + 1) = _
  rw [w64_id (by omega)]; omega
def Pc {α : Type} (m : Option α) (Q : α → Prop) : Prop := ∀ r, m = some r → Q r
theorem Pc.call {α β : Type} {m : Option α} {P : α → Prop} {k : α → Option β} {Q : β → Prop} (h : Tot m P) (hk : ∀ x, P x → Pc (k x) Q) : Pc (m.bind k) Q := by
 obtain ⟨x, hx, hp⟩ := h
 subst hx
 exact hk x hp
theorem Pc.any {α β : Type} {m : Option α} {k : α → Option β} {Q : β → Prop} (hk : ∀ x, Pc (k x) Q) : Pc (m.bind k) Q := by
 intro r hr
 obtain ⟨x, _, hx⟩ := obind hr
 exact hk x r hx
theorem Pc.bind {α β : Type} {m : Option α} {k : α → Option β} {P : α → Prop} {Q : β → Prop} (h : Pc m P) (hk : ∀ x, P x → Pc (k x) Q) : Pc (m.bind k) Q := by
 intro r hr
 obtain ⟨x, hm, hx⟩ := obind hr
 exact hk x (h x hm) r hx
theorem Pc.ok {α : Type} {a : α} {Q : α → Prop} (h : Q a) : Pc (some a) Q := by intro r hr; cases hr; exact h
theorem Pc.ite {α : Type} {c : Bool} {a b : Option α} {Q : α → Prop} (h1 : Pc a Q) (h2 : Pc b Q) : Pc (if c = true then a else b) Q := by
 cases c
 ·exact h2
 ·exact h1
theorem Pc.flb {R V : Type} {m : Option (Fl R V)} {k : V → Option R} {Q : R → Prop} (h : Pc m fun v => (∀ r, v = .ret r → Q r) ∧ ∀ u, v = .go u → Pc (k u) Q) : Pc (Ab.flb m k) Q := by
 intro r hr
 obtain ⟨v, hv, h2⟩ := obind hr
 have := h v hv
 cases v with
 | ret r' => cases h2; exact this.1 _ rfl
 | go u => exact this.2 u rfl r h2
theorem Pc.go {R V : Type} {u : V} {Q : R → Prop} {P : V → Prop} (h : P u) : Pc (some (Fl.go u : Fl R V)) fun v => (∀ r, v = .ret r → Q r) ∧ ∀ u, v = .go u → P u := Pc.ok ⟨fun r h => (by cases h), fun u' h => by cases h; assumption⟩
theorem Pc.ret {R V : Type} {r : R} {Q : R → Prop} {P : V → Prop} (h : Q r) : Pc (some (Fl.ret r : Fl R V)) fun v => (∀ r, v = .ret r → Q r) ∧ ∀ u, v = .go u → P u := Pc.ok ⟨fun r' h => by cases h; assumption, fun u h => by cases h⟩
theorem Tot.pc {α : Type} {m : Option α} {P Q : α → Prop} (h : Tot m P) (hq : Pc m Q) : Tot m fun r => P r ∧ Q r := by
 obtain ⟨x, hx, hp⟩ := h
 exact ⟨x, hx, hp, hq x hx⟩
theorem yaqj {k : Nat} {c : l1Cur} (h : Cur k c) (hk : k ≤ 200000000) : Pc (zq67 c) fun r => 2 ≤ r.1.Stops.length := by
 unfold zq67
 refine .call (yabo h (by omega)) fun r ⟨_, hn⟩ => .any fun r1 => .any fun e => .flb ?_
 have h2 := hn.1.1
 have fin : ∀ (v : List UInt8) (v1 v2 : Int) (v3 : ByteArray) (v4 : List ByteArray) (v5 : List Line) (v6 : List Int), 2 ≤ v4.length → Pc ((idx v5 r1.1).bind fun e9 => some ((⟨v4, (v5.set r1.1.toNat (⟨v3, e9.Stops, v6⟩ : Line))⟩ : Network), (⟨v, v1, (⟨v2⟩ : IK .u64)⟩ : l1Cur))) fun r => 2 ≤ r.1.Stops.length := fun v v1 v2 v3 v4 v5 v6 hv => .any fun e9 => .ok hv
 refine .any fun r2 => .ite (.any fun r4 => .any fun e2 => .go (fin _ _ _ _ _ _ _ (by rw [List.length_set]; exact h2))) (.ite (.any fun r5 => .go (fin _ _ _ _ _ _ _ h2)) (.ite (.any fun r8 => .any fun r9 => .any fun e4 => .go (fin _ _ _ _ _ _ _ h2)) (.ite (.any fun r12 => .any fun r13 => .any fun e6 => .go (fin _ _ _ _ _ _ _ h2)) (.ite (.any fun u => .go (fin _ _ _ _ _ _ _ h2)) (.ite (.ret h2) (.ite (.any fun ⟨v13, v14, v15, v16⟩ => .ret h2) (.go (fin _ _ _ _ _ _ _ h2))))))))
theorem yalt {k : Nat} {c : l1Cur} (h : Cur k c) (hk : k ≤ 50000000) : Pc (zq68 c) fun r => 2 ≤ r.1.Network.Stops.length := by
 unfold zq68
 refine .call (yacq h (by omega)) fun r ⟨hc, _, hn, hl⟩ => ?_
 have h2 := hn.1.1
 refine .ite (.ok h2) (.call (yabb _ hc (by omega)) fun r1 ⟨hc1, _⟩ => .any fun e => .flb (.call (yabb 24 hc1 (by omega)) fun r2 ⟨hc2, _⟩ => ?_))
 have fin : ∀ (v : List UInt8) (v1 v2 : Int) (v3 : List Line) (v4 v5 v6 : Int) (v7 : List ByteArray), 2 ≤ v7.length → Pc ((idx r.1.Trips r1.1).bind fun e2 => some ((⟨(⟨v7, v3⟩ : Network), (r.1.Trips.set r1.1.toNat (⟨v4, v5, v6⟩ : Trip))⟩ : Timetable), (⟨v, v1, (⟨v2⟩ : IK .u64)⟩ : l1Cur))) fun r => 2 ≤ r.1.Network.Stops.length := fun v v1 v2 v3 v4 v5 v6 v7 hv => .any fun e9 => .ok hv
 refine .ite (.any fun r3 => .go (fin _ _ _ _ _ _ _ _ h2)) (.ite (.any fun r4 => .go (fin _ _ _ _ _ _ _ _ h2)) (.ite (.any fun r5 => .go (fin _ _ _ _ _ _ _ _ h2)) (.ite (.bind (yaqj hc2 (by omega)) fun r6 h6 => .go (fin _ _ _ _ _ _ _ _ h6)) (.ite (.any fun ⟨v14, v15, v16, v17⟩ => .ret h2) (.go (fin _ _ _ _ _ _ _ _ h2))))))
theorem yatt {k : Nat} {c : l1Cur} (h : Cur k c) (hk : k ≤ 40000000) : Pc (zq84 c) fun r => 2 ≤ r.1.Network.Stops.length := by
 unfold zq84
 refine .call (yalf 16 h (by omega)) fun r hc => .ite (.bind (yalt hc (by omega)) fun r1 h1 => .ok h1) (.call (yalg hc (by omega)) fun r2 ⟨_, hn⟩ => .any fun r3 => .any fun ⟨v4, v5, v6, v7⟩ => .any fun v9 => .ok hn.1.1)
theorem yaue {k : Nat} {c : l1Cur} {n : Network} (h : Cur k c) (hk : k ≤ 30000000) (hn : 2 ≤ n.Stops.length ∧ n.Stops.length ≤ 1000) : Tot (zq69 c n) fun r => Cur (k + 3000000) r.2 ∧ FB r.1 := by
 unfold zq69
 refine .call (yafr _ (by simp) h (by omega)) fun r ⟨hc, _⟩ => ?_
 refine .call (P := fun o => Cur (k + 2 + 2000 * n.Stops.length) ⟨o.1, o.2.1, ⟨o.2.2.1⟩⟩ ∧ o.2.2.2.length = n.Stops.length ∧ ∀ row ∈ o.2.2.2, row.length = n.Stops.length) ?_ fun ⟨v13, v14, v15, v16⟩ ⟨hc1, hl, hr⟩ => ?_
 ·refine .iter (fun q s => s.1 = ((n.Stops.length - q : Nat) : Int) ∧ q ≤ n.Stops.length ∧ s.2.2.2.2.length = n.Stops.length - q ∧ (∀ row ∈ s.2.2.2.2, row.length = n.Stops.length) ∧ Cur (k + 2 + 2000 * (n.Stops.length - q)) ⟨s.2.1, s.2.2.1, ⟨s.2.2.2.1⟩⟩) (n := n.Stops.length) ⟨by simp, Nat.le_refl _, by simp, by simp, hc.mono (by omega)⟩ ?_
  rintro q ⟨v, w1, w2, w3, w4⟩ ⟨hv, hq, hl, hr, hcur⟩
  simp only at hv hl hr hcur
  subst hv
  unfold yajq
  refine .iteP (fun hcc => ?_) (fun hcc => .dn ⟨hcur.mono (by omega), by simp only; omega, hr⟩)
  have hq0 : 0 < q := by omega
  refine .call (P := fun o => Cur (k + 2 + 2000 * (n.Stops.length - q) + 2 * n.Stops.length) ⟨o.1, o.2.1, ⟨o.2.2.1⟩⟩ ∧ o.2.2.2.length = n.Stops.length) ?_ fun ⟨v9, v10, v11, v12⟩ ⟨hc2, hl2⟩ => .chk (by simp; omega) (.nx ⟨q - 1, by omega, ?_, by omega, ?_, fun row hm => ?_, hc2.mono (by omega)⟩)
  ·refine .iter (fun p s => s.1 = ((n.Stops.length - p : Nat) : Int) ∧ p ≤ n.Stops.length ∧ s.2.2.2.2.length = n.Stops.length - p ∧ Cur (k + 2 + 2000 * (n.Stops.length - q) + 2 * (n.Stops.length - p)) ⟨s.2.1, s.2.2.1, ⟨s.2.2.2.1⟩⟩) (n := n.Stops.length) ⟨by simp, Nat.le_refl _, by simp, hcur.mono (by omega)⟩ ?_
   rintro p ⟨v, x1, x2, x3, x4⟩ ⟨hv, hp, hl, hcur⟩
   simp only at hv hl hcur
   subst hv
   unfold yajr
   refine .iteP (fun hcc => ?_) (fun hcc => .dn ⟨hcur.mono (by omega), by simp only; omega⟩)
   have hp0 : 0 < p := by omega
   refine .call (P := fun _ => True) (by unfold zq88; exact .iteP (fun _ => .ok trivial) fun _ => .ok trivial) fun r1 _ => .call (yacr 4 hcur (by omega)) fun r2 ⟨hc2, _⟩ => .chk (by simp; omega) (.nx ⟨p - 1, by omega, ?_, by omega, by simp; omega, hc2.mono (by omega)⟩)
   show w64 (((n.Stops.length - p : Nat) : Int) + 1) = _
   rw [w64_id (by omega)]; omega
  ·show w64 (((n.Stops.length - q : Nat) : Int) + 1) = _
   rw [w64_id (by omega)]; omega
  ·simp; omega
  ·have hm : row ∈ w4 ++ [v12] := hm
   rcases List.mem_append.1 hm with hm | hm
   ·exact hr row hm
   ·rw [List.mem_singleton.1 hm]; exact hl2
 ·simp only at hc1 hl hr
  obtain ⟨e, he⟩ := get_ex (l := v16) (i := 0) (by omega)
  have hel := hr e (List.mem_of_getElem? he)
  have hz : idx v16 0 = some e := ixs he
  have hset : ∀ (row : List Int), row.length = n.Stops.length → FB ⟨v16.set (0 : Int).toNat row, r.1⟩ := fun row hrow => ⟨by show (v16.set _ _).length ≤ 1000; rw [List.length_set]; omega, fun x hx => by
   rcases List.mem_or_eq_of_mem_set hx with hx | rfl
   ·have := hr x hx; omega
   ·omega⟩
  have hfb : ∀ x : Int, FB ⟨v16, x⟩ := fun x => ⟨by show v16.length ≤ 1000; omega, fun row hm => by have := hr row hm; omega⟩
  refine .call (P := fun o => Cur (k + 3000000) ⟨o.1, o.2.1, ⟨o.2.2.1⟩⟩ ∧ FB ⟨o.2.2.2.1, o.2.2.2.2⟩) (.call (yacr 32 hc1 (by omega)) fun r3 ⟨hc3, _⟩ => .ite (fun _ => .call (yafr _ (by simp) hc3 (by omega)) fun r4 ⟨hc4, _⟩ => .ok ⟨hc4.mono (by omega), hfb _⟩) fun _ => .ite (fun _ => .eq hz (.idx (by omega) (by omega) fun e1 _ => .ok ⟨hc3.mono (by omega), hset _ (by rw [List.length_set]; exact hel)⟩)) fun _ => .ite (fun _ => .eq hz (.call (yafr _ (by simp) hc3 (by omega)) fun r6 ⟨hc6, _⟩ => ?_)) fun _ => .ite (fun _ => .chk (by omega) (.ok ⟨hc3.mono (by omega), ⟨by show (v16.drop _).length ≤ 1000; simp; omega, fun row hm => by have := hr row (List.mem_of_mem_drop hm); omega⟩⟩)) fun _ => .ok ⟨hc3.mono (by omega), hfb _⟩) fun ⟨v17, v18, v19, v20, v21⟩ ⟨g1, g2⟩ => .ok ⟨g1, g2⟩
  have hw : w64 ((n.Stops.length : Int) - 1) = ((n.Stops.length - 1 : Nat) : Int) := by rw [w64_id (by omega)]; omega
  rw [hw]
  exact .idx (by omega) (by omega) fun e5 _ => .ok ⟨hc6.mono (by omega), hset _ (by rw [List.length_set]; exact hel)⟩
def BB (B : List (List Int)) : Prop := B.length ≤ 20 ∧ ∀ b ∈ B, b.length ≤ 2000
theorem yayr {B : List (List Int)} (h : BB B) {i : Nat} {b : List Int} (hb : b.length ≤ 2000) : BB (B.set i b) := ⟨by rw [List.length_set]; exact h.1, fun x hx => by
 rcases List.mem_or_eq_of_mem_set hx with hx | rfl
 ·exact h.2 x hx
 ·exact hb⟩
theorem yaez {k : Nat} {c : l1Cur} (h : Cur k c) (hk : k ≤ 10000000) : Tot (zq81 c) fun r => Cur (k + 4000000) r.2.2.2 ∧ DT r.1 ∧ FB r.2.1 ∧ BB r.2.2.1 := by
 unfold zq81
 refine .call (Tot.pc (yatu h (by omega)) (yatt h (by omega))) fun r ⟨⟨hc, hd⟩, hst⟩ => ?_
 refine .call (yaue hc (by omega) ⟨hst, hd.1.1⟩) fun r1 ⟨hc1, hf⟩ => ?_
 refine .eq (yadi (t := r.1) hd.tb hf) ?_
 refine .call (P := fun b => b = false → AskF r.1 r1.1 ∧ r.1.Trips.length ≤ 9) (.iteN (fun _ => .ok fun h => by cases h) fun hA => .ok fun h => ⟨hA, by have : (r.1.Trips.length : Int) ≤ 9 := (by simpa using h); omega⟩) fun b hb => .ite (fun _ => .ok ⟨hc1.mono (by omega), hd, hf, by simp, by simp⟩) fun hbf => ?_
 obtain ⟨hA, h9⟩ := hb hbf
 refine .call (yaqi (t := r.1) hA h9) fun r5 h5 => .call (yaqf (t := r.1) hA h9 h5) fun r6 ⟨h6, h6'⟩ => ?_
 have hBB : BB r6 := ⟨by omega, fun b hb => by have := h6' b hb; omega⟩
 refine .call (P := fun o => Cur (k + 3900000) ⟨o.1, o.2.1, ⟨o.2.2.1⟩⟩ ∧ BB o.2.2.2) ?_ fun ⟨v1, v2, v3, i⟩ ⟨g1, g2⟩ => .ok ⟨g1.mono (by omega), hd, hf, g2⟩
 refine .call (P := fun o => Cur (k + 3800000) ⟨o.2.1, o.2.2.1, ⟨o.2.2.2⟩⟩ ∧ (o.1 = true → 0 < r6.length)) (.iteP (fun h0 => .call (t_one 8 hc1 (by omega)) fun r7 hc7 => .ok ⟨hc7.mono (by omega), fun _ => by omega⟩) fun _ => .ok ⟨hc1.mono (by omega), fun h => by cases h⟩) fun ⟨v4, v5, v6, v7⟩ ⟨hc4, hpos⟩ => ?_
 refine .ite (fun hv => ?_) fun _ => .ok ⟨hc4.mono (by omega), hBB⟩
 have h0 := hpos hv
 refine .call (yacr _ hc4 (by omega)) fun r8 ⟨hc8, p0, p1⟩ => .call (yacr 3 hc8 (by omega)) fun r9 ⟨hc9, _⟩ => ?_
 have hr8 : r8.1 < (r6.length : Int) := by omega
 have he : ∃ e, idx r6 r8.1 = some e ∧ 1 ≤ e.length ∧ e.length ≤ 1801 := by
  obtain ⟨e, he, _, hm⟩ := idx_lt p0 hr8
  exact ⟨e, he, h6' e hm⟩
 obtain ⟨e, he, hel⟩ := he
 refine .ite (fun _ => .eq he (.call (yarx r.1 hc9 (by omega)) fun r11 hc11 => .chk (by simp; omega) (.eq he (.ok ⟨hc11.mono (by omega), yayr hBB (by simp; omega)⟩)))) fun _ => .ite (fun _ => .eq he (.chk (by omega) (.eq he (.ok ⟨hc9.mono (by omega), yayr hBB (by simp; omega)⟩)))) fun _ => .eq he (.chk (by simp; omega) (.ok ⟨hc9.mono (by omega), ⟨by simp; omega, fun b hb => ?_⟩⟩))
 rcases List.mem_append.1 hb with hb | hb
 ·exact hBB.2 b hb
 ·rw [List.mem_singleton.1 hb]; omega
def tix (t : Timetable) (e : Int) : Int := fixI (fun x => x.Id == e) t.Trips
def tr (t : Timetable) (e : Int) : Trip := (t.Trips[(tix t e).toNat]?).getD ⟨0, 0, 0⟩
theorem yacp {t : Timetable} {e : Int} (h : 0 ≤ tix t e) : t.Trips[(tix t e).toNat]? = some (tr t e) ∧ (tr t e).Id = e ∧ ((tix t e).toNat : Int) = tix t e ∧ (tix t e).toNat < t.Trips.length := by
 obtain ⟨k, x, h1, h2, h3, _⟩ := idx_fix (p := fun x : Trip => x.Id == e) (l := t.Trips) (by unfold tix at h; omega)
 have e1 : tix t e = (k : Int) := h1
 have e2 : tr t e = x := by unfold tr; rw [e1, Int.toNat_natCast, h2]; rfl
 rw [e1, Int.toNat_natCast, e2]
 exact ⟨h2, by simpa using h3, rfl, get_lt h2⟩
theorem yain {t : Timetable} {e : Int} (h : 0 ≤ tix t e) : idx t.Trips (tix t e) = some (tr t e) := by
 have := yacp h
 rw [← this.2.2.1]; exact ixs this.1
theorem yayg {t : Timetable} (hT : GoodT t) {e : Int} (h : 0 ≤ tix t e) : 1 ≤ e := by
 have h1 := yacp h
 have := (hT.2.2.1 _ _ h1.1).1.1
 rw [h1.2.1] at this; exact this
theorem tripI {t : Timetable} (hb : TB t) (e : Int) : zq35 t e = some (tix t e) := yafq t hb.2 e
theorem tripS {t : Timetable} (hb : TB t) (e : Int) : zq107 t e = some (tix t e) := yapt t hb.2 e
theorem withI {t : Timetable} (hb : TB t) {e : Int} (h : 0 ≤ tix t e) : zq37 t e = some (tr t e) := by
 unfold zq37
 rw [tripI hb]
 simp only [Option.bind_some, yain h]
def FolE (t : Timetable) (f : Fleet) (a c : Int) : Prop := Fol t f (tr t a) (tr t c)
noncomputable instance (t : Timetable) (f : Fleet) (a c : Int) : Decidable (FolE t f a c) := Classical.propDecidable _
theorem yaud {t : Timetable} {f : Fleet} (h : AskF t f) {a c : Int} (ha : 0 ≤ tix t a) (hc : 0 ≤ tix t c) : zq16 t f (tr t a) (tr t c) = some (decide (FolE t f a c)) ∧ zq51 t f (tix t a) (tix t c) = some (decide (FolE t f a c)) := by
 have h1 := yacp ha
 have h2 := yacp hc
 obtain ⟨g1, g2⟩ := yacd h h1.1 h2.1
 rw [h1.2.2.1, h2.2.2.1] at g2
 rw [g1, g2]
 exact ⟨congrArg some (decide_eq_decide.2 Iff.rfl), congrArg some (decide_eq_decide.2 Iff.rfl)⟩
theorem pig {n : Nat} : ∀ {l : List Int}, l.Nodup → (∀ x ∈ l, 0 ≤ x ∧ x < (n : Int)) → l.length ≤ n := by
 induction n with
 | zero =>
  intro l _ h
  cases l with
  | nil => simp
  | cons a l => have := h a (by simp); omega
 | succ n ih =>
  intro l hd h
  by_cases hm : ((n : Nat) : Int) ∈ l
  ·have := ih (l := l.erase (n : Int)) (hd.erase _) (fun x hx => by
    have h1 := h x (List.mem_of_mem_erase hx)
    have h2 : x ≠ (n : Int) := (hd.mem_erase_iff.1 hx).1
    omega)
   rw [List.length_erase_of_mem hm] at this; omega
  ·have := ih hd (fun x hx => by
    have h1 := h x hx
    have h2 : x ≠ (n : Int) := fun e => hm (e ▸ hx)
    omega)
   omega
def yays (t : Timetable) (f : Fleet) (b : List Int) : Prop := ∀ (j : Nat) a c, b[j]? = some a → b[j + 1]? = some c → FolE t f a c
def yalv (t : Timetable) (f : Fleet) (b : List Int) : Prop := b ≠ [] ∧ (∀ e ∈ b, 0 ≤ tix t e) ∧ yays t f b
def yafh (t : Timetable) (f : Fleet) (B : List (List Int)) : Prop := (∀ b ∈ B, yalv t f b) ∧ (B.flatten.map (tix t)).Nodup ∧ B.flatten.length = t.Trips.length
def UsedB (u : List Bool) (at_ : List Int) : Prop := u.length = 12 ∧ ∀ p : Nat, p < 12 → u[p]? = some (decide ((p : Int) ∈ at_))
theorem yatr : UsedB (List.replicate 12 false) [] := ⟨by simp, fun p hp => by
 rw [List.getElem?_replicate]; simp [hp]⟩
theorem yatq {u : List Bool} {at_ : List Int} (h : UsedB u at_) {r : Int} (h0 : 0 ≤ r ∧ r < 12) : UsedB (u.set r.toNat true) (at_ ++ [r]) := by
 refine ⟨by rw [List.length_set]; exact h.1, fun p hp => ?_⟩
 rw [List.getElem?_set]
 by_cases e : r.toNat = p
 ·subst e
  rw [if_pos rfl, if_pos (by rw [h.1]; exact hp)]
  have : ((r.toNat : Nat) : Int) = r := by omega
  simp [this]
 ·rw [if_neg e, h.2 p hp]
  have : (p : Int) ≠ r := by omega
  simp [this]
theorem yats {u : List Bool} {at_ : List Int} (h : UsedB u at_) {r : Int} (h0 : 0 ≤ r ∧ r < 12) : idx u r = some (decide (r ∈ at_)) := by
 have e : ((r.toNat : Nat) : Int) = r := by omega
 have := h.2 r.toNat (by omega)
 rw [e] at this
 rw [← e, idx_nat, this, e]
section
variable {t : Timetable} {f : Fleet} {B : List (List Int)}
theorem yauf (hb : TB t) (h : AskF t f) (hB : BB B) {v : Nat} {b : List Int} (hv : B[v]? = some b) {at0 : List Int} (hr0 : ∀ x ∈ at0, 0 ≤ x ∧ x < (t.Trips.length : Int)) {u0 : List Bool} (hu0 : UsedB u0 at0) (hd0 : at0.Nodup) :
  ∃ x x', iter (yabx t f b) ((at0.length : Int), (0 : Int), u0) = some x ∧ iter (yabr t f B (v : Int)) ((0 : Int), at0) = some x' ∧
   ((x = .ret (.dn (.ret false)) ∧ x' = .ret (.dn (.ret false))) ∨ ∃ at_ u, x = .go ((at_.length : Int), u) ∧ x' = .go at_ ∧ at_ = at0 ++ b.map (tix t) ∧ UsedB u at_ ∧ at_.Nodup ∧ (∀ e ∈ b, 0 ≤ tix t e) ∧ yays t f b) := by
 have hn := h.1.2.1
 have hbl := hB.2 b (List.mem_of_getElem? hv)
 refine iter2 (fun m (a : Int × Int × List Bool) (a' : Int × List Int) => ∃ j : Nat, m + j = b.length ∧ a.1 = (a'.2.length : Int) ∧ a.2.1 = (j : Int) ∧ a'.1 = (j : Int) ∧ a'.2 = at0 ++ (b.take j).map (tix t) ∧ UsedB a.2.2 a'.2 ∧ a'.2.Nodup ∧ (∀ e ∈ b.take j, 0 ≤ tix t e) ∧ ∀ (i : Nat) p q, i + 1 < j → b[i]? = some p → b[i + 1]? = some q → FolE t f p q) _ ?_ (k := b.length) ⟨0, rfl, rfl, rfl, rfl, by simp, hu0, hd0, by simp, by simp⟩
 rintro m ⟨n1, v3, u⟩ ⟨v2, at_⟩ ⟨j, hm, e1, e2, e3, e4, hU, hD, hE, hC⟩
 simp only at e1 e2 e3 e4 hU hD
 subst e2 e3 e1
 have hrange : ∀ x ∈ at_, 0 ≤ x ∧ x < (t.Trips.length : Int) := fun x hx => by
  rw [e4] at hx
  rcases List.mem_append.1 hx with hx | hx
  ·exact hr0 x hx
  ·obtain ⟨e, he, rfl⟩ := List.mem_map.1 hx
   have := yacp (hE e he); omega
 have hlen := pig hD hrange
 by_cases hj : j < b.length
 ·obtain ⟨e, he⟩ := get_ex hj
  have hlt : decide ((j : Int) < (b.length : Int)) = true := by simp; omega
  by_cases h0 : tix t e < 0
  ·refine .inr ⟨_, _, ?_, ?_, .inl ⟨rfl, rfl⟩⟩
   ·simp only [yabx, hlt, if_true, idx_nat, he, Option.bind_some, tripI hb, h0, decide_true]
   ·simp only [yabr, ixs hv, hlt, if_true, idx_nat, he, Option.bind_some, tripS hb, h0, decide_true]
  have h0' : 0 ≤ tix t e := by omega
  have hta := yacp h0'
  have hr12 : 0 ≤ tix t e ∧ tix t e < 12 := by omega
  have hck : chk ((0 : Int) ≤ tix t e ∧ tix t e < 12) = some () := chk_of hr12
  have hui := yats hU hr12
  have hha := yaft at_ (by omega) (tix t e)
  by_cases h1 : tix t e ∈ at_
  ·refine .inr ⟨_, _, ?_, ?_, .inl ⟨rfl, rfl⟩⟩
   ·simp only [yabx, hlt, if_true, idx_nat, he, Option.bind_some, tripI hb, h0, decide_false, Bool.false_eq_true, if_false, hck, hui, h1, decide_true]
   ·simp only [yabr, ixs hv, hlt, if_true, idx_nat, he, Option.bind_some, tripS hb, h0, decide_false, Bool.false_eq_true, if_false, hha, h1, decide_true]
  have hck2 : chk (at_.length + ([tix t e] : List Int).length ≤ 4294967296) = some () := chk_of (by simp; omega)
  have hDn : (at_ ++ [tix t e]).Nodup := List.nodup_append.2 ⟨hD, by simp, fun a ha c hc => by
   rw [List.mem_singleton.1 hc]; intro e; exact h1 (e ▸ ha)⟩
  have hen : ∀ e' ∈ b.take (j + 1), 0 ≤ tix t e' := fun e' he' => by
   rw [take_succ he] at he'
   rcases List.mem_append.1 he' with he' | he'
   ·exact hE e' he'
   ·rw [List.mem_singleton.1 he']; exact h0'
  have hat : at_ ++ [tix t e] = at0 ++ (b.take (j + 1)).map (tix t) := by
   rw [take_succ he, List.map_append, ← List.append_assoc, ← e4]; rfl
  have fin : (∀ (i : Nat) p q, i + 1 < j + 1 → b[i]? = some p → b[i + 1]? = some q → FolE t f p q) → ∃ k', k' < m ∧ ∃ j' : Nat, k' + j' = b.length ∧ w64 ((at_.length : Int) + 1) = ((at_ ++ [tix t e]).length : Int) ∧ w64 ((j : Int) + 1) = (j' : Int) ∧ w64 ((j : Int) + 1) = (j' : Int) ∧ at_ ++ [tix t e] = at0 ++ (b.take j').map (tix t) ∧ UsedB (u.set (tix t e).toNat true) (at_ ++ [tix t e]) ∧ (at_ ++ [tix t e]).Nodup ∧ (∀ e ∈ b.take j', 0 ≤ tix t e) ∧ ∀ (i : Nat) p q, i + 1 < j' → b[i]? = some p → b[i + 1]? = some q → FolE t f p q := fun hC' =>
   ⟨m - 1, by omega, j + 1, by omega, (by rw [w64_succ (n := at_.length) (by omega)]; simp), w64_succ (by omega), w64_succ (by omega), hat, yatq hU hr12, hDn, hen, hC'⟩
  by_cases hj0 : 0 < j
  ·obtain ⟨a, ha⟩ := get_ex (l := b) (i := j - 1) (by omega)
   have hw : w64 ((j : Int) - 1) = ((j - 1 : Nat) : Int) := by rw [w64_id (by omega)]; omega
   have haT : 0 ≤ tix t a := hE a (List.mem_of_getElem? (show (b.take j)[j - 1]? = some a by rw [List.getElem?_take_of_lt (by omega)]; exact ha))
   have hjp : decide ((0 : Int) < (j : Int)) = true := by simp; omega
   obtain ⟨f1, f2⟩ := yaud h haT h0'
   by_cases hF : FolE t f a e
   ·obtain ⟨k', hk', rest⟩ := fin fun i p q hi hp hq => by
     by_cases hij : i + 1 < j
     ·exact hC i p q hij hp hq
     ·have : i = j - 1 := by omega
      subst this
      rw [ha] at hp; cases hp
      rw [show j - 1 + 1 = j by omega, he] at hq; cases hq
      exact hF
    refine .inl ⟨(w64 ((at_.length : Int) + 1), w64 ((j : Int) + 1), u.set (tix t e).toNat true), (w64 ((j : Int) + 1), at_ ++ [tix t e]), k', ?_, ?_, hk', rest⟩
    ·simp only [yabx, hlt, if_true, idx_nat, he, Option.bind_some, tripI hb, h0, decide_false, Bool.false_eq_true, if_false, hck, hui, h1, hjp, hw, ha, withI hb haT, yain h0', f1, hF, decide_true, Bool.not_true]
    ·simp only [yabr, ixs hv, hlt, if_true, idx_nat, he, Option.bind_some, tripS hb, h0, decide_false, Bool.false_eq_true, if_false, hha, h1, hjp, hw, ha, f2, hF, decide_true, Bool.not_true, hck2]
   ·refine .inr ⟨_, _, ?_, ?_, .inl ⟨rfl, rfl⟩⟩
    ·simp only [yabx, hlt, if_true, idx_nat, he, Option.bind_some, tripI hb, h0, decide_false, Bool.false_eq_true, if_false, hck, hui, h1, hjp, hw, ha, withI hb haT, yain h0', f1, hF, Bool.not_false]
    ·simp only [yabr, ixs hv, hlt, if_true, idx_nat, he, Option.bind_some, tripS hb, h0, decide_false, Bool.false_eq_true, if_false, hha, h1, hjp, hw, ha, f2, hF, Bool.not_false]
  ·have hj0' : j = 0 := by omega
   obtain ⟨k', hk', rest⟩ := fin fun i p q hi => by omega
   have hjp : decide ((0 : Int) < (j : Int)) = false := by simp; omega
   refine .inl ⟨(w64 ((at_.length : Int) + 1), w64 ((j : Int) + 1), u.set (tix t e).toNat true), (w64 ((j : Int) + 1), at_ ++ [tix t e]), k', ?_, ?_, hk', rest⟩
   ·simp only [yabx, hlt, if_true, idx_nat, he, Option.bind_some, tripI hb, h0, decide_false, Bool.false_eq_true, if_false, hck, hui, h1, hjp]
   ·simp only [yabr, ixs hv, hlt, if_true, idx_nat, he, Option.bind_some, tripS hb, h0, decide_false, Bool.false_eq_true, if_false, hha, h1, hjp, hck2]
 ·have hlt : decide ((j : Int) < (b.length : Int)) = false := by simp; omega
  have htk : b.take j = b := List.take_of_length_le (by omega)
  rw [htk] at e4 hE
  refine .inr ⟨_, _, ?_, ?_, .inr ⟨at_, u, rfl, rfl, e4, hU, hD, hE, fun i p q hp hq => hC i p q (by have := get_lt hq; omega) hp hq⟩⟩
  ·simp only [yabx, hlt, Bool.false_eq_true, if_false]
  ·simp only [yabr, ixs hv, hlt, Bool.false_eq_true, if_false, Option.bind_some]
theorem yajf (hb : TB t) (h : AskF t f) (hB : BB B) : ∃ v, zq11 t f B = some v ∧ zq47 t f B = some v ∧ (v = true → yafh t f B) := by
 have hn := h.1.2.1
 have H : ∃ x x', iter (yabs t f B) ((0 : Int), (0 : Int), (0 : Int), (List.replicate 12 (false : Bool))) = some x ∧ iter (yabq t f B) ((0 : Int), ([] : List Int)) = some x' ∧
   ((x = .ret false ∧ x' = .ret false) ∨ ∃ at_ : List Int, x = .go (at_.length : Int) ∧ x' = .go at_ ∧ at_ = B.flatten.map (tix t) ∧ at_.Nodup ∧ ∀ b ∈ B, yalv t f b) := by
  refine iter2 (fun m (a : Int × Int × Int × List Bool) (a' : Int × List Int) => ∃ v : Nat, m + v = B.length ∧ a.1 = (a'.2.length : Int) ∧ a.2.2.1 = (v : Int) ∧ a'.1 = (v : Int) ∧ a'.2 = (B.take v).flatten.map (tix t) ∧ UsedB a.2.2.2 a'.2 ∧ a'.2.Nodup ∧ (∀ b ∈ B.take v, yalv t f b) ∧ (v = 0 → a.2.1 = 0) ∧ (0 < v → ∃ b, B[v - 1]? = some b ∧ b[0]? = some a.2.1)) _ ?_ (k := B.length) ⟨0, rfl, rfl, rfl, rfl, by simp, yatr, by simp, by simp, fun _ => rfl, fun h => by omega⟩
  rintro m ⟨n1, k, v', u⟩ ⟨v2, at_⟩ ⟨v, hm, e1, e2, e3, e4, hU, hD, hE, hk0, hk1⟩
  simp only at e1 e2 e3 e4 hU hD hk0 hk1
  subst e2 e3 e1
  have hrange : ∀ x ∈ at_, 0 ≤ x ∧ x < (t.Trips.length : Int) := fun x hx => by
   rw [e4] at hx
   obtain ⟨e, he, rfl⟩ := List.mem_map.1 hx
   obtain ⟨b, hb1, hb2⟩ := List.mem_flatten.1 he
   have := yacp ((hE b hb1).2.1 e hb2); omega
  by_cases hv : v < B.length
  ·obtain ⟨b, hbv⟩ := get_ex hv
   have hlt : decide ((v : Int) < (B.length : Int)) = true := by simp; omega
   by_cases hz : b.length = 0
   ·have hzb : ((b.length : Int) == 0) = true := beq_iff_eq.2 (by omega)
    refine .inr ⟨_, _, ?_, ?_, .inl ⟨rfl, rfl⟩⟩
    ·simp only [yabs, hlt, if_true, idx_nat, hbv, Option.bind_some, hzb]
    ·simp only [yabq, hlt, if_true, idx_nat, hbv, Option.bind_some, hzb]
   have hzb : ((b.length : Int) == 0) = false := beq_eq_false_iff_ne.2 (by omega)
   obtain ⟨e, he⟩ := get_ex (l := b) (i := 0) (by omega)
   have he0 : idx b 0 = some e := ixs (i := 0) he
   have main : ¬ e ≤ k → (∀ R, yabq t f B ((v : Int), at_) = R ↔ (flb (iter (yabr t f B (v : Int)) ((0 : Int), at_)) fun (at_2 : List Int) => some (.nx ((w64 ((v : Int) + 1)), at_2))) = R) → (∃ b_1 b', ∃ k', yabs t f B ((at_.length : Int), k, (v : Int), u) = some (.nx b_1) ∧ yabq t f B ((v : Int), at_) = some (.nx b') ∧ k' < m ∧ ∃ v : Nat, k' + v = B.length ∧ b_1.1 = (b'.2.length : Int) ∧ b_1.2.2.1 = (v : Int) ∧ b'.1 = (v : Int) ∧ b'.2 = (B.take v).flatten.map (tix t) ∧ UsedB b_1.2.2.2 b'.2 ∧ b'.2.Nodup ∧ (∀ b ∈ B.take v, yalv t f b) ∧ (v = 0 → b_1.2.1 = 0) ∧ (0 < v → ∃ b, B[v - 1]? = some b ∧ b[0]? = some b_1.2.1)) ∨ ∃ x x', yabs t f B ((at_.length : Int), k, (v : Int), u) = some (.dn x) ∧ yabq t f B ((v : Int), at_) = some (.dn x') ∧ ((x = .ret false ∧ x' = .ret false) ∨ ∃ at_ : List Int, x = .go (at_.length : Int) ∧ x' = .go at_ ∧ at_ = B.flatten.map (tix t) ∧ at_.Nodup ∧ ∀ b ∈ B, yalv t f b) := by
    intro hek hS
    obtain ⟨x, x', g1, g2, g3⟩ := yauf hb h hB hbv hrange hU hD
    have hI : yabs t f B ((at_.length : Int), k, (v : Int), u) = flb (iter (yabx t f b) ((at_.length : Int), (0 : Int), u)) fun ((block2, v6) : Int × (List Bool)) => some (.nx (block2, e, (w64 ((v : Int) + 1)), v6)) := by
     simp only [yabs, hlt, if_true, idx_nat, hbv, Option.bind_some, hzb, Bool.false_eq_true, if_false, he0, hek, decide_false]
    rcases g3 with ⟨rfl, rfl⟩ | ⟨at2, u2, rfl, rfl, q1, q2, q3, q4, q5⟩
    ·refine .inr ⟨_, _, ?_, ?_, .inl ⟨rfl, rfl⟩⟩
     ·rw [hI, g1]; rfl
     ·rw [hS, g2]; rfl
    ·refine .inl ⟨((at2.length : Int), e, w64 ((v : Int) + 1), u2), (w64 ((v : Int) + 1), at2), m - 1, ?_, ?_, by omega, v + 1, by omega, rfl, w64_succ (by have := hB.1; omega), w64_succ (by have := hB.1; omega), ?_, q2, q3, ?_, fun h => by omega, fun _ => ⟨b, hbv, he⟩⟩
     ·rw [hI, g1]; rfl
     ·rw [hS, g2]; rfl
     ·rw [take_succ hbv, List.flatten_append, List.map_append, ← e4, q1]; simp
     ·intro b' hb'
      rw [take_succ hbv] at hb'
      rcases List.mem_append.1 hb' with hb' | hb'
      ·exact hE b' hb'
      ·rw [List.mem_singleton.1 hb']
       exact ⟨fun hn => by rw [hn] at hz; exact hz rfl, q4, q5⟩
   by_cases hv0 : 0 < v
   ·obtain ⟨c, hc1, hc2⟩ := hk1 hv0
    have hw : w64 ((v : Int) - 1) = ((v - 1 : Nat) : Int) := by rw [w64_id (by have := hB.1; omega)]; omega
    have hvp : decide ((0 : Int) < (v : Int)) = true := by simp; omega
    have hc0 : idx c 0 = some k := ixs (i := 0) hc2
    by_cases hek : e ≤ k
    ·refine .inr ⟨_, _, ?_, ?_, .inl ⟨rfl, rfl⟩⟩
     ·simp only [yabs, hlt, if_true, idx_nat, hbv, Option.bind_some, hzb, Bool.false_eq_true, if_false, he0, hek, decide_true]
     ·simp only [yabq, hlt, if_true, idx_nat, hbv, Option.bind_some, hzb, Bool.false_eq_true, if_false, he0, hvp, hw, hc1, hc0, hek, decide_true]
    ·refine main hek fun R => ?_
     simp only [yabq, hlt, if_true, idx_nat, hbv, Option.bind_some, hzb, Bool.false_eq_true, if_false, he0, hvp, hw, hc1, hc0, hek, decide_false]
   ·have hk := hk0 (by omega)
    subst hk
    have hvp : decide ((0 : Int) < (v : Int)) = false := by simp; omega
    have hS : yabq t f B ((v : Int), at_) = (flb (iter (yabr t f B (v : Int)) ((0 : Int), at_)) fun (at_2 : List Int) => some (.nx ((w64 ((v : Int) + 1)), at_2))) := by
     simp only [yabq, hlt, if_true, idx_nat, hbv, Option.bind_some, hzb, Bool.false_eq_true, if_false, hvp]
    by_cases hek : e ≤ 0
    ·have hne : tix t e < 0 := by
      rcases Int.lt_or_le (tix t e) 0 with h | h'
      ·exact h
      ·have := yayg h.1 h'; omega
     have hb0 : decide ((0 : Int) < (b.length : Int)) = true := by simp; omega
     refine .inr ⟨_, _, ?_, ?_, .inl ⟨rfl, rfl⟩⟩
     ·simp only [yabs, hlt, if_true, idx_nat, hbv, Option.bind_some, hzb, Bool.false_eq_true, if_false, he0, hek, decide_true]
     ·rw [hS, iter_dn (b := .ret (.dn (.ret false))) (by simp only [yabr, ixs hbv, hb0, if_true, he0, Option.bind_some, tripS hb, hne, decide_true])]
      rfl
    ·exact main hek fun R => by rw [hS]
  ·have hlt : decide ((v : Int) < (B.length : Int)) = false := by simp; omega
   rw [List.take_of_length_le (by omega : B.length ≤ v)] at e4 hE
   refine .inr ⟨_, _, ?_, ?_, .inr ⟨at_, rfl, rfl, e4, hD, hE⟩⟩
   ·simp only [yabs, hlt, Bool.false_eq_true, if_false]
   ·simp only [yabq, hlt, Bool.false_eq_true, if_false]
 obtain ⟨x, x', g1, g2, g3⟩ := H
 unfold zq11 zq47
 rw [g1, g2]
 rcases g3 with ⟨rfl, rfl⟩ | ⟨at_, rfl, rfl, q1, q2, q3⟩
 ·exact ⟨false, rfl, rfl, fun h => by cases h⟩
 ·refine ⟨_, rfl, rfl, fun h => ⟨q3, q1 ▸ q2, ?_⟩⟩
  have : (at_.length : Int) = (t.Trips.length : Int) := by simpa using h
  rw [q1, List.length_map] at this
  omega
end
theorem yafp {t : Timetable} {f : Fleet} {B : List (List Int)} (hb : TB t) (hf : FB f) (hB : BB B) : ∃ v, zq5 t f B = some v ∧ zq55 t f B = some v ∧ (v = true → AskF t f ∧ yafh t f B) := by
 unfold zq5 zq55
 rw [yaub hb hf, yadi hb hf]
 by_cases h : AskF t f
 ·obtain ⟨v, g1, g2, g3⟩ := yajf hb h hB
  exact ⟨v, by simp [h, g1], by simp [h, g2], fun hv => ⟨h, g3 hv⟩⟩
 ·exact ⟨false, by simp [h], by simp [h], fun h => by cases h⟩
theorem yarz {t : Timetable} {f : Fleet} (h : AskF t f) {a : Int} (ha : 0 ≤ tix t a) : ((tr t a).Start < ev t (tr t a) ∧ ev t (tr t a) ≤ 1799) ∧ (0 ≤ (tr t a).Start ∧ (tr t a).Start ≤ 1799) ∧ zq18 t (tr t a) = some (ev t (tr t a)) ∧ zq106 t (tix t a) = some (ev t (tr t a)) := by
 have h1 := yacp ha
 obtain ⟨g1, g2, g3, g4⟩ := yacu h.1 h1.1
 rw [h1.2.2.1] at g4
 exact ⟨g1, g2, g3, g4⟩
theorem yalr {t : Timetable} {f : Fleet} (h : AskF t f) {a c : Int} (ha : 0 ≤ tix t a) (hc : 0 ≤ tix t c) : (0 ≤ dv t f (tr t a) (tr t c) ∧ dv t f (tr t a) (tr t c) ≤ 120) ∧ zq17 t f (tr t a) (tr t c) = some (dv t f (tr t a) (tr t c)) ∧ zq49 t f (tix t a) (tix t c) = some (dv t f (tr t a) (tr t c)) := by
 have h1 := yacp ha
 have h2 := yacp hc
 obtain ⟨g1, g2, g3⟩ := yacc h h1.1 h2.1
 rw [h1.2.2.1, h2.2.2.1] at g3
 exact ⟨g1, g2, g3⟩
theorem getD0 {b : List Int} {k : Nat} {e : Int} (h : b[k]? = some e) : b.getD k 0 = e := by rw [List.getD_eq_getElem?_getD, h]; rfl
def InjB (t : Timetable) (B : List (List Int)) : Prop := ∀ (i : Nat) b (k : Nat) e (i' : Nat) b' (k' : Nat) e', B[i]? = some b → b[k]? = some e → B[i']? = some b' → b'[k']? = some e' → tix t e = tix t e' → i = i' ∧ k = k'
theorem pwG {α : Type} {R : α → α → Prop} {M : List α} (h : M.Pairwise R) {i j : Nat} {a b : α} (hij : i < j) (ha : M[i]? = some a) (hb : M[j]? = some b) : R a b := by
 have := List.pairwise_iff_getElem.1 h i j (get_lt ha) (get_lt hb) hij
 rw [(List.getElem?_eq_some_iff.1 ha).2, (List.getElem?_eq_some_iff.1 hb).2] at this
 exact this
theorem yayo {t : Timetable} {B : List (List Int)} (h : (B.flatten.map (tix t)).Nodup) : InjB t B := by
 rw [List.map_flatten, List.Nodup, List.pairwise_flatten] at h
 obtain ⟨h1, h2⟩ := h
 intro i b k e i' b' k' e' hb he hb' he' heq
 have gM : ∀ {i : Nat} {b : List Int}, B[i]? = some b → (B.map (List.map (tix t)))[i]? = some (b.map (tix t)) := fun h => by rw [List.getElem?_map, h]; rfl
 have gm : ∀ {b : List Int} {k : Nat} {e : Int}, b[k]? = some e → (b.map (tix t))[k]? = some (tix t e) := fun h => by rw [List.getElem?_map, h]; rfl
 rcases Nat.lt_trichotomy i i' with hlt | rfl | hlt
 ·exact absurd heq (pwG h2 hlt (gM hb) (gM hb') _ (List.mem_of_getElem? (gm he)) _ (List.mem_of_getElem? (gm he')))
 ·rw [hb] at hb'; cases hb'
  have hd := h1 _ (List.mem_of_getElem? (gM hb))
  refine ⟨rfl, ?_⟩
  rcases Nat.lt_trichotomy k k' with hlt | h | hlt
  ·exact absurd heq (pwG hd hlt (gm he) (gm he'))
  ·exact h
  ·exact absurd heq.symm (pwG hd hlt (gm he') (gm he))
 ·exact absurd heq.symm (pwG h2 hlt (gM hb') (gM hb) _ (List.mem_of_getElem? (gm he')) _ (List.mem_of_getElem? (gm he)))
section
variable {t : Timetable} {B : List (List Int)}
theorem yayi (hI : InjB t B) (hB : BB B) (hT : ∀ b ∈ B, ∀ e ∈ b, 0 ≤ tix t e) {i : Nat} {b : List Int} {k : Nat} {e : Int} (hb : B[i]? = some b) (hk : b[k]? = some e) : zq32 B e = some ((i : Int), (k : Int)) := by
 unfold zq32
 have H : Tot (iter (yadc B e) (0 : Int)) fun r => r = .ret ((i : Int), (k : Int)) := by
  have hi := get_lt hb
  refine .iter (fun m v => ∃ j : Nat, v = (j : Int) ∧ m + j = i) (n := i) ⟨0, rfl, rfl⟩ ?_
  rintro m v ⟨j, rfl, hm⟩
  obtain ⟨c, hc⟩ := get_ex (l := B) (i := j) (by omega)
  have hcl := hB.2 c (List.mem_of_getElem? hc)
  have hBl := hB.1
  unfold yadc
  refine .iteP (fun _ => .eq (ixs hc) (.eq (yacb c (by omega) e) (.iteP (fun h0 => ?_) (fun h0 => ?_)))) (fun hn => absurd (by omega) hn)
  ·obtain ⟨q, y, g1, g2, g3, _⟩ := idx_fix (p := fun z => e == z) (l := c) (by omega)
   have hye : y = e := (show e = y by simpa using g3).symm
   subst hye
   obtain ⟨rfl, rfl⟩ := hI _ _ _ _ _ _ _ _ hc g2 hb hk rfl
   rw [g1]
   exact .dn rfl
  ·refine .nx ⟨m - 1, ?_, j + 1, w64_succ (by omega), ?_⟩
   all_goals
    have hji : j ≠ i := fun hji => by
     subst hji
     rw [hb] at hc; cases hc
     have := fixI_neg (p := fun z => e == z) (l := b) (by omega) e (List.mem_of_getElem? hk)
     simp at this
    omega
 obtain ⟨r, hr, rfl⟩ := H
 rw [hr]; rfl
end
section
variable {t : Timetable} {f : Fleet} {B : List (List Int)}
theorem yadh (hB : BB B) {e : Int} (h : ∀ b ∈ B, e ∉ b) : zq32 B e = some (-1, 0) := by
 have hBl := hB.1
 unfold zq32
 have H : Tot (iter (yadc B e) (0 : Int)) fun r => r = .go () := by
  refine .iter (fun m v => ∃ j : Nat, v = (j : Int) ∧ m + j = B.length) (n := B.length) ⟨0, rfl, rfl⟩ ?_
  rintro m v ⟨j, rfl, hm⟩
  unfold yadc
  refine .iteP (fun hc => ?_) (fun hc => .dn rfl)
  obtain ⟨c, hcx⟩ := get_ex (l := B) (i := j) (by omega)
  have hcm := List.mem_of_getElem? hcx
  have hcl := hB.2 c hcm
  refine .eq (ixs hcx) (.eq (yacb c (by omega) e) (.iteP (fun h0 => ?_) (fun h0 => .nx ⟨m - 1, by omega, j + 1, w64_succ (by omega), by omega⟩)))
  obtain ⟨q, y, _, g2, g3, _⟩ := idx_fix (p := fun z => e == z) (l := c) (by omega)
  have : e = y := by simpa using g3
  subst this
  exact absurd (List.mem_of_getElem? g2) (h c hcm)
 obtain ⟨r, hr, rfl⟩ := H
 rw [hr]; rfl
theorem yafa (hB : BB B) (e : Int) : Tot (zq52 B e) fun r => (r = (-1, -1) ∧ ∀ b ∈ B, e ∉ b) ∨ ∃ (i k : Nat) (b : List Int), r = ((i : Int), (k : Int)) ∧ B[i]? = some b ∧ b[k]? = some e := by
 have hBl := hB.1
 unfold zq52
 have H : Tot (iter (yagp B e) (0 : Int)) fun r => (r = .go () ∧ ∀ b ∈ B, e ∉ b) ∨ ∃ (i k : Nat) (b : List Int), r = .ret ((i : Int), (k : Int)) ∧ B[i]? = some b ∧ b[k]? = some e := by
  refine .iter (fun m v => ∃ j : Nat, v = (j : Int) ∧ m + j = B.length ∧ ∀ (i : Nat) b, i < j → B[i]? = some b → e ∉ b) (n := B.length) ⟨0, rfl, rfl, fun i b h => by omega⟩ ?_
  rintro m v ⟨j, rfl, hm, hP⟩
  unfold yagp
  refine .iteP (fun hc => ?_) (fun hc => .dn (.inl ⟨rfl, fun b hb => ?_⟩))
  ·obtain ⟨c, hcx⟩ := get_ex (l := B) (i := j) (by omega)
   have hcl := hB.2 c (List.mem_of_getElem? hcx)
   have row : Tot (iter (yagq B e (j : Int)) (0 : Int)) fun r => (r = .go () ∧ e ∉ c) ∨ ∃ k : Nat, r = .ret (.dn (.ret ((j : Int), (k : Int)))) ∧ c[k]? = some e := by
    refine .iter (fun m v => ∃ q : Nat, v = (q : Int) ∧ m + q = c.length ∧ e ∉ c.take q) (n := c.length) ⟨0, rfl, rfl, by simp⟩ ?_
    rintro m v ⟨q, rfl, hm, hq⟩
    unfold yagq
    refine .eq (ixs hcx) (.iteP (fun h => ?_) (fun h => .dn (.inl ⟨rfl, by rw [List.take_of_length_le (by omega)] at hq; exact hq⟩)))
    obtain ⟨y, hy⟩ := get_ex (l := c) (i := q) (by omega)
    refine .eq (ixs hcx) (.eq (ixs hy) (.ite (fun hye => ?_) (fun hye => .nx ⟨m - 1, by omega, q + 1, w64_succ (by omega), by omega, fun hm' => ?_⟩)))
    ·have : y = e := by simpa using hye
     subst this
     exact .dn (.inr ⟨q, rfl, hy⟩)
    ·rw [take_succ hy] at hm'
     rcases List.mem_append.1 hm' with h1 | h1
     ·exact hq h1
     ·have : e = y := List.mem_singleton.1 h1
      subst this
      simp at hye
   obtain ⟨r, hr, h⟩ := row
   rw [hr]
   rcases h with ⟨rfl, h⟩ | ⟨k, rfl, h⟩
   ·refine .nx ⟨m - 1, by omega, j + 1, w64_succ (by omega), by omega, fun i b hi hb => ?_⟩
    by_cases hij : i = j
    ·subst hij; rw [hcx] at hb; cases hb; exact h
    ·exact hP i b (by omega) hb
   ·exact .dn (.inr ⟨j, k, c, rfl, hcx, h⟩)
  ·obtain ⟨i, hi⟩ := List.getElem?_of_mem hb
   exact hP i b (by have := get_lt hi; omega) hi
 obtain ⟨r, hr, h⟩ := H
 rw [hr]
 rcases h with ⟨rfl, h⟩ | ⟨i, k, b, rfl, h1, h2⟩
 ·exact .ok (.inl ⟨rfl, h⟩)
 ·exact .ok (.inr ⟨i, k, b, rfl, h1, h2⟩)
theorem yaip {a b : List Int} (hl : a.length = b.length) (ha : a.length ≤ 1000000) {step : Int → Option (Lp Int (Fl Bool Unit))} (hs : ∀ (i : Nat) x y, a[i]? = some x → b[i]? = some y → step (i : Int) = if x = y then some (.nx (w64 ((i : Int) + 1))) else some (.dn (.ret false))) (he : step (a.length : Int) = some (.dn (.go ()))) : Ab.flb (iter step (0 : Int)) (fun _ => some true) = some (decide (a = b)) := by
 refine flb_dec (.iter (fun m v => ∃ i : Nat, v = (i : Int) ∧ m + i = a.length ∧ a.take i = b.take i) (n := a.length) ⟨0, rfl, rfl, by simp⟩ ?_)
 rintro m v ⟨i, rfl, hm, ht⟩
 by_cases hi : i < a.length
 ·obtain ⟨x, hx⟩ := get_ex hi
  obtain ⟨y, hy⟩ := get_ex (l := b) (i := i) (by omega)
  rw [hs i x y hx hy]
  by_cases hxy : x = y
  ·rw [if_pos hxy]
   exact .nx ⟨m - 1, by omega, i + 1, w64_succ (by omega), by omega, by rw [take_succ hx, take_succ hy, ht, hxy]⟩
  ·rw [if_neg hxy]
   refine .dn (.inr ⟨rfl, fun h => ?_⟩)
   rw [h, hy] at hx
   exact hxy (Option.some.inj hx).symm
 ·have : i = a.length := by omega
  subst this
  rw [he]
  rw [List.take_length, List.take_of_length_le (by omega)] at ht
  exact .dn (.inl ⟨rfl, ht⟩)
theorem ybau {a b : List Int} (hl : a.length = b.length) (ha : a.length ≤ 1000000) : zq113 a b = some (decide (a = b)) := by
 unfold zq113
 have hne : ((a.length : Int) != (b.length : Int)) = false := by rw [hl]; simp
 simp only [hne, Bool.false_eq_true, if_false]
 refine yaip hl ha (fun i x y hx hy => ?_) (by unfold yacm; simp)
 have hlt : decide ((i : Int) < (a.length : Int)) = true := by have := get_lt hx; rw [decide_eq_true_eq]; omega
 by_cases h : x = y
 ·subst h
  simp only [yacm, hlt, if_true, idx_nat, hx, hy, Option.bind_some, bne_self_eq_false, Bool.false_eq_true, if_false]
 ·have hb : (x != y) = true := by simp [h]
  simp only [yacm, hlt, if_true, idx_nat, hx, hy, Option.bind_some, hb, h, if_false]
theorem sameS {a b : List Int} (hl : a.length = b.length) (ha : a.length ≤ 1000000) : zq92 a b = some (decide (a = b)) := by
 unfold zq92
 have hne : ((a.length : Int) != (b.length : Int)) = false := by rw [hl]; simp
 simp only [hne, Bool.false_eq_true, if_false]
 refine yaip hl ha (fun i x y hx hy => ?_) (by unfold yaeu; simp)
 have hlt : decide ((i : Int) < (a.length : Int)) = true := by have := get_lt hx; rw [decide_eq_true_eq]; omega
 by_cases h : x = y
 ·subst h
  simp only [yaeu, hlt, if_true, idx_nat, hx, hy, Option.bind_some, bne_self_eq_false, Bool.false_eq_true, if_false]
 ·have hb : (x != y) = true := by simp [h]
  simp only [yaeu, hlt, if_true, idx_nat, hx, hy, Option.bind_some, hb, h, if_false]
def IsP (B : List (List Int)) (p : List Int) : Prop := p ≠ [] ∧ ∃ (i k : Nat) (b : List Int), B[i]? = some b ∧ k + p.length ≤ b.length ∧ (b.take (k + p.length)).drop k = p
noncomputable instance (B : List (List Int)) (p : List Int) : Decidable (IsP B p) := Classical.propDecidable _
theorem yapy {p : List Int} {i k : Nat} {b : List Int} (hb : B[i]? = some b) (hk : k + p.length ≤ b.length) (h : (b.take (k + p.length)).drop k = p) {j : Nat} (hj : j < p.length) : b[k + j]? = p[j]? := by
 have : ((b.take (k + p.length)).drop k)[j]? = p[j]? := by rw [h]
 rw [List.getElem?_drop, List.getElem?_take_of_lt (by omega)] at this
 exact this
theorem yalm {p : List Int} (h : IsP B p) : ∃ b ∈ B, ∀ e ∈ p, e ∈ b := by
 obtain ⟨_, i, k, b, hb, _, hp⟩ := h
 refine ⟨b, List.mem_of_getElem? hb, fun e he => ?_⟩
 rw [← hp] at he
 exact List.mem_of_mem_take (List.mem_of_mem_drop he)
theorem yayk (hI : InjB t B) (hB : BB B) (hT : ∀ b ∈ B, ∀ e ∈ b, 0 ≤ tix t e) {p : List Int} (hp : p.length ≤ 3000) : zq24 B p = some (decide (IsP B p)) := by
 unfold zq24
 by_cases h0 : p = []
 ·subst h0
  have : ¬ IsP B [] := fun h => h.1 rfl
  simp [this]
 have hl : p.length ≠ 0 := fun h => h0 (List.length_eq_zero_iff.1 h)
 have hz : ((p.length : Int) == 0) = false := beq_eq_false_iff_ne.2 (by omega)
 obtain ⟨e, he⟩ := get_ex (l := p) (i := 0) (by omega)
 have he0 : idx p 0 = some e := ixs (i := 0) he
 by_cases hex : ∃ b ∈ B, e ∈ b
 ·obtain ⟨b, hb, heb⟩ := hex
  obtain ⟨i, hi⟩ := List.getElem?_of_mem hb
  obtain ⟨k, hk⟩ := List.getElem?_of_mem heb
  have hbl := hB.2 b hb
  have hkl := get_lt hk
  have hw : w64 ((k : Int) + (p.length : Int)) = ((k + p.length : Nat) : Int) := by rw [w64_id (by omega)]; omega
  have h0i : decide ((0 : Int) ≤ (i : Int)) = true := by rw [decide_eq_true_eq]; omega
  simp only [hz, Bool.false_eq_true, if_false, he0, Option.bind_some, yayi hI hB hT hi hk, h0i, if_true, idx_nat, hi, hw]
  by_cases hle : k + p.length ≤ b.length
  ·have hd : decide (((k + p.length : Nat) : Int) ≤ (b.length : Int)) = true := by rw [decide_eq_true_eq]; omega
   have hck : chk ((0 : Int) ≤ (k : Int) ∧ (k : Int) ≤ ((k + p.length : Nat) : Int) ∧ ((k + p.length : Nat) : Int) ≤ (b.length : Int)) = some () := chk_of (by omega)
   simp only [hd, if_true, hck, Option.bind_some, Int.toNat_natCast]
   rw [ybau (by rw [List.length_drop, List.length_take]; omega) (by rw [List.length_drop, List.length_take]; omega)]
   simp only [Option.bind_some]
   refine congrArg some (decide_eq_decide.2 ⟨fun h => ⟨h0, i, k, b, hi, hle, h⟩, fun ⟨_, i', k', b', hi', hle', h'⟩ => ?_⟩)
   have hk' := yapy hi' hle' h' (j := 0) (by omega)
   rw [he, Nat.add_zero] at hk'
   obtain ⟨rfl, rfl⟩ := hI _ _ _ _ _ _ _ _ hi' hk' hi hk rfl
   rw [hi] at hi'; cases hi'
   exact h'
  ·have hd : decide (((k + p.length : Nat) : Int) ≤ (b.length : Int)) = false := by rw [decide_eq_false_iff_not]; omega
   simp only [hd, Bool.false_eq_true, if_false, Option.bind_some]
   refine congrArg some ?_
   have : ¬ IsP B p := fun ⟨_, i', k', b', hi', hle', h'⟩ => by
    have hk' := yapy hi' hle' h' (j := 0) (by omega)
    rw [he, Nat.add_zero] at hk'
    obtain ⟨rfl, rfl⟩ := hI _ _ _ _ _ _ _ _ hi' hk' hi hk rfl
    rw [hi] at hi'; cases hi'
    exact hle hle'
   simp [this]
 ·have hno : ∀ b ∈ B, e ∉ b := fun b hb h => hex ⟨b, hb, h⟩
  have h0i : decide ((0 : Int) ≤ -1) = false := by decide
  simp only [hz, Bool.false_eq_true, if_false, he0, Option.bind_some, yadh hB hno, h0i]
  have : ¬ IsP B p := fun h => by
   obtain ⟨b, hb, h2⟩ := yalm h
   exact hno b hb (h2 e (List.mem_of_getElem? he))
  simp [this]
theorem ybar (hI : InjB t B) (hB : BB B) (hT : ∀ b ∈ B, ∀ e ∈ b, 0 ≤ tix t e) {p : List Int} (hp : p.length ≤ 3000) : zq61 B p = some (decide (IsP B p)) := by
 unfold zq61
 by_cases h0 : p = []
 ·subst h0
  have : ¬ IsP B [] := fun h => h.1 rfl
  simp [this]
 have hl : p.length ≠ 0 := fun h => h0 (List.length_eq_zero_iff.1 h)
 have hz : ((p.length : Int) == 0) = false := beq_eq_false_iff_ne.2 (by omega)
 obtain ⟨e, he⟩ := get_ex (l := p) (i := 0) (by omega)
 have he0 : idx p 0 = some e := ixs (i := 0) he
 obtain ⟨r, hr, hrr⟩ := yafa hB e
 rcases hrr with ⟨rfl, hno⟩ | ⟨i, k, b, rfl, hi, hk⟩
 ·have : ¬ IsP B p := fun h => by
   obtain ⟨b, hb, h2⟩ := yalm h
   exact hno b hb (h2 e (List.mem_of_getElem? he))
  have h0i : decide ((-1 : Int) < 0) = true := by decide
  simp only [hz, Bool.false_eq_true, if_false, he0, Option.bind_some, hr, h0i, if_true, this, decide_false]
 ·have hbl := hB.2 b (List.mem_of_getElem? hi)
  have hkl := get_lt hk
  have hw : w64 ((k : Int) + (p.length : Int)) = ((k + p.length : Nat) : Int) := by rw [w64_id (by omega)]; omega
  have hni : decide ((i : Int) < 0) = false := by rw [decide_eq_false_iff_not]; omega
  simp only [hz, Bool.false_eq_true, if_false, he0, Option.bind_some, hr, hni, idx_nat, hi, hw]
  by_cases hle : k + p.length ≤ b.length
  ·have hd : decide ((b.length : Int) < ((k + p.length : Nat) : Int)) = false := by rw [decide_eq_false_iff_not]; omega
   have hck : chk ((0 : Int) ≤ (k : Int) ∧ (k : Int) ≤ ((k + p.length : Nat) : Int) ∧ ((k + p.length : Nat) : Int) ≤ (b.length : Int)) = some () := chk_of (by omega)
   simp only [hd, Bool.false_eq_true, if_false, hck, Option.bind_some, Int.toNat_natCast]
   rw [sameS (by rw [List.length_drop, List.length_take]; omega) (by rw [List.length_drop, List.length_take]; omega)]
   simp only [Option.bind_some]
   refine congrArg some (decide_eq_decide.2 ⟨fun h => ⟨h0, i, k, b, hi, hle, h⟩, fun ⟨_, i', k', b', hi', hle', h'⟩ => ?_⟩)
   have hk' := yapy hi' hle' h' (j := 0) (by omega)
   rw [he, Nat.add_zero] at hk'
   obtain ⟨rfl, rfl⟩ := hI _ _ _ _ _ _ _ _ hi' hk' hi hk rfl
   rw [hi] at hi'; cases hi'
   exact h'
  ·have hd : decide ((b.length : Int) < ((k + p.length : Nat) : Int)) = true := by rw [decide_eq_true_eq]; omega
   have : ¬ IsP B p := fun ⟨_, i', k', b', hi', hle', h'⟩ => by
    have hk' := yapy hi' hle' h' (j := 0) (by omega)
    rw [he, Nat.add_zero] at hk'
    obtain ⟨rfl, rfl⟩ := hI _ _ _ _ _ _ _ _ hi' hk' hi hk rfl
    rw [hi] at hi'; cases hi'
    exact hle hle'
   simp only [hd, if_true, this, decide_false]
def yaff (r : Rules) : Prop := (0 ≤ r.SignOn ∧ r.SignOn ≤ 900) ∧ (0 ≤ r.SignOff ∧ r.SignOff ≤ 900) ∧ (0 ≤ r.MaxDrive ∧ r.MaxDrive ≤ 900) ∧ (0 ≤ r.MinBreak ∧ r.MinBreak ≤ 900) ∧ (0 ≤ r.PaidBreak ∧ r.PaidBreak ≤ 900) ∧ (0 ≤ r.MaxLength ∧ r.MaxLength ≤ 900)
noncomputable instance (r : Rules) : Decidable (yaff r) := Classical.propDecidable _
theorem ybaq (r : Rules) : zq7 r = some (decide (yaff r)) := by
 unfold zq7
 have hP : yaff r ↔ ∀ x ∈ ([r.SignOn, r.SignOff, r.MaxDrive, r.MinBreak, r.PaidBreak, r.MaxLength] : List Int), 0 ≤ x ∧ x ≤ 900 := by
  unfold yaff
  simp only [List.mem_cons, List.not_mem_nil, or_false, forall_eq_or_imp, forall_eq]
 have hl : ([r.SignOn, r.SignOff, r.MaxDrive, r.MinBreak, r.PaidBreak, r.MaxLength] : List Int).length = 6 := rfl
 generalize hL : ([r.SignOn, r.SignOff, r.MaxDrive, r.MinBreak, r.PaidBreak, r.MaxLength] : List Int) = L at hP hl
 refine flb_dec (.iter (fun m v => ∃ i : Nat, v = (i : Int) ∧ m + i = 6 ∧ ∀ x ∈ L.take i, 0 ≤ x ∧ x ≤ 900) (n := 6) ⟨0, rfl, rfl, by simp⟩ ?_)
 rintro m v ⟨i, rfl, hm, h⟩
 unfold yase
 rw [hL]
 refine .iteP (fun hc => ?_) (fun hc => .dn (.inl ⟨rfl, hP.2 (by rw [List.take_of_length_le (by omega)] at h; exact h)⟩))
 obtain ⟨x, hx⟩ := get_ex (l := L) (i := i) (by omega)
 refine .chk (by omega) (.eq (ixs hx) (.eq (yabm _ _ _) (.iteN (fun hn => .dn (.inr ⟨rfl, fun hR => hn (hP.1 hR x (List.mem_of_getElem? hx))⟩)) (fun hp => .nx ⟨m - 1, by omega, i + 1, w64_succ (by omega), by omega, fun y hy => ?_⟩))))
 rw [take_succ hx] at hy
 rcases List.mem_append.1 hy with hy | hy
 ·exact h y hy
 ·rw [List.mem_singleton.1 hy]; exact hp
theorem ybap (r : Rules) : zq63 r = some (decide (yaff r)) := by
 have hm : ∀ x, zq60 x = some (decide (0 ≤ x ∧ x ≤ 900)) := fun x => by unfold zq60; rw [yabv]; rfl
 unfold zq63 yaff
 simp only [hm, Option.bind_some]
 by_cases h1 : 0 ≤ r.SignOn ∧ r.SignOn ≤ 900 <;> by_cases h2 : 0 ≤ r.SignOff ∧ r.SignOff ≤ 900 <;> by_cases h3 : 0 ≤ r.MaxDrive ∧ r.MaxDrive ≤ 900 <;> by_cases h4 : 0 ≤ r.MinBreak ∧ r.MinBreak ≤ 900 <;> by_cases h5 : 0 ≤ r.PaidBreak ∧ r.PaidBreak ≤ 900 <;> by_cases h6 : 0 ≤ r.MaxLength ∧ r.MaxLength ≤ 900 <;> simp [h1, h2, h3, h4, h5, h6]
theorem yaey (hb : TB t) (hf : FB f) (hB : BB B) (r : Rules) : ∃ v, zq13 t f B r = some v ∧ zq54 t f B r = some v ∧ (v = true → AskF t f ∧ yafh t f B ∧ yaff r) := by
 obtain ⟨v, g1, g2, g3⟩ := yafp hb hf hB
 unfold zq13 zq54
 rw [g1, g2, ybaq, ybap]
 cases v with
 | false => exact ⟨false, rfl, rfl, fun h => by cases h⟩
 | true =>
  obtain ⟨hA, hP⟩ := g3 rfl
  refine ⟨decide (yaff r), rfl, rfl, fun h => ⟨hA, hP, of_decide_eq_true h⟩⟩
noncomputable def pS (t : Timetable) (p : List Int) : Int := (tr t (p.getD 0 0)).Start
noncomputable def pE (t : Timetable) (p : List Int) : Int := ev t (tr t (p.getD (p.length - 1) 0))
noncomputable def gap (t : Timetable) (f : Fleet) (a b : List Int) : Int := w64 (w64 (pS t b - pE t a) - dv t f (tr t (a.getD (a.length - 1) 0)) (tr t (b.getD 0 0)))
def Trs (t : Timetable) (p : List Int) : Prop := p ≠ [] ∧ p.length ≤ 3000 ∧ ∀ e ∈ p, 0 ≤ tix t e
theorem yayf (hT : ∀ b ∈ B, ∀ e ∈ b, 0 ≤ tix t e) {p : List Int} (h : IsP B p) (hp : p.length ≤ 3000) : Trs t p := by
 obtain ⟨b, hb, h2⟩ := yalm h
 exact ⟨h.1, hp, fun e he => hT b hb e (h2 e he)⟩
theorem yaca {p : List Int} (h : Trs t p) : ∃ a z, p[0]? = some a ∧ p[p.length - 1]? = some z ∧ 0 ≤ tix t a ∧ 0 ≤ tix t z ∧ w64 ((p.length : Int) - 1) = ((p.length - 1 : Nat) : Int) ∧ p.getD 0 0 = a ∧ p.getD (p.length - 1) 0 = z := by
 have hl : p.length ≠ 0 := fun h' => h.1 (List.length_eq_zero_iff.1 h')
 obtain ⟨a, ha⟩ := get_ex (l := p) (i := 0) (by omega)
 obtain ⟨z, hz⟩ := get_ex (l := p) (i := p.length - 1) (by omega)
 refine ⟨a, z, ha, hz, h.2.2 a (List.mem_of_getElem? ha), h.2.2 z (List.mem_of_getElem? hz), ?_, getD0 ha, getD0 hz⟩
 have := h.2.1
 rw [w64_id (by omega)]; omega
theorem spanI (hb : TB t) (hA : AskF t f) {p : List Int} (h : Trs t p) : zq33 t p = some ⟨pS t p, pE t p⟩ := by
 obtain ⟨a, z, ha, hz, ta, tz, hw, ga, gz⟩ := yaca h
 have ha0 : idx p 0 = some a := ixs (i := 0) ha
 unfold zq33 pS pE
 simp only [ha0, Option.bind_some, withI hb ta, hw, idx_nat, hz, withI hb tz, (yarz hA tz).2.2.1, ga, gz]
theorem yaja (hb : TB t) {p : List Int} (h : Trs t p) : zq64 t p = some (pS t p) := by
 obtain ⟨a, z, ha, hz, ta, tz, hw, ga, gz⟩ := yaca h
 have ha0 : idx p 0 = some a := ixs (i := 0) ha
 unfold zq64 pS
 simp only [ha0, Option.bind_some, tripS hb, yain ta, ga]
theorem endS (hb : TB t) (hA : AskF t f) {p : List Int} (h : Trs t p) : zq57 t p = some (pE t p) := by
 obtain ⟨a, z, ha, hz, ta, tz, hw, ga, gz⟩ := yaca h
 unfold zq57 pE
 simp only [hw, idx_nat, hz, Option.bind_some, tripS hb, (yarz hA tz).2.2.2, gz]
theorem gapS (hb : TB t) (hA : AskF t f) {a b : List Int} (ha : Trs t a) (hb' : Trs t b) : zq58 t f a b = some (gap t f a b) := by
 obtain ⟨_, z, _, hz, _, tz, hw, _, gz⟩ := yaca ha
 obtain ⟨c, _, hc, _, tc, _, _, gc, _⟩ := yaca hb'
 have hc0 : idx b 0 = some c := ixs (i := 0) hc
 unfold zq58 gap
 simp only [yaja hb hb', endS hb hA ha, Option.bind_some, hw, idx_nat, hz, hc0, tripS hb, (yalr hA tz tc).2.2, gz, gc]
noncomputable def gaps (t : Timetable) (f : Fleet) (d : List (List Int)) : List Int := (List.range (d.length - 1)).map fun v => gap t f (d.getD v []) (d.getD (v + 1) [])
theorem getDL {d : List (List Int)} {k : Nat} {p : List Int} (h : d[k]? = some p) : d.getD k [] = p := by rw [List.getD_eq_getElem?_getD, h]; rfl
theorem gapsI (hb : TB t) (hA : AskF t f) {d : List (List Int)} (hl : d.length ≤ 4) (hd : ∀ p ∈ d, Trs t p) : zq20 t f d = some (gaps t f d) := by
 unfold zq20
 refine Tot.val (.call (P := fun o => o = gaps t f d) ?_ fun o ho => .ok ho)
 refine .iter (fun m (s : Int × List Int) => ∃ v : Nat, s.1 = ((v + 1 : Nat) : Int) ∧ m + v = d.length ∧ s.2.length ≤ v ∧ (v ≤ d.length - 1 → s.2 = (List.range v).map fun v => gap t f (d.getD v []) (d.getD (v + 1) [])) ∧ (d.length ≤ v → s.2 = gaps t f d)) (n := d.length) ⟨0, rfl, rfl, by simp, fun _ => rfl, fun h => ?_⟩ ?_
 ·have : d = [] := List.length_eq_zero_iff.1 (by omega)
  subst this; rfl
 rintro m ⟨v', o⟩ ⟨v, e1, hm, hol, ho, hz⟩
 simp only at e1 hol ho hz
 subst e1
 unfold yakg
 refine .iteP (fun hc => ?_) (fun hc => .dn ?_)
 ·obtain ⟨a, ha⟩ := get_ex (l := d) (i := v) (by omega)
  obtain ⟨b, hb'⟩ := get_ex (l := d) (i := v + 1) (by omega)
  have ta := hd a (List.mem_of_getElem? ha)
  have tb := hd b (List.mem_of_getElem? hb')
  obtain ⟨_, z, _, hz', _, tz, hw, _, gz⟩ := yaca ta
  obtain ⟨c, _, hcx, _, tc, _, _, gc, _⟩ := yaca tb
  have hw2 : w64 (((v + 1 : Nat) : Int) - 1) = (v : Int) := by rw [w64_id (by omega)]; omega
  have hc0 : idx b 0 = some c := ixs (i := 0) hcx
  have hgap : w64 (w64 (pS t b - pE t a) - dv t f (tr t z) (tr t c)) = gap t f a b := by unfold gap; rw [gz, gc]
  rw [hw2]
  refine .eq (ixs ha) (.eq (ixs hb') (.eq (spanI hb hA tb) (.eq (spanI hb hA ta) ?_)))
  rw [hw]
  refine .eq (ixs hz') (.eq (withI hb tz) (.eq hc0 (.eq (withI hb tc) (.eq (yalr hA tz tc).2.1 (.chk (by simp; omega) (.nx ⟨m - 1, by omega, v + 1, w64_succ (by omega), by omega, ?_, fun hv => ?_, fun hv => by omega⟩))))))
  ·simp only [List.length_append, List.length_singleton]; omega
  ·show o ++ [w64 (w64 (pS t b - pE t a) - dv t f (tr t z) (tr t c))] = _
   rw [hgap, ho (by omega), List.range_succ, List.map_append, List.map_singleton, getDL ha, getDL hb']
 ·rcases Nat.lt_or_ge v d.length with h | h
  ·have hv : v = d.length - 1 := by omega
   show o = _
   rw [ho (by omega), hv]; rfl
  ·exact hz h
theorem yalh (hb : TB t) (hA : AskF t f) (r : Rules) {d : List (List Int)} (hl : 1 ≤ d.length ∧ d.length ≤ 4) (hd : ∀ p ∈ d, Trs t p) : ∃ n, zq29 t r ⟨d⟩ = some n ∧ zq59 t r ⟨d⟩ = some n := by
 obtain ⟨a, ha⟩ := get_ex (l := d) (i := 0) (by omega)
 obtain ⟨z, hz⟩ := get_ex (l := d) (i := d.length - 1) (by omega)
 have ta := hd a (List.mem_of_getElem? ha)
 have tz := hd z (List.mem_of_getElem? hz)
 have hw : w64 ((d.length : Int) - 1) = ((d.length - 1 : Nat) : Int) := by rw [w64_id (by omega)]; omega
 have ha0 : idx d 0 = some a := ixs (i := 0) ha
 refine ⟨w64 (w64 (w64 (r.SignOn + pE t z) - pS t a) + r.SignOff), ?_, ?_⟩
 ·unfold zq29
  simp only [hw, idx_nat, hz, Option.bind_some, spanI hb hA tz, ha0, spanI hb hA ta]
 ·unfold zq59
  simp only [hw, idx_nat, hz, Option.bind_some, endS hb hA tz, ha0, yaja hb ta]
end
theorem yayq {l c : List Int} (hs : l.Pairwise (· ≤ ·)) (hc : comM l = some c) : c.length < l.length ↔ ¬ l.Nodup := by
 unfold comM at hc
 split at hc
 ·cases hc
 cases hc
 have hget : ∀ {j : Nat} {x : Int}, l[j]? = some x → l.toArray[j]! = x := fun {j x} h => by rw [getElem!_def, List.getElem?_toArray, h]
 have hlen : (Lib.compactUpTo l.toArray l.length).length = ((List.range l.length).filter (Lib.keeps l.toArray)).length := by unfold Lib.compactUpTo; rw [List.length_map]
 have hle : ((List.range l.length).filter (Lib.keeps l.toArray)).length ≤ l.length := Nat.le_trans (List.length_filter_le ..) (by simp)
 have hall : ((List.range l.length).filter (Lib.keeps l.toArray)).length = l.length ↔ ∀ j, j < l.length → Lib.keeps l.toArray j = true := by
  have h := List.length_filter_eq_length_iff (p := Lib.keeps l.toArray) (l := List.range l.length)
  rw [List.length_range] at h
  rw [h]
  exact ⟨fun h j hj => h j (List.mem_range.2 hj), fun h j hj => h j (List.mem_range.1 hj)⟩
 have hk : (∀ j, j < l.length → Lib.keeps l.toArray j = true) ↔ l.Nodup := by
  constructor
  ·intro h
   rw [List.Nodup, List.pairwise_iff_getElem]
   intro i j hi hj hij he
   have h1 := h j hj
   unfold Lib.keeps at h1
   rw [decide_eq_true_eq] at h1
   rcases h1 with h1 | h1
   ·omega
   ·have q1 := List.getElem?_eq_getElem hj
    have q2 := List.getElem?_eq_getElem (l := l) (i := j - 1) (by omega)
    rw [hget q1, hget q2] at h1
    have q3 : l[j - 1] ≤ l[j] := pwG hs (by omega : j - 1 < j) q2 q1
    have q4 : l[i] ≤ l[j - 1] := by
     rcases Nat.lt_or_ge i (j - 1) with h | h
     ·exact pwG hs h (List.getElem?_eq_getElem hi) q2
     ·have : i = j - 1 := by omega
      subst this; exact Int.le_refl _
    omega
  ·intro h j hj
   unfold Lib.keeps
   rw [decide_eq_true_eq]
   by_cases h0 : j = 0
   ·exact .inl h0
   ·right
    have q1 := List.getElem?_eq_getElem hj
    have q2 := List.getElem?_eq_getElem (l := l) (i := j - 1) (by omega)
    rw [hget q1, hget q2]
    exact (pwG h (by omega : j - 1 < j) q2 q1).symm
 rw [hlen, ← hk, ← hall]
 omega
def yabw (B d : List (List Int)) : Prop := (1 ≤ d.length ∧ d.length ≤ 3) ∧ (∀ p ∈ d, IsP B p) ∧ d.flatten.Nodup
noncomputable instance (B d : List (List Int)) : Decidable (yabw B d) := Classical.propDecidable _
theorem yaer : ∀ {d : List (List Int)}, (∀ p ∈ d, p.length ≤ 3000) → d.flatten.length ≤ 3000 * d.length
 | [], _ => by simp
 | p :: d, h => by
  have h1 := yaer (d := d) fun q hq => h q (List.mem_cons_of_mem _ hq)
  have h2 := h p (List.mem_cons_self ..)
  rw [List.flatten_cons, List.length_append, List.length_cons]; omega
section
variable {t : Timetable} {f : Fleet} {B : List (List Int)} {r : Rules} {d : List (List Int)}
theorem ybax (hI : InjB t B) (hB : BB B) (hT : ∀ b ∈ B, ∀ e ∈ b, 0 ≤ tix t e) (hl : d.length ≤ 4) (hp : ∀ p ∈ d, p.length ≤ 3000) : Tot (iter (yahb B ⟨d⟩) ((0 : Int), ([] : List Int))) fun b => (b = .go d.flatten ∧ ∀ p ∈ d, IsP B p) ∨ (b = .ret 1 ∧ ¬ ∀ p ∈ d, IsP B p) := by
 refine .iter (fun m (s : Int × List Int) => ∃ v : Nat, s.1 = (v : Int) ∧ m + v = d.length ∧ s.2 = (d.take v).flatten ∧ ∀ p ∈ d.take v, IsP B p) (n := d.length) ⟨0, rfl, rfl, by simp, by simp⟩ ?_
 rintro m ⟨v', s⟩ ⟨v, e1, hm, e2, hP⟩
 simp only at e1 e2
 subst e1 e2
 unfold yahb
 dsimp only
 refine .iteP (fun hc => ?_) (fun hc => .dn (.inl ?_))
 ·obtain ⟨p, hpv⟩ := get_ex (l := d) (i := v) (by omega)
  have hpm := List.mem_of_getElem? hpv
  have hpl := hp p hpm
  have hfl := yaer (d := d.take v) fun q hq => hp q (List.mem_of_mem_take hq)
  have htl : (d.take v).length ≤ v := by rw [List.length_take]; omega
  refine .eq (ixs hpv) (.eq (yayk hI hB hT hpl) (.iteN (fun hn => .dn (.inr ⟨rfl, fun h => hn (h p hpm)⟩)) (fun hy => .chk (by omega) (.nx ⟨m - 1, by omega, v + 1, w64_succ (by omega), by omega, ?_, fun q hq => ?_⟩))))
  ·rw [take_succ hpv, List.flatten_append]; simp
  ·rw [take_succ hpv] at hq
   rcases List.mem_append.1 hq with hq | hq
   ·exact hP q hq
   ·rw [List.mem_singleton.1 hq]; exact hy
 ·rw [List.take_of_length_le (by omega)] at hP ⊢
  exact ⟨rfl, hP⟩
theorem yayj (hI : InjB t B) (hB : BB B) (hT : ∀ b ∈ B, ∀ e ∈ b, 0 ≤ tix t e) (hl : d.length ≤ 4) (hp : ∀ p ∈ d, p.length ≤ 3000) : zq62 B ⟨d⟩ = some (decide (yabw B d)) := by
 have inner : ∀ (v : Nat) p (k : List Int), d[v]? = some p → k.length ≤ 90000 → k.Nodup → Tot (iter (yagn ⟨d⟩ (v : Int)) ((0 : Int), k)) fun x => (x = .go (k ++ p) ∧ (k ++ p).Nodup) ∨ (x = .ret (.dn (.ret false)) ∧ ¬ (k ++ p).Nodup) := fun v p k hv hkl hk => by
  have hpl := hp p (List.mem_of_getElem? hv)
  refine .iter (fun m (s : Int × List Int) => ∃ j : Nat, s.1 = (j : Int) ∧ m + j = p.length ∧ s.2 = k ++ p.take j ∧ s.2.Nodup) (n := p.length) ⟨0, rfl, rfl, by simp, hk⟩ ?_
  rintro m ⟨j', s⟩ ⟨j, e1, hm, e2, hN⟩
  simp only at e1 e2 hN
  subst e1 e2
  unfold yagn
  dsimp only
  refine .eq (ixs hv) (.iteP (fun hc => ?_) (fun hc => .dn (.inl ?_)))
  ·obtain ⟨e, he⟩ := get_ex (l := p) (i := j) (by omega)
   have htl : (k ++ p.take j).length ≤ 93000 := by rw [List.length_append, List.length_take]; omega
   have hspl : k ++ p = (k ++ p.take (j + 1)) ++ p.drop (j + 1) := by rw [List.append_assoc, List.take_append_drop]
   refine .eq (ixs hv) (.eq (ixs he) ?_)
   by_cases hm' : e ∈ k ++ p.take j
   ·have hh : zq85 (k ++ p.take j) e = some true := by
     rw [yaft (k ++ p.take j) (by omega) e]; simp [hm']
    refine .eq hh (.dn (.inr ⟨rfl, fun h => ?_⟩))
    rw [hspl] at h
    have h1 := (List.nodup_append.1 h).1
    rw [take_succ he, ← List.append_assoc] at h1
    exact (List.nodup_append.1 h1).2.2 e hm' e (List.mem_singleton.2 rfl) rfl
   ·have hh : zq85 (k ++ p.take j) e = some false := by
     rw [yaft (k ++ p.take j) (by omega) e]; simp only [hm', decide_false]
    refine .eq hh (.eq (ixs hv) (.eq (ixs he) (.chk (by rw [List.length_singleton]; omega) (.nx ⟨m - 1, by omega, j + 1, w64_succ (by omega), by omega, ?_, ?_⟩))))
    ·rw [take_succ he, List.append_assoc]
    ·refine List.nodup_append.2 ⟨hN, by simp, fun a ha c hc => ?_⟩
     rw [List.mem_singleton.1 hc]
     intro h; exact hm' (h ▸ ha)
  ·rw [List.take_of_length_le (by omega)] at hN ⊢
   exact ⟨rfl, hN⟩
 have outer : Tot (iter (yagm B ⟨d⟩) ((0 : Int), ([] : List Int))) fun x => (x = .go () ∧ (∀ p ∈ d, IsP B p) ∧ d.flatten.Nodup) ∨ (x = .ret false ∧ ¬ ((∀ p ∈ d, IsP B p) ∧ d.flatten.Nodup)) := by
  refine .iter (fun m (s : Int × List Int) => ∃ v : Nat, s.1 = (v : Int) ∧ m + v = d.length ∧ s.2 = (d.take v).flatten ∧ s.2.Nodup ∧ ∀ p ∈ d.take v, IsP B p) (n := d.length) ⟨0, rfl, rfl, by simp, by simp, by simp⟩ ?_
  rintro m ⟨v', s⟩ ⟨v, e1, hm, e2, hN, hP⟩
  simp only at e1 e2 hN
  subst e1 e2
  unfold yagm
  dsimp only
  refine .iteP (fun hc => ?_) (fun hc => .dn (.inl ?_))
  ·obtain ⟨p, hpv⟩ := get_ex (l := d) (i := v) (by omega)
   have hpm := List.mem_of_getElem? hpv
   have hpl := hp p hpm
   have hfl := yaer (d := d.take v) fun q hq => hp q (List.mem_of_mem_take hq)
   have htl : (d.take v).length ≤ v := by rw [List.length_take]; omega
   refine .eq (ixs hpv) (.eq (ybar hI hB hT hpl) (.iteN (fun hn => .dn (.inr ⟨rfl, fun h => hn (h.1 p hpm)⟩)) (fun hy => ?_)))
   obtain ⟨x, hx, hxx⟩ := inner v p (d.take v).flatten hpv (by omega) hN
   have hts : (d.take (v + 1)).flatten = (d.take v).flatten ++ p := by rw [take_succ hpv, List.flatten_append]; simp
   rw [hx]
   rcases hxx with ⟨rfl, h⟩ | ⟨rfl, h⟩
   ·refine .nx ⟨m - 1, by omega, v + 1, w64_succ (by omega), by omega, hts.symm, h, fun q hq => ?_⟩
    rw [take_succ hpv] at hq
    rcases List.mem_append.1 hq with hq | hq
    ·exact hP q hq
    ·rw [List.mem_singleton.1 hq]; exact hy
   ·refine .dn (.inr ⟨rfl, fun hh => h ?_⟩)
    have h2 := hh.2
    rw [← List.take_append_drop (v + 1) d, List.flatten_append, hts] at h2
    exact (List.nodup_append.1 h2).1
  ·rw [List.take_of_length_le (by omega)] at hP hN
   exact ⟨rfl, hP, hN⟩
 unfold zq62
 obtain ⟨x, hx, h⟩ := outer
 rw [hx]
 rcases h with ⟨rfl, h1, h2⟩ | ⟨rfl, h⟩
 ·simp only [flb_go, yabv, Option.bind_some]
  refine congrArg some (decide_eq_decide.2 ⟨fun h => ⟨by omega, h1, h2⟩, fun h => by have := h.1; omega⟩)
 ·have : ¬ yabw B d := fun hh => h ⟨hh.2.1, hh.2.2⟩
  simp [this]
def yalu (t : Timetable) (r : Rules) (d : List (List Int)) : Prop := ∀ p ∈ d, ¬ r.MaxDrive < w64 (pE t p - pS t p)
def GapP (t : Timetable) (f : Fleet) (r : Rules) (d : List (List Int)) : Prop := ∀ g ∈ gaps t f d, ¬ g < r.MinBreak
theorem yacj {X : Type} (l : List X) (hl : l.length ≤ 100000) (ok : X → Prop) [DecidablePred ok] {R : Type} (rv : R) {step : Int → Option (Lp Int (Fl R Unit))} (off : Nat) (hs : ∀ (i : Nat) x, l[i]? = some x → step ((i + off : Nat) : Int) = if ok x then some (.nx (w64 (((i + off : Nat) : Int) + 1))) else some (.dn (.ret rv))) (he : ∀ i : Nat, l.length ≤ i → step ((i + off : Nat) : Int) = some (.dn (.go ()))) (ho : off ≤ 1) : Tot (iter step (off : Int)) fun b => (b = .go () ∧ ∀ x ∈ l, ok x) ∨ (b = .ret rv ∧ ¬ ∀ x ∈ l, ok x) := by
 refine .iter (fun m v => ∃ i : Nat, v = ((i + off : Nat) : Int) ∧ m + i = l.length ∧ ∀ x ∈ l.take i, ok x) (n := l.length) ⟨0, by simp, rfl, by simp⟩ ?_
 rintro m v ⟨i, rfl, hm, hP⟩
 by_cases hi : i < l.length
 ·obtain ⟨x, hx⟩ := get_ex hi
  rw [hs i x hx]
  by_cases hk : ok x
  ·rw [if_pos hk]
   refine .nx ⟨m - 1, by omega, i + 1, ?_, by omega, fun y hy => ?_⟩
   ·rw [w64_id (by omega)]; omega
   ·rw [take_succ hx] at hy
    rcases List.mem_append.1 hy with hy | hy
    ·exact hP y hy
    ·rw [List.mem_singleton.1 hy]; exact hk
  ·rw [if_neg hk]
   exact .dn (.inr ⟨rfl, fun h => hk (h x (List.mem_of_getElem? hx))⟩)
 ·rw [he i (by omega)]
  rw [List.take_of_length_le (by omega)] at hP
  exact .dn (.inl ⟨rfl, hP⟩)
theorem ybaw (hb : TB t) (hA : AskF t f) (hl : d.length ≤ 4) (hd : ∀ p ∈ d, Trs t p) : Tot (iter (yade t r ⟨d⟩) (0 : Int)) fun b => (b = .go () ∧ yalu t r d) ∨ (b = .ret 2 ∧ ¬ yalu t r d) := by
 refine yacj d (by omega) (fun p => ¬ r.MaxDrive < w64 (pE t p - pS t p)) (2 : Int) 0 (fun i p hp => ?_) (fun i hi => ?_) (by omega)
 ·have hlt : decide (((i + 0 : Nat) : Int) < (d.length : Int)) = true := by have := get_lt hp; rw [decide_eq_true_eq]; omega
  have hsp := spanI hb hA (hd p (List.mem_of_getElem? hp))
  have hp' : idx d ((i + 0 : Nat) : Int) = some p := ixs hp
  by_cases h : r.MaxDrive < w64 (pE t p - pS t p)
  ·simp only [yade, hlt, if_true, hp', Option.bind_some, hsp, h, decide_true, not_true, if_false]
  ·simp only [yade, hlt, if_true, hp', Option.bind_some, hsp, h, decide_false, Bool.false_eq_true, if_false, not_false_eq_true]
 ·have hlt : decide (((i + 0 : Nat) : Int) < (d.length : Int)) = false := by rw [decide_eq_false_iff_not]; omega
  simp only [yade, hlt, Bool.false_eq_true, if_false]
theorem ybav (hb : TB t) (hA : AskF t f) (hl : d.length ≤ 4) (hd : ∀ p ∈ d, Trs t p) : Tot (iter (yacz t r ⟨d⟩) (0 : Int)) fun b => (b = .go () ∧ yalu t r d) ∨ (b = .ret 2 ∧ ¬ yalu t r d) := by
 refine yacj d (by omega) (fun p => ¬ r.MaxDrive < w64 (pE t p - pS t p)) (2 : Int) 0 (fun i p hp => ?_) (fun i hi => ?_) (by omega)
 ·have hlt : decide (((i + 0 : Nat) : Int) < (d.length : Int)) = true := by have := get_lt hp; rw [decide_eq_true_eq]; omega
  have tp := hd p (List.mem_of_getElem? hp)
  have hp' : idx d ((i + 0 : Nat) : Int) = some p := ixs hp
  by_cases h : r.MaxDrive < w64 (pE t p - pS t p)
  ·simp only [yacz, hlt, if_true, hp', Option.bind_some, endS hb hA tp, yaja hb tp, h, decide_true, not_true, if_false]
  ·simp only [yacz, hlt, if_true, hp', Option.bind_some, endS hb hA tp, yaja hb tp, h, decide_false, Bool.false_eq_true, if_false, not_false_eq_true]
 ·have hlt : decide (((i + 0 : Nat) : Int) < (d.length : Int)) = false := by rw [decide_eq_false_iff_not]; omega
  simp only [yacz, hlt, Bool.false_eq_true, if_false]
theorem yalp (t : Timetable) (f : Fleet) (d : List (List Int)) : (gaps t f d).length = d.length - 1 := by unfold gaps; rw [List.length_map, List.length_range]
theorem gapI (hl : d.length ≤ 4) : Tot (iter (yadd r (gaps t f d)) (0 : Int)) fun b => (b = .go () ∧ GapP t f r d) ∨ (b = .ret 3 ∧ ¬ GapP t f r d) := by
 have hgl := yalp t f d
 refine yacj (gaps t f d) (by omega) (fun g => ¬ g < r.MinBreak) (3 : Int) 0 (fun i g hg => ?_) (fun i hi => ?_) (by omega)
 ·have hlt : decide (((i + 0 : Nat) : Int) < ((gaps t f d).length : Int)) = true := by have := get_lt hg; rw [decide_eq_true_eq]; omega
  have hg' : idx (gaps t f d) ((i + 0 : Nat) : Int) = some g := ixs hg
  by_cases h : g < r.MinBreak
  ·simp only [yadd, hlt, if_true, hg', Option.bind_some, h, decide_true, not_true, if_false]
  ·simp only [yadd, hlt, if_true, hg', Option.bind_some, h, decide_false, Bool.false_eq_true, if_false, not_false_eq_true]
 ·have hlt : decide (((i + 0 : Nat) : Int) < ((gaps t f d).length : Int)) = false := by rw [decide_eq_false_iff_not]; omega
  simp only [yadd, hlt, Bool.false_eq_true, if_false]
theorem gapsS (hb : TB t) (hA : AskF t f) (hl : d.length ≤ 4) (hd : ∀ p ∈ d, Trs t p) : Tot (iter (yacy t f r ⟨d⟩) (1 : Int)) fun b => (b = .go () ∧ GapP t f r d) ∨ (b = .ret 3 ∧ ¬ GapP t f r d) := by
 have hgl := yalp t f d
 refine yacj (gaps t f d) (by omega) (fun g => ¬ g < r.MinBreak) (3 : Int) 1 (fun i g hg => ?_) (fun i hi => ?_) (by omega)
 ·have hi := get_lt hg
  have hlt : decide (((i + 1 : Nat) : Int) < (d.length : Int)) = true := by rw [decide_eq_true_eq]; omega
  obtain ⟨a, ha⟩ := get_ex (l := d) (i := i) (by omega)
  obtain ⟨b, hb'⟩ := get_ex (l := d) (i := i + 1) (by omega)
  have hgv : g = gap t f a b := by
   unfold gaps at hg
   rw [List.getElem?_map, List.getElem?_range (by omega)] at hg
   have := Option.some.inj hg
   rw [← this]
   show gap t f (d.getD i []) (d.getD (i + 1) []) = _
   rw [getDL ha, getDL hb']
  have hw : w64 (((i + 1 : Nat) : Int) - 1) = (i : Int) := by rw [w64_id (by omega)]; omega
  have hgs := gapS hb hA (hd a (List.mem_of_getElem? ha)) (hd b (List.mem_of_getElem? hb'))
  rw [← hgv] at hgs
  have ha' : idx d (i : Int) = some a := ixs ha
  have hb2 : idx d ((i + 1 : Nat) : Int) = some b := ixs hb'
  by_cases h : g < r.MinBreak
  ·simp only [yacy, hlt, if_true, hw, ha', hb2, Option.bind_some, hgs, h, decide_true, not_true, if_false]
  ·simp only [yacy, hlt, if_true, hw, ha', hb2, Option.bind_some, hgs, h, decide_false, Bool.false_eq_true, if_false, not_false_eq_true]
 ·have hlt : decide (((i + 1 : Nat) : Int) < (d.length : Int)) = false := by rw [decide_eq_false_iff_not]; omega
  simp only [yacy, hlt, Bool.false_eq_true, if_false]
theorem yaje (hb : TB t) (hA : AskF t f) (hP : yafh t f B) (hB : BB B) (hl : d.length ≤ 4) (hp : ∀ p ∈ d, p.length ≤ 3000) : ∃ v, zq15 t f B r ⟨d⟩ = some v ∧ zq56 t f B r ⟨d⟩ = some v ∧ (v = 0 → yabw B d ∧ (∀ p ∈ d, Trs t p) ∧ GapP t f r d ∧ ∃ n, zq29 t r ⟨d⟩ = some n ∧ ¬ r.MaxLength < n) := by
 have hI := yayo hP.2.1
 have hT := fun b h => (hP.1 b h).2.1
 have hS := yayj (d := d) hI hB hT hl hp
 unfold zq15 zq56
 rw [hS, yabm]
 by_cases h13 : (1 : Int) ≤ (d.length : Int) ∧ (d.length : Int) ≤ 3
 ·obtain ⟨x, hx, hxx⟩ := ybax (d := d) hI hB hT hl hp
  simp only [h13, and_self, decide_true, Bool.not_true, Bool.false_eq_true, if_false, Option.bind_some, hx]
  rcases hxx with ⟨rfl, hall⟩ | ⟨rfl, hno⟩
  ·have hfl := yaer hp
   obtain ⟨s, hs, hsp, hss⟩ := yatw d.flatten (by omega)
   have hsl := hsp.length_eq
   have hck : chk (([] : List Int).length + s.length ≤ 4294967296) = some () := chk_of (by rw [List.length_nil]; omega)
   obtain ⟨p0, hp0⟩ := get_ex (l := d) (i := 0) (by omega)
   have hne : s.length ≠ 0 := by
    have hp0m := List.mem_of_getElem? hp0
    have h1 := (hall p0 hp0m).1
    cases hc : p0 with
    | nil => exact absurd hc h1
    | cons a q =>
     have : a ∈ d.flatten := List.mem_flatten.2 ⟨p0, hp0m, by rw [hc]; exact List.mem_cons_self ..⟩
     have := List.length_pos_of_mem this
     omega
   obtain ⟨c, hc⟩ : ∃ c, comM s = some c := ⟨_, by unfold comM; rw [if_neg hne]⟩
   have hcl := yayq hss hc
   have hnd : s.Nodup ↔ d.flatten.Nodup := hsp.nodup_iff
   have hcm : zq112 s = some c := hc
   have hclone : zq111 s = some s := by unfold zq111; rw [hck]; rfl
   simp only [flb_go, hs, Option.bind_some, hclone, hcm]
   by_cases hN : d.flatten.Nodup
   ·have hPO : yabw B d := ⟨by omega, hall, hN⟩
    have hlt : ¬ (c.length : Int) < (s.length : Int) := fun h => (hcl.1 (by omega)) (hnd.2 hN)
    have hd : ∀ p ∈ d, Trs t p := fun p hpm => yayf hT (hall p hpm) (hp p hpm)
    obtain ⟨a1, ha1, ha2⟩ := ybaw (r := r) hb hA hl hd
    obtain ⟨b1, hb1, hb2⟩ := ybav (r := r) hb hA hl hd
    obtain ⟨a3, ha3, ha4⟩ := gapI (t := t) (f := f) (r := r) hl
    obtain ⟨b3, hb3, hb4⟩ := gapsS (r := r) hb hA hl hd
    obtain ⟨n, n1, n2⟩ := yalh hb hA r (d := d) ⟨by omega, hl⟩ hd
    simp only [hPO, decide_true, Bool.not_true, Bool.false_eq_true, if_false, hlt, decide_false, ha1, hb1, gapsI hb hA hl hd, ha3, hb3]
    by_cases hD : yalu t r d
    ·rcases ha2 with ⟨rfl, _⟩ | ⟨_, h⟩
     ·rcases hb2 with ⟨rfl, _⟩ | ⟨_, h⟩
      ·simp only [flb_go, Option.bind_some, ha3, hb3, gapsI hb hA hl hd]
       by_cases hG : GapP t f r d
       ·rcases ha4 with ⟨rfl, _⟩ | ⟨_, h⟩
        ·rcases hb4 with ⟨rfl, _⟩ | ⟨_, h⟩
         ·simp only [flb_go, n1, n2, Option.bind_some]
          by_cases hM : r.MaxLength < n
          ·exact ⟨4, by simp [hM, ha3], by simp [hM, hb3], fun h => by cases h⟩
          ·exact ⟨0, by simp [hM, ha3], by simp [hM, hb3], fun _ => ⟨trivial, hd, hG, n, rfl, hM⟩⟩
         ·exact absurd hG h
        ·exact absurd hG h
       ·rcases ha4 with ⟨_, h⟩ | ⟨rfl, _⟩
        ·exact absurd h hG
        ·rcases hb4 with ⟨_, h⟩ | ⟨rfl, _⟩
         ·exact absurd h hG
         ·exact ⟨3, rfl, rfl, fun h => by cases h⟩
      ·exact absurd hD h
     ·exact absurd hD h
    ·rcases ha2 with ⟨_, h⟩ | ⟨rfl, _⟩
     ·exact absurd h hD
     ·rcases hb2 with ⟨_, h⟩ | ⟨rfl, _⟩
      ·exact absurd h hD
      ·exact ⟨2, rfl, rfl, fun h => by cases h⟩
   ·have hPO : ¬ yabw B d := fun h => hN h.2.2
    have hlt : (c.length : Int) < (s.length : Int) := by
     have := hcl.2 fun h => hN (hnd.1 h)
     omega
    simp only [hPO, decide_false, Bool.not_false, if_true, hlt, decide_true]
    exact ⟨1, rfl, rfl, fun h => by cases h⟩
  ·have hPO : ¬ yabw B d := fun h => hno h.2.1
   simp only [hPO, decide_false, Bool.not_false, if_true]
   exact ⟨1, rfl, rfl, fun h => by cases h⟩
 ·have hPO : ¬ yabw B d := fun h => h13 (by have := h.1; omega)
  simp only [h13, hPO, decide_false, Bool.not_false, if_true, Option.bind_some]
  exact ⟨1, rfl, rfl, fun h => by cases h⟩
end
theorem yafd {k : Nat} {c : l1Cur} (h : Cur k c) (hk : k ≤ 100000000) : Tot (zq82 c) fun r => Cur (k + 20) r.2 := by
 unfold zq82
 refine .call (yacr 3 h (by omega)) fun r ⟨hr, _⟩ => .call (yacr 2 hr (by omega)) fun r1 ⟨hr1, _⟩ => .call (yacs _ (by simp) hr1 (by omega)) fun r2 ⟨hr2, _⟩ => .call (yacs _ (by simp) hr2 (by omega)) fun r3 ⟨hr3, _⟩ => .call (yacs _ (by simp) hr3 (by omega)) fun r4 ⟨hr4, _⟩ => .call (yacs _ (by simp) hr4 (by omega)) fun r5 ⟨hr5, _⟩ => ?_
 exact .call (P := fun o => Cur (k + 20) ⟨o.1, o.2.1, ⟨o.2.2.1⟩⟩) (.call (yacr 24 hr5 (by omega)) fun r6 ⟨hr6, _⟩ => .ite (fun _ => .call (yacs _ (by simp) hr6 (by omega)) fun r7 ⟨hr7, _⟩ => .ok (hr7.mono (by omega))) fun _ => .ite (fun _ => .call (yacs _ (by simp) hr6 (by omega)) fun r7 ⟨hr7, _⟩ => .ok (hr7.mono (by omega))) fun _ => .ite (fun _ => .call (yacs _ (by simp) hr6 (by omega)) fun r7 ⟨hr7, _⟩ => .ok (hr7.mono (by omega))) fun _ => .ok (hr6.mono (by omega))) fun ⟨v, v1, v2, v3, v4, v5⟩ ho => .ok ho
theorem yacv {k : Nat} {c : l1Cur} {B : List (List Int)} (h : Cur k c) (hk : k ≤ 100000000) (hB : BB B) : Tot (zq80 c B) fun r => Cur (k + 20) r.2 ∧ r.1.length ≤ 3000 := by
 have hBl := hB.1
 unfold zq80
 refine .ite (fun _ => .ok ⟨h.mono (by omega), by simp⟩) fun h0 => ?_
 have hne : B.length ≠ 0 := fun h => by rw [h] at h0; simp at h0
 refine .call (yacr _ h (by omega)) fun r ⟨hr, p0, p1⟩ => ?_
 obtain ⟨e, he, hem⟩ : ∃ e, idx B r.1 = some e ∧ e ∈ B := by
  obtain ⟨e, he, _, hm⟩ := idx_lt p0 (show r.1 < (B.length : Int) by omega)
  exact ⟨e, he, hm⟩
 have hel := hB.2 e hem
 refine .eq he (.ite (fun _ => .ok ⟨hr.mono (by omega), by simp⟩) fun h1 => ?_)
 have hne1 : e.length ≠ 0 := fun h => by rw [h] at h1; simp at h1
 refine .call (yacr _ hr (by omega)) fun r1 ⟨hr1, q0, q1⟩ => ?_
 have hw : w64 ((e.length : Int) - r1.1) = (e.length : Int) - r1.1 := w64_id (by omega)
 rw [hw]
 refine .call (yacr _ hr1 (by omega)) fun r2 ⟨hr2, z0, z1⟩ => ?_
 have hw1 : w64 (w64 (r1.1 + 1) + r2.1) = r1.1 + 1 + r2.1 := by rw [w64_id (x := r1.1 + 1) (by omega), w64_id (by omega)]
 rw [hw1]
 refine .chk (by omega) ?_
 unfold zq90
 have hlen : ((e.take (r1.1 + 1 + r2.1).toNat).drop r1.1.toNat).length ≤ 2000 := by rw [List.length_drop, List.length_take]; omega
 refine .eq (a := [] ++ ((e.take (r1.1 + 1 + r2.1).toNat).drop r1.1.toNat)) (by rw [chk_of (by rw [List.length_nil]; omega)]; rfl) ?_
 rw [List.nil_append]
 exact .call (P := fun o => Cur (k + 20) ⟨o.1, o.2.1, ⟨o.2.2.1⟩⟩ ∧ o.2.2.2.length ≤ 3000) (.call (t_one 10 hr2 (by omega)) fun r4 hr4 => .ite (fun _ => .call (yacr 9 hr4 (by omega)) fun r5 ⟨hr5, _⟩ => .chk (by rw [List.length_singleton]; omega) (.ok ⟨hr5.mono (by omega), by simp only [List.length_append, List.length_singleton]; omega⟩)) fun _ => .ok ⟨hr4.mono (by omega), by dsimp only; omega⟩) fun ⟨v, v1, v2, v3⟩ ⟨g1, g2⟩ => .ok ⟨g1, g2⟩
section
variable {t : Timetable} {f : Fleet} {B : List (List Int)} {r : Rules}
theorem yale {i k m : Nat} {b : List Int} (hb : B[i]? = some b) (hk : k < m) (hm : m ≤ b.length) : ((b.take m).drop k).length = m - k ∧ IsP B ((b.take m).drop k) := by
 have hl : ((b.take m).drop k).length = m - k := by rw [List.length_drop, List.length_take]; omega
 refine ⟨hl, fun h => ?_, i, k, b, hb, by rw [hl]; omega, ?_⟩
 ·rw [h] at hl
  simp at hl; omega
 ·rw [hl, show k + (m - k) = m by omega]
theorem yaqb (hb : TB t) (hA : AskF t f) (hB : BB B) (hT : ∀ b ∈ B, ∀ e ∈ b, 0 ≤ tix t e) {i k : Nat} {b : List Int} {e : Int} (hi : B[i]? = some b) (hk : b[k]? = some e) (hb12 : b.length ≤ 12) :
  ∃ x x', iter (yadf t B r ((i : Int), (k : Int))) (w64 ((k : Int) + 1), ([] : List (List Int))) = some x ∧ iter (yada t B r ((i : Int), (k : Int))) (w64 ((k : Int) + 1), ([] : List (List Int))) = some x' ∧ (x = x' ∧ x.length ≤ 12 ∧ ∀ p ∈ x, p.length ≤ 12 ∧ p[0]? = some e ∧ IsP B p) := by
 have hkl := get_lt hk
 have hw : w64 ((k : Int) + 1) = ((k + 1 : Nat) : Int) := w64_succ (by omega)
 rw [hw]
 refine iter2 (fun q (a a' : Int × List (List Int)) => a = a' ∧ ∃ m : Nat, a.1 = (m : Int) ∧ k < m ∧ q + m = b.length + 1 ∧ a.2.length + k + 1 ≤ m ∧ ∀ p ∈ a.2, p.length ≤ 12 ∧ p[0]? = some e ∧ IsP B p) _ ?_ (k := b.length - k) ⟨rfl, k + 1, rfl, by omega, by omega, by simp, by simp⟩
 rintro q ⟨v, out⟩ _ ⟨rfl, m, e1, hkm, hq, hol, hP⟩
 simp only at e1 hol hP
 subst e1
 by_cases hm : m ≤ b.length
 ·left
  have hlt : decide ((m : Int) ≤ (b.length : Int)) = true := by rw [decide_eq_true_eq]; omega
  obtain ⟨hpl, hpp⟩ := yale hi hkm hm
  have hTr := yayf hT hpp (by omega)
  have hck : chk ((0 : Int) ≤ (k : Int) ∧ (k : Int) ≤ (m : Int) ∧ (m : Int) ≤ (b.length : Int)) = some () := chk_of (by omega)
  have hck2 : chk (([] : List Int).length + ((b.take m).drop k).length ≤ 4294967296) = some () := chk_of (by rw [List.length_nil]; omega)
  have hck3 : chk (out.length + ([((b.take m).drop k)] : List (List Int)).length ≤ 4294967296) = some () := chk_of (by rw [List.length_singleton]; omega)
  have hcl : zq111 ((b.take m).drop k) = some ((b.take m).drop k) := by unfold zq111; rw [hck2]; rfl
  have how : zq90 ((b.take m).drop k) = some ((b.take m).drop k) := by unfold zq90; rw [hck2]; rfl
  have hp0 : ((b.take m).drop k)[0]? = some e := by rw [List.getElem?_drop, List.getElem?_take_of_lt (by omega)]; exact hk
  have hwm : w64 ((m : Int) + 1) = ((m + 1 : Nat) : Int) := w64_succ (by omega)
  by_cases hd : w64 (pE t ((b.take m).drop k) - pS t ((b.take m).drop k)) ≤ r.MaxDrive
  ·refine ⟨(((m + 1 : Nat) : Int), out ++ [((b.take m).drop k)]), (((m + 1 : Nat) : Int), out ++ [((b.take m).drop k)]), q - 1, ?_, ?_, by omega, rfl, m + 1, rfl, by omega, by omega, by simp only [List.length_append, List.length_singleton]; omega, fun p hp => ?_⟩
   ·simp only [yadf, idx_nat, hi, Option.bind_some, hlt, if_true, hck, Int.toNat_natCast, hcl, spanI hb hA hTr, hd, decide_true, hck3, hwm]
   ·simp only [yada, idx_nat, hi, Option.bind_some, hlt, if_true, hck, Int.toNat_natCast, how, endS hb hA hTr, yaja hb hTr, hd, decide_true, hck3, hwm]
   ·rcases List.mem_append.1 hp with hp | hp
    ·exact hP p hp
    ·rw [List.mem_singleton.1 hp]
     exact ⟨by omega, hp0, hpp⟩
  ·refine ⟨(((m + 1 : Nat) : Int), out), (((m + 1 : Nat) : Int), out), q - 1, ?_, ?_, by omega, rfl, m + 1, rfl, by omega, by omega, by simp only; omega, hP⟩
   ·simp only [yadf, idx_nat, hi, Option.bind_some, hlt, if_true, hck, Int.toNat_natCast, hcl, spanI hb hA hTr, hd, decide_false, Bool.false_eq_true, if_false, hwm]
   ·simp only [yada, idx_nat, hi, Option.bind_some, hlt, if_true, hck, Int.toNat_natCast, how, endS hb hA hTr, yaja hb hTr, hd, decide_false, Bool.false_eq_true, if_false, hwm]
 ·right
  have hlt : decide ((m : Int) ≤ (b.length : Int)) = false := by rw [decide_eq_false_iff_not]; omega
  refine ⟨out, out, ?_, ?_, rfl, by omega, hP⟩
  ·simp only [yadf, idx_nat, hi, Option.bind_some, hlt, Bool.false_eq_true, if_false]
  ·simp only [yada, idx_nat, hi, Option.bind_some, hlt, Bool.false_eq_true, if_false]
theorem row12 (hT : GoodT t) (hP : yafh t f B) {b : List Int} (hb : b ∈ B) : b.length ≤ 12 := by
 have hn := hT.2.1
 have h := hP.2.1
 rw [List.map_flatten, List.Nodup, List.pairwise_flatten] at h
 have h1 : (b.map (tix t)).Nodup := h.1 _ (List.mem_map.2 ⟨b, hb, rfl⟩)
 have := pig (n := t.Trips.length) h1 fun x hx => by
  obtain ⟨e, he, rfl⟩ := List.mem_map.1 hx
  have := yacp ((hP.1 b hb).2.1 e he); omega
 rw [List.length_map] at this; omega
theorem yaiy (a : List (List Int)) (h : a.length ≤ 1000) (hr : ∀ p ∈ a, p.length ≤ 1000) : zq136 a a = some true := by
 unfold zq136
 simp only [bne_self_eq_false, Bool.false_eq_true, if_false]
 rw [all_val (hd := Classical.propDecidable _) a (fun _ _ => True) (fun i x hx => ?_) (by unfold yadl; simp)]
 ·rw [if_pos (fun _ _ _ => trivial)]
 ·have hi := (List.getElem?_eq_some_iff.1 hx).1
  unfold yadl
  have hlt : decide ((i : Int) < (a.length : Int)) = true := by rw [decide_eq_true_eq]; omega
  left
  simp only [hlt, if_true, idx_nat, hx, Option.bind_some, yakx x (hr x (List.mem_of_getElem? hx)), Bool.not_true, Bool.false_eq_true, if_false, w64_succ (n := i) (by omega), and_self]
theorem yajb (hv : zq5 t f B = some true) (hI : InjB t B) (hB : BB B) (hT : ∀ b ∈ B, ∀ e ∈ b, 0 ≤ tix t e) {id : Int} {x : List (List Int)} (hx : x.length ≤ 12) (hp : ∀ p ∈ x, p.length ≤ 12 ∧ p[0]? = some id ∧ IsP B p) (ok : Bool) : iter (yabf (t, f, B, r, id) (x, ok)) (0 : Int) = some (.go ()) := by
 refine Tot.val (.iter (fun m v => ∃ j : Nat, v = (j : Int) ∧ m + j = x.length) (n := x.length) ⟨0, rfl, rfl⟩ ?_)
 rintro m v ⟨j, rfl, hm⟩
 unfold yabf
 dsimp only
 refine .iteP (fun hc => ?_) (fun hc => .dn rfl)
 obtain ⟨p, hpj⟩ := get_ex (l := x) (i := j) (by omega)
 obtain ⟨h1, h2, h3⟩ := hp p (List.mem_of_getElem? hpj)
 have hpl := get_lt h2
 have hz : ((p.length : Int) == 0) = false := beq_eq_false_iff_ne.2 (by omega)
 have hp0 : idx p 0 = some id := ixs (i := 0) h2
 have hip : zq4 t f B p = some (true, true) := by
  unfold zq4
  rw [hv, yayk hI hB hT (by omega)]
  simp only [Option.bind_some, Bool.not_true, Bool.false_eq_true, if_false, h3, decide_true]
 refine .eq (ixs hpj) (.eq hip ?_)
 simp only [Bool.not_true, Bool.false_eq_true, if_false, idx_nat, hpj, Option.bind_some, hz, hp0, bne_self_eq_false]
 exact .nx ⟨m - 1, by omega, j + 1, w64_succ (by omega), by omega⟩
theorem yajc (hb : TB t) (hf : FB f) (hB : BB B) (r : Rules) (id : Int) : ∃ x ok, zq10 t f B r id = some (x, ok) ∧ zq44 t f B r id = some (x, ok) ∧ x.length ≤ 12 ∧ (∀ p ∈ x, p.length ≤ 12) ∧ iter (yabf (t, f, B, r, id) (x, ok)) (0 : Int) = some (.go ()) := by
 obtain ⟨v, v1, v2, v3⟩ := yaey hb hf hB r
 obtain ⟨pl, hpl, hpp⟩ := yafa hB id
 have nil : ∀ ok, iter (yabf (t, f, B, r, id) (([] : List (List Int)), ok)) (0 : Int) = some (.go ()) := fun ok => by
  refine iter_dn ?_
  simp [yabf]
 cases v with
 | false =>
  refine ⟨[], false, ?_, ?_, by simp, by simp, nil _⟩
  ·unfold zq10; simp only [v1, Option.bind_some, Bool.not_false, if_true]
  ·unfold zq44; simp only [hpl, v2, Option.bind_some, Bool.not_false, if_true]
 | true =>
  obtain ⟨hA, hP, hR⟩ := v3 rfl
  have hI := yayo hP.2.1
  have hT := fun b h => (hP.1 b h).2.1
  have hval : zq5 t f B = some true := by
   unfold zq13 at v1
   cases h : zq5 t f B with
   | none => rw [h] at v1; cases v1
   | some w =>
    cases w
    ·rw [h] at v1; cases v1
    ·rfl
  rcases hpp with ⟨rfl, hno⟩ | ⟨i, k, b, rfl, hi, hk⟩
  ·have hneg : decide ((-1 : Int) < 0) = true := by decide
   refine ⟨[], false, ?_, ?_, by simp, by simp, nil _⟩
   ·unfold zq10; simp only [v1, yadh hB hno, Option.bind_some, Bool.not_true, Bool.false_eq_true, if_false, hneg, if_true]
   ·unfold zq44; simp only [hpl, v2, Option.bind_some, Bool.not_true, Bool.false_eq_true, if_false, hneg, if_true]
  ·have hb12 := row12 hA.1 hP (List.mem_of_getElem? hi)
   obtain ⟨x, x', x1, x2, rfl, x3, x4⟩ := yaqb (r := r) hb hA hB hT hi hk hb12
   have hneg : decide ((i : Int) < 0) = false := by rw [decide_eq_false_iff_not]; omega
   refine ⟨x, true, ?_, ?_, x3, fun p hp => (x4 p hp).1, yajb hval hI hB hT x3 x4 _⟩
   ·unfold zq10; simp only [v1, yayi hI hB hT hi hk, Option.bind_some, Bool.not_true, Bool.false_eq_true, if_false, hneg, x1]
   ·unfold zq44; simp only [hpl, v2, Option.bind_some, Bool.not_true, Bool.false_eq_true, if_false, hneg, x2]
theorem yafx (hb : TB t) (hf : FB f) (hB : BB B) (r : Rules) {a b : List Int} (ha : a.length ≤ 3000) (hb' : b.length ≤ 3000) : ∃ w ok, zq3 t f B r a b = some (ok && w == (0 : Int), ok) ∧ zq2 t f B r ⟨[a, b]⟩ = some (w, ok) ∧ zq41 t f B r a b = some (ok && w == (0 : Int), ok) := by
 obtain ⟨v, v1, v2, v3⟩ := yaey hb hf hB r
 cases v with
 | false =>
  refine ⟨0, false, ?_, ?_, ?_⟩
  ·unfold zq3; simp only [v1, Option.bind_some, Bool.not_false, if_true, Bool.false_and]
  ·unfold zq2; simp only [v1, Option.bind_some, Bool.not_false, if_true]
  ·unfold zq41; simp only [v2, Option.bind_some, Bool.not_false, if_true, Bool.false_and]
 | true =>
  obtain ⟨hA, hP, hR⟩ := v3 rfl
  obtain ⟨w, w1, w2, _⟩ := yaje (r := r) (d := [a, b]) hb hA hP hB (by simp) (fun p hp => by
   simp only [List.mem_cons, List.not_mem_nil, or_false] at hp
   rcases hp with rfl | rfl
   ·exact ha
   ·exact hb')
  refine ⟨w, true, ?_, ?_, ?_⟩
  ·unfold zq3; simp only [v1, w1, Option.bind_some, Bool.not_true, Bool.false_eq_true, if_false, Bool.true_and]
  ·unfold zq2; simp only [v1, w1, Option.bind_some, Bool.not_true, Bool.false_eq_true, if_false]
  ·unfold zq41; simp only [v2, w2, Option.bind_some, Bool.not_true, Bool.false_eq_true, if_false, Bool.true_and]
end
theorem yaqc (code : List UInt8) : Tot (zq43 code) fun r => DT r.1 ∧ FB r.2.1 ∧ BB r.2.2.1 := by
 unfold zq43
 exact .call (yaez (cur0 code) (by omega)) fun r ⟨hc, hd, hf, hB⟩ => .call (yafd hc (by omega)) fun r3 hc3 => .call (yarx r.1 hc3 (by omega)) fun r4 _ => .ok ⟨hd, hf, hB⟩
theorem yafv (code : List UInt8) : Tot (zq42 code) fun r => DT r.1 ∧ FB r.2.1 ∧ BB r.2.2.1 ∧ r.2.2.2.2.1.length ≤ 3000 ∧ r.2.2.2.2.2.length ≤ 3000 := by
 unfold zq42
 exact .call (yaez (cur0 code) (by omega)) fun r ⟨hc, hd, hf, hB⟩ => .call (yafd hc (by omega)) fun r4 hc4 => .call (yacv hc4 (by omega) hB) fun r5 ⟨hc5, h5⟩ => .call (yacv hc5 (by omega) hB) fun r6 ⟨_, h6⟩ => .ok ⟨hd, hf, hB, h5, h6⟩
theorem pieces_true (code : List UInt8) : yabt code = some true := by
 unfold yabt
 rw [yaye]
 simp only [Option.bind_some]
 split
 ·rfl
 ·obtain ⟨⟨t, f, B, r, id⟩, hr, hd, hf, hB⟩ := yaqc code
  obtain ⟨⟨s, g, O, q, a, b⟩, hr8, hd8, hf8, hB8, ha, hb⟩ := yafv code
  simp only at hd hf hB hd8 hf8 hB8 ha hb
  obtain ⟨x, ok, x1, x2, x3, x4, x5⟩ := yajc hd.tb hf hB r id
  obtain ⟨w, fine, w1, w2, w3⟩ := yafx hd8.tb hf8 hB8 q ha hb
  rw [hr, hr8]
  simp only [Option.bind_some, x1, x2, x5, w1, w2, w3, flb_go, beq_self_eq_true, Bool.not_true, Bool.false_eq_true, if_false, yaiy x (by omega) (fun p hp => by have := x4 p hp; omega), if_true]
  cases fine <;> simp
end Go.Proofs.YtaegkodcjpgndaaGreat
