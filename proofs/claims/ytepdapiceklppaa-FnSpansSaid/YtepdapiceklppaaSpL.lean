/- The plain law: what the models compute, no program in sight. -/
import Derived.Test.YtepdapiceklppaaSpM
import Derived.Test.YtepdapiceklppaaAbPdq6
namespace Go.Proofs.Ytepdapiceklppaa
open Go Go.Ab
set_option linter.unusedVariables false
set_option linter.unusedSimpArgs false
/-! The cursor of the draws: it always answers. -/
def Cur (k : Nat) (c : l1Cur) : Prop := 0 ≤ c.at_ ∧ c.at_ ≤ k
theorem Cur.mono {k k' : Nat} {c : l1Cur} (h : Cur k c) (hk : k ≤ k') : Cur k' c := ⟨h.1, by have := h.2; omega⟩
theorem next_ok {k : Nat} {c : l1Cur} (h : Cur k c) (hk : k ≤ 4000000000) : ∃ r, s_l1Cur_next c = some r ∧ Cur (k + 1) r.2 ∧ 0 ≤ r.1 ∧ r.1 ≤ 255 := by
  obtain ⟨h0, h1⟩ := h
  have hw : w64 (c.at_ + 1) = c.at_ + 1 := w64_id (by omega)
  have hcur : ∀ s, Cur (k + 1) ⟨c.code_, w64 (c.at_ + 1), s⟩ := fun s => by rw [hw]; exact ⟨by show 0 ≤ c.at_ + 1; omega, by show c.at_ + 1 ≤ _; omega⟩
  unfold s_l1Cur_next
  have hv : ∃ v, (if (decide (c.at_ < (c.code_.length : Int))) = true then (idx c.code_ c.at_).bind fun e1 => some (w64 ((e1.toNat : Int))) else some 0) = some v ∧ 0 ≤ v ∧ v ≤ 255 := by
    by_cases hlt : c.at_ < c.code_.length
    · obtain ⟨x, hx, _, _⟩ := idx_lt h0 hlt
      have := x.toNat_lt
      refine ⟨(x.toNat : Int), ?_, by omega, by omega⟩
      simp only [hlt, decide_true, if_true, hx, Option.bind_some]
      rw [w64_id (by omega)]
    · exact ⟨0, by simp [hlt], by omega, by omega⟩
  obtain ⟨v, hv, hv0, hv1⟩ := hv
  rw [hv]
  simp only [Option.bind_some]
  split
  · exact ⟨_, rfl, hcur _, hv0, hv1⟩
  · rw [chk_of (by omega)]
    exact ⟨_, rfl, hcur _, and255 _⟩
theorem pick_ok {k : Nat} {c : l1Cur} (n : Int) (h : Cur k c) (hk : k ≤ 3000000000) : ∃ r, s_l1Cur_pick c n = some r ∧ Cur (k + 2) r.2 ∧ 0 ≤ r.1 ∧ (r.1 < n ∨ r.1 = 0) := by
  unfold s_l1Cur_pick
  by_cases hn : n ≤ 1
  · exact ⟨(0, c), by simp [hn], h.mono (by omega), by simp, .inr rfl⟩
  · obtain ⟨r, hr, hc, h0, h1⟩ := next_ok h (by omega)
    have hn' : decide (n ≤ 1) = false := by simpa using hn
    simp only [hn', Bool.false_eq_true, if_false, hr, Option.bind_some]
    have hne : chk (n ≠ 0) = some () := chk_of (by omega)
    by_cases h2 : 200 < n
    · obtain ⟨r', hr', hc', h0', h1'⟩ := next_ok hc (by omega)
      have e1 : w64 (r.1 * 256) = r.1 * 256 := w64_id (by omega)
      have e2 : w64 (r.1 * 256 + r'.1) = r.1 * 256 + r'.1 := w64_id (by omega)
      have h3 := tmod_rng (a := r.1 * 256 + r'.1) (b := n) (by omega) (by omega)
      simp only [h2, decide_true, if_true, hr', Option.bind_some, hne, e1, e2]
      exact ⟨_, rfl, hc'.mono (by omega), h3.1, .inl h3.2⟩
    · have h2' : decide (200 < n) = false := by simpa using h2
      have h3 := tmod_rng (a := r.1) (b := n) (by omega) (by omega)
      simp only [h2', Bool.false_eq_true, if_false, Option.bind_some, hne]
      exact ⟨_, rfl, hc.mono (by omega), h3.1, .inl h3.2⟩
theorem one_ok {k : Nat} {c : l1Cur} (n : Int) (h : Cur k c) (hk : k ≤ 3000000000) : ∃ r, s_l1Cur_one c n = some r ∧ Cur (k + 2) r.2 := by
  unfold s_l1Cur_one
  obtain ⟨r, hr, hc, _, _⟩ := pick_ok n h hk
  simp only [hr, Option.bind_some]
  exact ⟨_, rfl, hc⟩
theorem cur0 (code : List UInt8) : Cur 0 ⟨code, 0, ⟨0⟩⟩ := ⟨by show (0 : Int) ≤ 0; omega, by show (0 : Int) ≤ _; omega⟩
/-! Sorting: the helpers of the library's quicksort. -/
theorem fdivp {x : Int} (h : 0 ≤ x) (k : Nat) : x.fdiv (2 ^ k) = x / (2 ^ k : Nat) := by
  rw [Int.fdiv_eq_ediv_of_nonneg _ (by exact_mod_cast Nat.zero_le (2 ^ k))]
  simp
theorem pow_step {x y : Int} {v k : Nat} (h : y * (2 ^ v : Nat) ≤ x) (hy : 0 ≤ y) : y / (2 ^ k : Nat) * (2 ^ (v + k) : Nat) ≤ x := by
  have h1 : y / (2 ^ k : Nat) * (2 ^ k : Nat) ≤ y := Int.ediv_mul_le _ (by have := Nat.two_pow_pos k; omega)
  have h2 : y / (2 ^ k : Nat) * (2 ^ k : Nat) * (2 ^ v : Nat) ≤ y * (2 ^ v : Nat) := Int.mul_le_mul_of_nonneg_right h1 (Int.natCast_nonneg _)
  rw [Nat.add_comm, Nat.pow_add, Int.natCast_mul, ← Int.mul_assoc]
  omega
theorem len64_ok (x : IK .u64) (h0 : 0 ≤ x.v) (h1 : x.v < 8589934592) : Tot (math_bits_Len64 x) fun r => 0 ≤ r ∧ r ≤ 64 ∧ (1 ≤ x.v → ((2 ^ r.toNat : Nat) : Int) ≤ 2 * x.v) := by
  unfold math_bits_Len64
  refine Tot.call (P := fun (r : Int × Int) => 0 ≤ r.1 ∧ r.1 < 4294967296 ∧ (1 ≤ x.v → 1 ≤ r.1) ∧ 0 ≤ r.2 ∧ r.2 ≤ 32 ∧ r.1 * (2 ^ r.2.toNat : Nat) ≤ x.v) (.iteP (fun hc => Tot.chk (by decide) (.ok ?_)) (fun hc => .ok ⟨h0, by dsimp only; omega, fun h => h, Int.le_refl _, by dsimp only; omega, by simp⟩)) fun ⟨x1, v⟩ ⟨p1, p2, p3, p4, p5, p6⟩ => ?_
  · have e : ((2 ^ 32 : Nat) : Int) = 4294967296 := by decide
    have e2 : x.v.fdiv (2 ^ (min (32 : Int).toNat (IntKind.u64).bits)) = x.v / (2 ^ 32 : Nat) := fdivp h0 32
    simp only [e2]
    exact ⟨by omega, by omega, fun _ => by omega, by omega, by omega, Int.ediv_mul_le _ (by decide)⟩
  dsimp only at p1 p2 p3 p4 p5 p6 ⊢
  refine Tot.call (P := fun (r : Int × Int) => 0 ≤ r.1 ∧ r.1 < 65536 ∧ (1 ≤ x.v → 1 ≤ r.1) ∧ 0 ≤ r.2 ∧ r.2 ≤ 48 ∧ r.1 * (2 ^ r.2.toNat : Nat) ≤ x.v) (.iteP (fun hc => Tot.chk (by decide) (.ok ?_)) (fun hc => .ok ⟨p1, by dsimp only; omega, p3, p4, by dsimp only; omega, p6⟩)) fun ⟨x2, v1⟩ ⟨q1, q2, q3, q4, q5, q6⟩ => ?_
  · have e : ((2 ^ 16 : Nat) : Int) = 65536 := by decide
    have e2 : x1.fdiv (2 ^ (min (16 : Int).toNat (IntKind.u64).bits)) = x1 / (2 ^ 16 : Nat) := fdivp p1 16
    have e3 : w64 (v + 16) = v + 16 := w64_id (by omega)
    have e4 : (v + 16).toNat = v.toNat + 16 := by omega
    simp only [e2, e3, e4]
    exact ⟨by omega, by omega, fun _ => by omega, by omega, by omega, pow_step p6 p1⟩
  dsimp only at q1 q2 q3 q4 q5 q6 ⊢
  refine Tot.call (P := fun (r : Int × Int) => 0 ≤ r.1 ∧ r.1 < 256 ∧ (1 ≤ x.v → 1 ≤ r.1) ∧ 0 ≤ r.2 ∧ r.2 ≤ 56 ∧ r.1 * (2 ^ r.2.toNat : Nat) ≤ x.v) (.iteP (fun hc => Tot.chk (by decide) (.ok ?_)) (fun hc => .ok ⟨q1, by dsimp only; omega, q3, q4, by dsimp only; omega, q6⟩)) fun ⟨x3, v2⟩ ⟨r1, r2, r3, r4, r5, r6⟩ => ?_
  · have e : ((2 ^ 8 : Nat) : Int) = 256 := by decide
    have e2 : x2.fdiv (2 ^ (min (8 : Int).toNat (IntKind.u64).bits)) = x2 / (2 ^ 8 : Nat) := fdivp q1 8
    have e3 : w64 (v1 + 8) = v1 + 8 := w64_id (by omega)
    have e4 : (v1 + 8).toNat = v1.toNat + 8 := by omega
    simp only [e2, e3, e4]
    exact ⟨by omega, by omega, fun _ => by omega, by omega, by omega, pow_step q6 q1⟩
  dsimp only at r1 r2 r3 r4 r5 r6 ⊢
  have e8 : IntKind.u8.wrap x3 = x3 := Int.emod_eq_of_lt r1 r2
  rw [e8]
  generalize hs : str _ = S
  have hS : (Nat.beq S.size 256 && (List.range 256).all fun i => Nat.ble (S.data.toList.getD i 0).toNat 8 && (Nat.beq i 0 || Nat.ble (2 ^ (S.data.toList.getD i 0).toNat) (2 * i))) = true := by
    rw [← hs]; kernel_rfl
  clear hs
  simp only [Bool.and_eq_true, List.all_eq_true, List.mem_range, Bool.or_eq_true] at hS
  obtain ⟨s1, s2⟩ := hS
  have s1 := Nat.eq_of_beq_eq_true s1
  obtain ⟨n, rfl⟩ : ∃ n : Nat, x3 = n := ⟨x3.toNat, by omega⟩
  have s2 := s2 n (by omega)
  have t1 := Nat.le_of_ble_eq_true s2.1
  refine Tot.chk (by omega) (.ok ?_)
  rw [Int.toNat_natCast]
  revert t1 s2
  generalize (S.data.toList.getD n 0).toNat = t
  intro s2 t1
  rw [w64_id (x := (t : Int)) (by omega), w64_id (by omega)]
  refine ⟨by omega, by omega, fun hx => ?_⟩
  have e1 : (v2 + (t : Int)).toNat = v2.toNat + t := by omega
  rw [e1, Nat.pow_add, Int.natCast_mul]
  have hn := r3 hx
  have t2 : 2 ^ t ≤ 2 * n := by
    rcases s2.2 with h | h
    · have := Nat.eq_of_beq_eq_true h; omega
    · exact Nat.le_of_ble_eq_true h
  have t3 : ((2 ^ v2.toNat : Nat) : Int) * (2 ^ t : Nat) ≤ (2 ^ v2.toNat : Nat) * (2 * n : Nat) := Int.mul_le_mul_of_nonneg_left (by exact_mod_cast t2) (by exact_mod_cast Nat.zero_le _)
  have t4 : ((2 ^ v2.toNat : Nat) : Int) * ((2 * n : Nat) : Int) = 2 * ((n : Int) * (2 ^ v2.toNat : Nat)) := by
    rw [Int.natCast_mul, Int.mul_comm ((2 ^ v2.toNat : Nat) : Int), Int.mul_assoc]; rfl
  omega
theorem len_ok (x : IK .u64) (h0 : 0 ≤ x.v) (h1 : x.v < 8589934592) : Tot (math_bits_Len x) fun r => 0 ≤ r ∧ r ≤ 64 ∧ (1 ≤ x.v → ((2 ^ r.toNat : Nat) : Int) ≤ 2 * x.v) := by
  unfold math_bits_Len
  exact Tot.call (len64_ok x h0 h1) fun r hr => .ok hr
theorem u64_id' {n : Int} (h0 : 0 ≤ n) (h1 : n < 18446744073709551616) : IntKind.u64.wrap n = n := by
  show n % 18446744073709551616 = n
  exact Int.emod_eq_of_lt h0 h1
theorem hlp : Pdq.Hlp slices_nextPowerOfTwo slices_xorshift_Next := by
  refine ⟨fun n h1 h2 => ?_, fun x => ?_⟩
  · unfold slices_nextPowerOfTwo
    rw [u64_id' (by omega) (by omega)]
    refine Tot.call (len_ok ⟨n⟩ (by dsimp only; omega) (by dsimp only; omega)) fun r ⟨r1, r2, r3⟩ => Tot.chk r1 (.ok ?_)
    have r3 := r3 (by dsimp only; omega)
    dsimp only at r3 ⊢
    have e : min r.toNat (IntKind.u64).bits = r.toNat := Nat.min_eq_left (by show r.toNat ≤ 64; omega)
    have e2 : (1 : Int) * 2 ^ r.toNat = ((2 ^ r.toNat : Nat) : Int) := by rw [Int.one_mul]; norm_cast
    rw [e, e2]
    have := Nat.two_pow_pos r.toNat
    rw [u64_id' (by omega) (by omega)]
    omega
  · unfold slices_xorshift_Next
    exact Tot.chk (by decide) (Tot.chk (by decide) (Tot.chk (by decide) (.ok trivial)))
/-! Spans: what a list of them covers. -/
def CovS (s : Span) (t : Int) : Prop := s.From ≤ t ∧ t < s.To
def Cov (l : List Span) (t : Int) : Prop := ∃ s ∈ l, CovS s t
def Norm (l : List Span) : Prop := (∀ x ∈ l, x.From < x.To) ∧ l.Pairwise fun a b => a.To < b.From
theorem cov_nil {t : Int} : Cov [] t ↔ False := by simp [Cov]
theorem cov_cons {x : Span} {l : List Span} {t : Int} : Cov (x :: l) t ↔ CovS x t ∨ Cov l t := by simp [Cov]
theorem cov_app {l l' : List Span} {t : Int} : Cov (l ++ l') t ↔ Cov l t ∨ Cov l' t := by
  unfold Cov
  constructor
  · rintro ⟨s, h, hs⟩
    rcases List.mem_append.1 h with h | h
    · exact .inl ⟨s, h, hs⟩
    · exact .inr ⟨s, h, hs⟩
  · rintro (⟨s, h, hs⟩ | ⟨s, h, hs⟩)
    · exact ⟨s, List.mem_append.2 (.inl h), hs⟩
    · exact ⟨s, List.mem_append.2 (.inr h), hs⟩
theorem cov_one {x : Span} {t : Int} : Cov [x] t ↔ CovS x t := by simp [Cov]
theorem norm_snoc {l : List Span} {z : Span} : Norm (l ++ [z]) ↔ Norm l ∧ z.From < z.To ∧ ∀ x ∈ l, x.To < z.From := by
  unfold Norm
  simp only [List.mem_append, List.mem_singleton, List.pairwise_append, List.pairwise_cons, List.Pairwise.nil, List.not_mem_nil, false_implies, implies_true, and_true, true_and, forall_eq]
  constructor
  · rintro ⟨h1, h2, h3⟩
    exact ⟨⟨fun x hx => h1 x (.inl hx), h2⟩, h1 z (.inr rfl), h3⟩
  · rintro ⟨⟨h1, h2⟩, h3, h4⟩
    exact ⟨fun x hx => hx.elim (h1 x) (fun e => e ▸ h3), h2, h4⟩
/-- Two lists in order that cover the same are the same. -/
theorem norm_uniq : ∀ {l l' : List Span}, Norm l → Norm l' → (∀ t, Cov l t ↔ Cov l' t) → l = l'
  | [], [], _, _, _ => rfl
  | [], y :: l', _, h', hc => by
    have h1 := h'.1 y (List.mem_cons_self ..)
    exact absurd ((hc y.From).2 ⟨y, List.mem_cons_self .., Int.le_refl _, h1⟩) (by simp [Cov])
  | x :: l, [], h, _, hc => by
    have h1 := h.1 x (List.mem_cons_self ..)
    exact absurd ((hc x.From).1 ⟨x, List.mem_cons_self .., Int.le_refl _, h1⟩) (by simp [Cov])
  | x :: l, y :: l', h, h', hc => by
    have hx := h.1 x (List.mem_cons_self ..)
    have hy := h'.1 y (List.mem_cons_self ..)
    have px := (List.pairwise_cons.1 h.2).1
    have py := (List.pairwise_cons.1 h'.2).1
    have nl : ∀ {t : Int}, t ≤ x.To → ¬ Cov l t := by
      rintro t ht ⟨s, hs, c1, c2⟩
      have := px s hs; omega
    have nl' : ∀ {t : Int}, t ≤ y.To → ¬ Cov l' t := by
      rintro t ht ⟨s, hs, c1, c2⟩
      have := py s hs; omega
    have c1 := (hc x.From).1 (cov_cons.2 (.inl ⟨Int.le_refl _, hx⟩))
    have c2 := (hc y.From).2 (cov_cons.2 (.inl ⟨Int.le_refl _, hy⟩))
    have low : ∀ {t : Int}, Cov (y :: l') t → y.From ≤ t := by
      rintro t ⟨s, hs, d1, d2⟩
      rcases List.mem_cons.1 hs with rfl | hs
      · exact d1
      · have := py s hs; omega
    have low' : ∀ {t : Int}, Cov (x :: l) t → x.From ≤ t := by
      rintro t ⟨s, hs, d1, d2⟩
      rcases List.mem_cons.1 hs with rfl | hs
      · exact d1
      · have := px s hs; omega
    have eF : x.From = y.From := by have := low c1; have := low' c2; omega
    have eT : x.To = y.To := by
      rcases Int.lt_trichotomy x.To y.To with hlt | e | hlt
      · rcases cov_cons.1 ((hc x.To).2 (cov_cons.2 (.inl ⟨by omega, hlt⟩))) with h | h
        · exact absurd h.2 (by omega)
        · exact absurd h (nl (Int.le_refl _))
      · exact e
      · rcases cov_cons.1 ((hc y.To).1 (cov_cons.2 (.inl ⟨by omega, hlt⟩))) with h | h
        · exact absurd h.2 (by omega)
        · exact absurd h (nl' (Int.le_refl _))
    have e : x = y := by cases x; cases y; simp only at eF eT; subst eF; subst eT; rfl
    subst e
    have tl : l = l' := by
      refine norm_uniq ⟨fun z hz => h.1 z (List.mem_cons_of_mem _ hz), (List.pairwise_cons.1 h.2).2⟩ ⟨fun z hz => h'.1 z (List.mem_cons_of_mem _ hz), (List.pairwise_cons.1 h'.2).2⟩ fun t => ?_
      rcases Int.lt_or_le x.To t with ht | ht
      · have := hc t
        rw [cov_cons, cov_cons] at this
        have n : ¬ CovS x t := fun c => by have := c.2; omega
        constructor
        · intro c; exact (this.1 (.inr c)).resolve_left n
        · intro c; exact (this.2 (.inr c)).resolve_left n
      · exact ⟨fun c => absurd c (nl ht), fun c => absurd c (nl' ht)⟩
    rw [tl]
/-- Valid spans. -/
def GoodS (s : Span) : Prop := (0 ≤ s.From ∧ s.From ≤ 1799) ∧ (0 ≤ s.To ∧ s.To ≤ 1799) ∧ s.From ≤ s.To
instance (s : Span) : Decidable (GoodS s) := by unfold GoodS; infer_instance
def GoodL (l : List Span) : Prop := l.length ≤ 20 ∧ ∀ s ∈ l, GoodS s
noncomputable instance (l : List Span) : Decidable (GoodL l) := Classical.propDecidable _
theorem within_eq (n a b : Int) : i_within n a b = some (decide (a ≤ n ∧ n ≤ b)) := by
  unfold i_within
  by_cases h : a ≤ n <;> simp [h]
theorem l1In_eq (n a b : Int) : s_l1In n a b = some (decide (a ≤ n ∧ n ≤ b)) := by
  unfold s_l1In
  by_cases h : a ≤ n <;> simp [h]
theorem time_eq (t : Int) : i_IsValidTime t = some (decide (0 ≤ t ∧ t ≤ 1799)) := by
  unfold i_IsValidTime; rw [within_eq]; rfl
theorem l4Time_eq (t : Int) : s_l4Time t = some (decide (0 ≤ t ∧ t ≤ 1799)) := by
  unfold s_l4Time; rw [l1In_eq]; rfl
theorem isSpan_eq (s : Span) : i_isSpan s = some (decide (GoodS s)) := by
  unfold i_isSpan GoodS
  rw [time_eq, time_eq]
  by_cases h : (0 ≤ s.From ∧ s.From ≤ 1799) <;> by_cases h2 : (0 ≤ s.To ∧ s.To ≤ 1799) <;> simp [h, h2]
theorem l4Span_eq (s : Span) : s_l4Span s = some (decide (GoodS s)) := by
  unfold s_l4Span GoodS
  rw [l4Time_eq, l4Time_eq]
  by_cases h : (0 ≤ s.From ∧ s.From ≤ 1799) <;> by_cases h2 : (0 ≤ s.To ∧ s.To ≤ 1799) <;> simp [h, h2]
theorem areSpans_eq (l : List Span) (hl : l.length ≤ 1000) : i_areSpans l = some (decide (GoodL l)) := by
  unfold i_areSpans
  by_cases h : l.length ≤ 20
  · have h' : ¬ (20 : Int) < l.length := by omega
    rw [if_neg (by simpa using h')]
    refine flb_dec (Tot.iter (fun m (s : Int) => s.toNat + m = l.length ∧ 0 ≤ s ∧ ∀ (i : Nat) x, i < s.toNat → l[i]? = some x → GoodS x) (n := l.length) ⟨by omega, by omega, fun i x h => absurd h (Nat.not_lt_zero _)⟩ ?_)
    rintro m s ⟨h1, h2, h5⟩
    unfold i_areSpans_L1
    refine .iteP (fun hc => .idx h2 hc fun x hx => .eq (isSpan_eq x) (.iteN (fun hn => .dn (.inr ⟨rfl, fun hg => hn (hg.2 x (List.mem_of_getElem? hx))⟩)) (fun hg => ?_))) (fun hc => .dn (.inl ⟨rfl, h, fun x hx => ?_⟩))
    · rw [w64_id (by omega)]
      refine .nx ⟨m - 1, by omega, by omega, by omega, fun i y hi hy => ?_⟩
      by_cases hii : i = s.toNat
      · subst hii; rw [hx] at hy; cases hy; exact hg
      · exact h5 i y (by omega) hy
    · obtain ⟨i, hi⟩ := List.getElem?_of_mem hx
      exact h5 i x (by have := get_lt hi; omega) hi
  · have h' : (20 : Int) < l.length := by omega
    have : ¬ GoodL l := fun a => h a.1
    simp [h', this]
theorem l4Spans_eq (l : List Span) (hl : l.length ≤ 1000) : s_l4Spans l = some (decide (GoodL l)) := by
  unfold s_l4Spans
  refine Tot.val (.flb ((Tot.iter (fun m (s : Int) => s.toNat + m = 1000 ∧ 0 ≤ s ∧ s ≤ 21 ∧ s ≤ l.length ∧ ∀ (i : Nat) x, i < s.toNat → l[i]? = some x → GoodS x) (Q := fun (b : Fl Bool Unit) => (b = .ret false ∧ ¬ GoodL l) ∨ (b = .go () ∧ (l.length ≤ 20 → GoodL l))) (n := 1000) ⟨by omega, by omega, by omega, by omega, fun i x h => absurd h (Nat.not_lt_zero _)⟩ ?_).mono fun b hb => ?_))
  · rintro m s ⟨h1, h2, h3, h4, h5⟩
    unfold s_l4Spans_L1
    refine Tot.call (P := fun b => (b = true ↔ (s < l.length ∧ s ≤ 20))) (.iteP (fun hc => .ok (by simp [hc])) (fun hc => .ok (by simp [hc]))) fun b hb => .ite (fun e => ?_) (fun e => .dn (.inr ⟨rfl, fun hle => ?_⟩))
    · have hb := hb.1 e
      refine .idx h2 hb.1 fun x hx => .eq (l4Span_eq x) (.iteN (fun hn => .dn (.inl ⟨rfl, fun hg => hn (hg.2 x (List.mem_of_getElem? hx))⟩)) (fun hg => ?_))
      rw [w64_id (by omega)]
      refine .nx ⟨m - 1, by omega, by omega, by omega, by omega, by omega, fun i y hi hy => ?_⟩
      by_cases hii : i = s.toNat
      · subst hii; rw [hx] at hy; cases hy; exact hg
      · exact h5 i y (by omega) hy
    · have hn : ¬ (s < l.length ∧ s ≤ 20) := fun a => by have := hb.2 a; rw [this] at e; cases e
      refine ⟨hle, fun x hx => ?_⟩
      obtain ⟨i, hi⟩ := List.getElem?_of_mem hx
      exact h5 i x (by have := get_lt hi; omega) hi
  · rcases hb with ⟨rfl, hg⟩ | ⟨rfl, hg⟩
    · exact ⟨fun r e => (by cases e; simp [hg]), fun u e => (by cases e)⟩
    · refine ⟨fun r e => (by cases e), fun u e => .ok ?_⟩
      by_cases h : l.length ≤ 20
      · simp [hg h]; omega
      · have : ¬ GoodL l := fun a => h a.1
        simp [this]; omega
/-! Merging spans. -/
theorem compare_int (x y : Int) : cmp_Compare_int x y = some (if x < y then -1 else if y < x then 1 else 0) := by
  unfold cmp_Compare_int cmp_isNaN_int
  by_cases h : x < y
  · simp [h]
  · by_cases h2 : y < x <;> simp [h, h2]
theorem lt_merge : Pdq.Lt i_mergeSpans_1 (fun a b => a.From ≤ b.From) := by
  refine ⟨fun x y => by omega, fun a b => by omega, fun x y => ⟨_, by unfold i_mergeSpans_1; rw [compare_int]; rfl, ?_⟩⟩
  by_cases h : x.From < y.From
  · simp [h]
  · by_cases h2 : y.From < x.From <;> simp [h, h2] <;> omega
theorem pdqk_merge : ∀ n, slices_pdqsortCmpFunc_Span_w__i_mergeSpans_1_k n = Pdq.pdq_k slices_nextPowerOfTwo slices_xorshift_Next i_mergeSpans_1 n
  | 0 => rfl
  | n + 1 => by
    show slices_pdqsortCmpFunc_Span_w__i_mergeSpans_1_F (slices_pdqsortCmpFunc_Span_w__i_mergeSpans_1_k n) = Pdq.pdq_F slices_nextPowerOfTwo slices_xorshift_Next i_mergeSpans_1 (Pdq.pdq_k slices_nextPowerOfTwo slices_xorshift_Next i_mergeSpans_1 n)
    rw [pdqk_merge n]
    rfl
theorem sort_merge (l : List Span) (h : l.length < 4294967296) : Tot (slices_SortFunc_Span_w__i_mergeSpans_1 l) fun l' => l'.Perm l ∧ l'.Pairwise fun a b => a.From ≤ b.From := by
  unfold slices_SortFunc_Span_w__i_mergeSpans_1
  refine Tot.call (len_ok _ (by dsimp only; rw [u64_id' (by omega) (by omega)]; omega) (by dsimp only; rw [u64_id' (by omega) (by omega)]; omega)) fun r _ => ?_
  unfold slices_pdqsortCmpFunc_Span_w__i_mergeSpans_1
  rw [pdqk_merge]
  exact Tot.call (Pdq.pdq_ok lt_merge hlp (limit := r) h) fun l' hl' => .ok hl'
theorem set_last {α : Type} (o : List α) (z z' : α) : (o ++ [z]).set o.length z' = o ++ [z'] := by
  rw [List.set_append_right _ _ (Nat.le_refl _)]; simp
theorem get_last {α : Type} (o : List α) (z : α) : (o ++ [z])[o.length]? = some z := by simp
theorem snoc_of {α : Type} {l : List α} (h : 0 < l.length) : ∃ o z, l = o ++ [z] := by
  have hn : l ≠ [] := List.length_pos_iff.1 h
  exact ⟨l.dropLast, l.getLast hn, (List.dropLast_concat_getLast hn).symm⟩
theorem w64_last {α : Type} {o : List α} {z : α} (h : o.length ≤ 100000) : w64 (((o ++ [z]).length : Int) - 1) = (o.length : Int) := by
  have : (o ++ [z]).length = o.length + 1 := by simp
  rw [w64_id (by omega)]; omega
/-- The merged spans: in order, and covering the same. -/
theorem merge_ok (l : List Span) (hl : l.length ≤ 1000) (hg : ∀ s ∈ l, GoodS s) : Tot (i_mergeSpans l) fun m => Norm m ∧ m.length ≤ l.length ∧ (∀ s ∈ m, GoodS s) ∧ ∀ t, Cov m t ↔ Cov l t := by
  unfold i_mergeSpans
  have hc : slices_Clone_Span l = some l := by
    unfold slices_Clone_Span
    rw [chk_of (by simp; omega)]; rfl
  refine .eq hc (Tot.call (sort_merge l (by omega)) fun r ⟨hp, hs⟩ => ?_)
  have hrl := hp.length_eq
  have hrg : ∀ s ∈ r, GoodS s := fun s hs => hg s (hp.mem_iff.1 hs)
  refine Tot.call (P := fun m => Norm m ∧ m.length ≤ r.length ∧ (∀ s ∈ m, GoodS s) ∧ ∀ t, Cov m t ↔ Cov r t) ?_ fun m hm => .ok ⟨hm.1, by omega, hm.2.2.1, fun t => (hm.2.2.2 t).trans ⟨fun ⟨s, h1, h2⟩ => ⟨s, hp.mem_iff.1 h1, h2⟩, fun ⟨s, h1, h2⟩ => ⟨s, hp.mem_iff.2 h1, h2⟩⟩⟩
  refine Tot.iter (fun k (s : Int × List Span) => ∃ i : Nat, s.1 = i ∧ i + k = r.length ∧ Norm s.2 ∧ s.2.length ≤ i ∧ (∀ x ∈ s.2, GoodS x ∧ ∀ (j : Nat) y, i ≤ j → r[j]? = some y → x.From ≤ y.From) ∧ ∀ t, Cov s.2 t ↔ Cov (r.take i) t) (n := r.length) ⟨0, rfl, by omega, ⟨by simp, by simp⟩, by simp, by simp, by simp⟩ ?_
  rintro k ⟨v, o⟩ ⟨i, rfl, h1, h2, h3, h4, h5⟩
  dsimp only at h2 h3 h4 h5
  unfold i_mergeSpans_L1
  dsimp only
  refine .iteP (fun hc => ?_) (fun hc => .dn ?_)
  · obtain ⟨e, he⟩ := get_ex (l := r) (i := i) (by omega)
    have hge := hrg e (List.mem_of_getElem? he)
    have after : ∀ (j : Nat) y, i + 1 ≤ j → r[j]? = some y → e.From ≤ y.From := by
      intro j y hj hy
      have hlt := get_lt hy
      have a := (List.getElem?_eq_some_iff.1 he); have b := (List.getElem?_eq_some_iff.1 hy)
      have := List.pairwise_iff_getElem.1 hs i j (by omega) hlt (by omega)
      rw [a.2, b.2] at this; exact this
    rw [w64_id (x := (i : Int) + 1) (by omega)]
    refine Tot.call (P := fun (o' : List Span) => Norm o' ∧ o'.length ≤ i + 1 ∧ (∀ x ∈ o', GoodS x ∧ x.From ≤ e.From) ∧ ∀ t, Cov o' t ↔ (Cov (r.take i) t ∨ CovS e t)) ?_ fun o' ⟨g1, g2, g3, g4⟩ => .nx ⟨k - 1, by omega, i + 1, by dsimp only; omega, by omega, g1, g2, fun x hx => ⟨(g3 x hx).1, fun j y hj hy => by have := (g3 x hx).2; have := after j y hj hy; omega⟩, fun t => by rw [take_succ he]; exact (g4 t).trans (by rw [cov_app, cov_one])⟩
    · refine .eq (by rw [idx_nat]; exact he) ?_
      have hol : ∀ x ∈ o, GoodS x ∧ x.From ≤ e.From := fun x hx => ⟨(h4 x hx).1, (h4 x hx).2 i e (Nat.le_refl _) he⟩
      refine .ite (fun hE => .ok ⟨h2, by omega, hol, fun t => ?_⟩) (fun hE => ?_)
      · rw [h5]
        have : e.From = e.To := by simpa using hE
        constructor
        · exact .inl
        · rintro (h | h)
          · exact h
          · have := h.1; have := h.2; omega
      have hlt : e.From < e.To := by
        have : e.From ≠ e.To := by simpa using hE
        have := hge.2.2; omega
      by_cases ho : 0 < o.length
      · obtain ⟨q, z, rfl⟩ := snoc_of ho
        have hz := hol z (by simp)
        have hq : q.length ≤ 100000 := by have : (q ++ [z]).length = q.length + 1 := by simp
                                          omega
        obtain ⟨n1, n2, n3⟩ := norm_snoc.1 h2
        have hd : decide (0 < ((q ++ [z]).length : Int)) = true := decide_eq_true (by omega)
        rw [hd]
        simp only [w64_last hq, idx_nat, get_last, if_true, Option.bind_some, Int.toNat_natCast, set_last]
        refine .iteP (fun hm => .ok ?_) (fun hm => .chk (by simp; omega) (.ok ?_))
        · have hmax : (if e.To > z.To then e.To else z.To) = max e.To z.To := by split <;> omega
          rw [hmax]
          refine ⟨norm_snoc.2 ⟨n1, by dsimp only; omega, fun x hx => by have := n3 x hx; dsimp only; omega⟩, by simp at h3 ⊢; omega, fun x hx => ?_, fun t => ?_⟩
          · rcases List.mem_append.1 hx with hx | hx
            · exact hol x (by simp [hx])
            · have : x = ⟨z.From, max e.To z.To⟩ := by simpa using hx
              subst this
              have a := hz.1; have b := hge
              unfold GoodS at a b ⊢
              dsimp only
              omega
          · rw [← h5, cov_app, cov_app, cov_one, cov_one]
            unfold CovS
            dsimp only
            have := hz.2
            constructor
            · rintro (h | h)
              · exact .inl (.inl h)
              · rcases Int.lt_or_le t z.To with h' | h'
                · exact .inl (.inr (by omega))
                · exact .inr (by omega)
            · rintro ((h | h) | h)
              · exact .inl h
              · exact .inr (by omega)
              · exact .inr (by omega)
        · refine ⟨norm_snoc.2 ⟨h2, hlt, fun x hx => ?_⟩, by simp at h3 ⊢; omega, fun x hx => ?_, fun t => ?_⟩
          · rcases List.mem_append.1 hx with hx | hx
            · have := n3 x hx; omega
            · have : x = z := by simpa using hx
              subst this; omega
          · rcases List.mem_append.1 hx with hx | hx
            · exact hol x hx
            · have : x = e := by simpa using hx
              subst this; exact ⟨hge, Int.le_refl _⟩
          · rw [← h5, cov_app, cov_one]
      · have ho : o = [] := List.length_eq_zero_iff.1 (by omega)
        subst ho
        have hd : decide (0 < (([] : List Span).length : Int)) = false := rfl
        rw [hd]
        simp only [Bool.false_eq_true, if_false, Option.bind_some]
        refine .chk (by simp) (.ok ⟨⟨by simpa using hlt, by simp⟩, by simp, fun x hx => ?_, fun t => ?_⟩)
        · have : x = e := by simpa using hx
          subst this; exact ⟨hge, Int.le_refl _⟩
        · rw [← h5, List.nil_append, cov_one]
          simp [Cov]
  · have : i = r.length := by omega
    subst this
    rw [List.take_length] at h5
    exact ⟨h2, h3, fun s hs => (h4 s hs).1, h5⟩
def sumS (l : List Span) : Int := (l.map fun s => s.To - s.From).sum
theorem total_ok (l : List Span) (hl : l.length ≤ 1000) (hg : GoodL l) : Tot (i_TotalMinutes l) fun r => r.2 = true ∧ ∀ m, i_mergeSpans l = some m → r.1 = sumS m := by
  unfold i_TotalMinutes
  refine .eq (areSpans_eq l hl) ?_
  rw [decide_eq_true hg]
  refine .ite (fun h => by cases h) (fun _ => ?_)
  obtain ⟨m, hm, h1, h2, h3, h4⟩ := merge_ok l hl hg.2
  refine .eq hm ?_
  have : iter (i_TotalMinutes_L1 m) (0, 0) = some (sumS m) := by
    unfold sumS
    have h := sum_loop (fun s : Span => s.To - s.From) m (by omega) (fun x hx => by have := h3 x hx; unfold GoodS at this; omega) (step := i_TotalMinutes_L1 m) (fun i s x hx => ?_) (fun s => ?_)
    · exact h
    · have := get_lt hx
      have hgx := h3 x (List.mem_of_getElem? hx)
      unfold GoodS at hgx
      unfold i_TotalMinutes_L1
      have e : w64 (x.To - x.From) = x.To - x.From := w64_id (by omega)
      simp only [Int.ofNat_lt.2 this, decide_true, if_true, idx_nat, hx, Option.bind_some, e]
    · unfold i_TotalMinutes_L1
      simp
  refine .eq this (.ok ⟨rfl, fun m' e => ?_⟩)
  rw [hm] at e; cases e; rfl
/-! Counting minutes, and the runs of them. -/
theorem cov_take_succ {l : List Span} {i : Nat} {e : Span} (he : l[i]? = some e) {t : Int} : Cov (l.take (i + 1)) t ↔ Cov (l.take i) t ∨ CovS e t := by
  rw [take_succ he, cov_app, cov_one]
theorem counts_ok (l : List Span) (hl : l.length ≤ 1000) (hg : ∀ s ∈ l, GoodS s) : Tot (s_l4Counts l) fun c => c.length = 1800 ∧ ∀ (t : Nat) x, c[t]? = some x → (0 < x ↔ Cov l t) := by
  unfold s_l4Counts
  refine .chk (by omega) ?_
  refine Tot.call (P := fun (c : List Int) => c.length = 1800 ∧ ∀ (t : Nat) x, c[t]? = some x → (0 < x ↔ Cov l t)) ?_ fun c hc => .ok hc
  refine Tot.iter (fun k (s : Int × List Int) => ∃ i : Nat, s.1 = i ∧ i + k = l.length ∧ s.2.length = 1800 ∧ ∀ (t : Nat) x, s.2[t]? = some x → 0 ≤ x ∧ x ≤ i ∧ (0 < x ↔ Cov (l.take i) t)) (n := l.length) ⟨0, rfl, by omega, by dsimp only; rw [List.length_replicate]; rfl, fun t x hx => ?_⟩ ?_
  · dsimp only at hx
    have : x = 0 := by
      have := List.mem_of_getElem? hx
      exact (List.mem_replicate.1 this).2
    subst this
    simp [Cov]
  rintro k ⟨v, c⟩ ⟨i, rfl, h1, h2, h3⟩
  dsimp only at h2 h3
  unfold s_l4Counts_L2
  dsimp only
  refine .iteP (fun hc => ?_) (fun hc => .dn ?_)
  · obtain ⟨e, he⟩ := get_ex (l := l) (i := i) (by omega)
    have hge := hg e (List.mem_of_getElem? he)
    unfold GoodS at hge
    refine .eq (by rw [idx_nat]; exact he) ?_
    refine Tot.call (P := fun (c' : List Int) => c'.length = 1800 ∧ ∀ (t : Nat) x, c'[t]? = some x → ∃ y, c[t]? = some y ∧ x = if e.From ≤ (t : Int) ∧ (t : Int) < e.To then y + 1 else y) ?_ fun c' ⟨g1, g2⟩ => ?_
    · refine Tot.iter (fun k (s : Int × List Int) => s.1 + k = e.To ∧ e.From ≤ s.1 ∧ s.2.length = 1800 ∧ ∀ (t : Nat) x, s.2[t]? = some x → ∃ y, c[t]? = some y ∧ x = if e.From ≤ (t : Int) ∧ (t : Int) < s.1 then y + 1 else y) (n := (e.To - e.From).toNat) ⟨by dsimp only; omega, by dsimp only; omega, h2, fun t x hx => ⟨x, hx, by dsimp only; rw [if_neg (by omega)]⟩⟩ ?_
      rintro m ⟨v, d⟩ ⟨q1, q2, q3, q4⟩
      dsimp only at q1 q2 q3 q4
      unfold s_l4Counts_L1
      dsimp only
      refine .eq (by rw [idx_nat]; exact he) (.iteP (fun hv => ?_) (fun hv => .dn ⟨q3, fun t x hx => ?_⟩))
      · refine .idx (by omega) (by omega) fun x hx => .idx (by omega) (by omega) fun x' _ => ?_
        obtain ⟨y, hy, hxy⟩ := q4 v.toNat x hx
        rw [if_neg (by omega)] at hxy
        have hb := h3 v.toNat y hy
        rw [w64_id (x := x + 1) (by omega), w64_id (x := v + 1) (by omega)]
        refine .nx ⟨m - 1, by omega, by dsimp only; omega, by dsimp only; omega, by simpa using q3, fun t z hz => ?_⟩
        dsimp only at hz
        by_cases ht : t = v.toNat
        · subst ht
          rw [set_at hx] at hz
          cases hz
          exact ⟨y, hy, by rw [if_pos (by dsimp only; omega)]; omega⟩
        · rw [List.getElem?_set_ne (by omega)] at hz
          obtain ⟨y', hy', e'⟩ := q4 t z hz
          refine ⟨y', hy', e'.trans ?_⟩
          dsimp only
          by_cases hh : e.From ≤ (t : Int) ∧ (t : Int) < v
          · rw [if_pos hh, if_pos (by omega)]
          · rw [if_neg hh, if_neg (by omega)]
      · obtain ⟨y, hy, e'⟩ := q4 t x hx
        refine ⟨y, hy, e'.trans ?_⟩
        by_cases hh : e.From ≤ (t : Int) ∧ (t : Int) < v
        · rw [if_pos hh, if_pos (by omega)]
        · rw [if_neg hh, if_neg (by omega)]
    · rw [w64_id (by omega)]
      refine .nx ⟨k - 1, by omega, i + 1, by dsimp only; omega, by omega, g1, fun t x hx => ?_⟩
      obtain ⟨y, hy, e'⟩ := g2 t x hx
      obtain ⟨b1, b2, b3⟩ := h3 t y hy
      rw [cov_take_succ he, ← b3]
      unfold CovS
      split at e' <;> omega
  · have : i = l.length := by omega
    subst this
    rw [List.take_length] at h3
    exact ⟨h2, fun t x hx => (h3 t x hx).2.2⟩
/-- The runs: in order, covering what has the property. -/
theorem runs_ok (c : List Int) (w : Span) (busy : Bool) (p : Int → Prop) (hc : c.length = 1800) (hw : GoodS w) (hp : ∀ (t : Nat) x, c[t]? = some x → (decide (0 < x) = true ↔ p t)) :
    Tot (s_l4Runs c w busy) fun m => Norm m ∧ ∀ t, Cov m t ↔ (w.From ≤ t ∧ t < w.To ∧ (p t ↔ busy = true)) := by
  unfold s_l4Runs
  unfold GoodS at hw
  refine Tot.call (P := fun m => Norm m ∧ ∀ t, Cov m t ↔ (w.From ≤ t ∧ t < w.To ∧ (p t ↔ busy = true))) ?_ fun m hm => .ok hm
  refine Tot.iter (fun k (s : Int × List Span) => s.1 + k = w.To ∧ w.From ≤ s.1 ∧ (s.2.length : Int) ≤ s.1 - w.From ∧ Norm s.2 ∧ (∀ x ∈ s.2, x.To ≤ s.1) ∧ ∀ t, Cov s.2 t ↔ (w.From ≤ t ∧ t < s.1 ∧ (p t ↔ busy = true))) (n := (w.To - w.From).toNat) ⟨by dsimp only; omega, by dsimp only; omega, by simp, ⟨by simp, by simp⟩, by simp, fun t => ?_⟩ ?_
  · simp only [cov_nil, false_iff]; omega
  rintro k ⟨v, o⟩ ⟨h1, h2, h2', h3, h4, h5⟩
  dsimp only at h1 h2 h2' h3 h4 h5
  unfold s_l4Runs_L1
  dsimp only
  refine .iteP (fun hv => ?_) (fun hv => .dn ?_)
  · rw [w64_id (x := v + 1) (by omega)]
    refine Tot.call (P := fun (o' : List Span) => (o'.length : Int) ≤ v + 1 - w.From ∧ Norm o' ∧ (∀ x ∈ o', x.To ≤ v + 1) ∧ ∀ t, Cov o' t ↔ (Cov o t ∨ (t = v ∧ (p v ↔ busy = true)))) ?_ fun o' ⟨g0, g1, g2, g3⟩ => .nx ⟨k - 1, by omega, by dsimp only; omega, by dsimp only; omega, g0, g1, g2, fun t => ?_⟩
    · refine .idx (by omega) (by omega) fun e he => ?_
      have hpe := hp v.toNat e he
      rw [show ((v.toNat : Nat) : Int) = v by omega] at hpe
      refine .ite (fun hb => .ok ⟨by omega, h3, fun x hx => by have := h4 x hx; omega, fun t => ?_⟩) (fun hb => ?_)
      · have hn : ¬ (p v ↔ busy = true) := by
          rw [← hpe]
          intro a
          revert hb
          cases h0 : decide (0 < e) <;> cases busy <;> simp [h0] at a ⊢
        constructor
        · exact .inl
        · rintro (h | ⟨_, h⟩)
          · exact h
          · exact absurd h hn
      · have hy : (p v ↔ busy = true) := by
          rw [← hpe]
          revert hb
          cases h0 : decide (0 < e) <;> cases busy <;> simp
        have fresh : (∀ x ∈ o, x.To < v) → Tot ((chk (o.length + ([(⟨v, v + 1⟩ : Span)] : List Span).length ≤ 4294967296)).bind fun u => some (o ++ ([(⟨v, v + 1⟩ : Span)] : List Span))) fun o' => (o'.length : Int) ≤ v + 1 - w.From ∧ Norm o' ∧ (∀ x ∈ o', x.To ≤ v + 1) ∧ ∀ t, Cov o' t ↔ (Cov o t ∨ (t = v ∧ (p v ↔ busy = true))) := by
          intro hlt
          refine .chk (by simp; omega) (.ok ⟨by simp; omega, norm_snoc.2 ⟨h3, by dsimp only; omega, fun x hx => hlt x hx⟩, fun x hx => ?_, fun t => ?_⟩)
          · rcases List.mem_append.1 hx with hx | hx
            · have := h4 x hx; omega
            · have : x = ⟨v, v + 1⟩ := by simpa using hx
              subst this; dsimp only; omega
          · rw [cov_app, cov_one]
            unfold CovS
            dsimp only
            constructor
            · rintro (h | h)
              · exact .inl h
              · exact .inr ⟨by omega, hy⟩
            · rintro (h | ⟨h, _⟩)
              · exact .inl h
              · exact .inr (by omega)
        by_cases ho : 0 < o.length
        · obtain ⟨q, z, rfl⟩ := snoc_of ho
          have hz := h4 z (by simp)
          have hq : q.length ≤ 100000 := by have : (q ++ [z]).length = q.length + 1 := by simp
                                            omega
          obtain ⟨n1, n2, n3⟩ := norm_snoc.1 h3
          have hd : decide (0 < ((q ++ [z]).length : Int)) = true := decide_eq_true (by omega)
          rw [hd]
          simp only [w64_last hq, idx_nat, get_last, if_true, Option.bind_some, Int.toNat_natCast, set_last]
          refine .ite (fun hm => .ok ?_) (fun hm => fresh fun x hx => ?_)
          · have hzv : z.To = v := by simpa using hm
            refine ⟨by simp at h2' ⊢; omega, norm_snoc.2 ⟨n1, by dsimp only; omega, fun x hx => n3 x hx⟩, fun x hx => ?_, fun t => ?_⟩
            · rcases List.mem_append.1 hx with hx | hx
              · have := h4 x (by simp [hx]); omega
              · have : x = ⟨z.From, v + 1⟩ := by simpa using hx
                subst this; exact Int.le_refl _
            · rw [cov_app, cov_app, cov_one, cov_one]
              unfold CovS
              dsimp only
              constructor
              · rintro (h | h)
                · exact .inl (.inl h)
                · by_cases ht : t = v
                  · exact .inr ⟨ht, hy⟩
                  · exact .inl (.inr (by omega))
              · rintro ((h | h) | ⟨h, _⟩)
                · exact .inl h
                · exact .inr (by omega)
                · exact .inr (by omega)
          · have hzv : z.To ≠ v := by simpa using hm
            rcases List.mem_append.1 hx with hx | hx
            · have := n3 x hx; omega
            · have : x = z := by simpa using hx
              subst this; omega
        · have ho : o = [] := List.length_eq_zero_iff.1 (by omega)
          subst ho
          have hd : decide (0 < (([] : List Span).length : Int)) = false := rfl
          rw [hd]
          simp only [Bool.false_eq_true, if_false, Option.bind_some]
          exact fresh (by simp)
    · rw [g3, h5]
      dsimp only
      constructor
      · rintro (⟨a, b, c⟩ | ⟨a, b⟩)
        · exact ⟨a, by omega, c⟩
        · subst a; exact ⟨h2, by omega, b⟩
      · rintro ⟨a, b, c⟩
        by_cases ht : t = v
        · subst ht; exact .inr ⟨rfl, c⟩
        · exact .inl ⟨a, by omega, c⟩
  · have : v = w.To := by omega
    subst this
    exact ⟨h3, h5⟩
/-- The free spans of merged ones. -/
theorem free_loop (m : List Span) (w : Span) (hm : Norm m) (hl : m.length ≤ 1000) (hg : ∀ s ∈ m, GoodS s) (hw : GoodS w) :
    Tot (iter (i_FreeSpans_L1 w m) (w.From, 0, [])) fun f => f.length ≤ m.length + 1 ∧ Norm f ∧ ∀ t, Cov f t ↔ (w.From ≤ t ∧ t < w.To ∧ ¬ Cov m t) := by
  unfold GoodS at hw
  have hML : (m ++ [(⟨w.To, w.To⟩ : Span)]).length = m.length + 1 := by simp
  refine Tot.iter (fun k (s : Int × Int × List Span) => ∃ i : Nat, s.2.1 = i ∧ i + k = m.length + 1 ∧ w.From ≤ s.1 ∧ s.2.2.length ≤ i ∧ (i = m.length + 1 → w.To ≤ s.1) ∧ (∀ (j : Nat) x, j < i → m[j]? = some x → x.To ≤ s.1) ∧ Norm s.2.2 ∧ (∀ x ∈ s.2.2, i ≤ m.length → x.To < s.1) ∧ ∀ t, Cov s.2.2 t ↔ (w.From ≤ t ∧ t < s.1 ∧ t < w.To ∧ ¬ Cov m t)) (n := m.length + 1) ⟨0, rfl, by omega, Int.le_refl _, Nat.le_refl _, fun h => by omega, fun j x h => absurd h (Nat.not_lt_zero _), ⟨by simp, by simp⟩, by simp, fun t => ?_⟩ ?_
  · simp only [cov_nil, false_iff]; omega
  rintro k ⟨s, v, o⟩ ⟨i, rfl, h1, h2, h2', h3, h4, h5, h6, h7⟩
  dsimp only at h2 h2' h3 h4 h5 h6 h7
  unfold i_FreeSpans_L1
  dsimp only
  refine .iteP (fun hc => ?_) (fun hc => .dn ?_)
  · obtain ⟨e, he⟩ := get_ex (l := m ++ [(⟨w.To, w.To⟩ : Span)]) (i := i) (by omega)
    refine .eq (by rw [idx_nat]; exact he) ?_
    have hmin : (if w.To < e.From then w.To else e.From) = min e.From w.To := by split <;> omega
    have hmax : (if e.To > s then e.To else s) = max e.To s := by split <;> omega
    rw [hmin, hmax, w64_id (by omega)]
    -- what e is
    have hE : (i < m.length ∧ m[i]? = some e ∧ e.From < e.To ∧ GoodS e) ∨ (i = m.length ∧ e = ⟨w.To, w.To⟩) := by
      rcases Nat.lt_or_ge i m.length with h | h
      · rw [List.getElem?_append_left h] at he
        exact .inl ⟨h, he, hm.1 e (List.mem_of_getElem? he), hg e (List.mem_of_getElem? he)⟩
      · have : i = m.length := by omega
        subst this
        rw [get_last] at he
        cases he
        exact .inr ⟨rfl, rfl⟩
    have unc : ∀ t, s ≤ t → t < e.From → t < w.To → ¬ Cov m t := by
      rintro t a b b' ⟨x, hx, c1, c2⟩
      obtain ⟨j, hj⟩ := List.getElem?_of_mem hx
      rcases Nat.lt_or_ge j i with hji | hji
      · have := h4 j x hji hj; omega
      · have hjm := get_lt hj
        rcases hE with ⟨i1, i2, i3, _⟩ | ⟨i1, rfl⟩
        · by_cases hij : i = j
          · subst hij; rw [i2] at hj; cases hj; omega
          · have a1 := (List.getElem?_eq_some_iff.1 i2); have a2 := (List.getElem?_eq_some_iff.1 hj)
            have := List.pairwise_iff_getElem.1 hm.2 i j i1 hjm (by omega)
            rw [a1.2, a2.2] at this; omega
        · omega
    have cvr : ∀ t, e.From ≤ t → t < e.To → Cov m t := by
      intro t a b
      rcases hE with ⟨i1, i2, i3, _⟩ | ⟨i1, rfl⟩
      · exact ⟨e, List.mem_of_getElem? i2, a, b⟩
      · dsimp only at a b; omega
    have eT : i < m.length → e.From < e.To := fun h => by
      rcases hE with ⟨_, _, i3, _⟩ | ⟨i1, _⟩
      · exact i3
      · omega
    have eL : i = m.length → e.From = w.To ∧ e.To = w.To := fun h => by
      rcases hE with ⟨i1, _⟩ | ⟨_, rfl⟩
      · omega
      · exact ⟨rfl, rfl⟩
    have eFT : e.From ≤ e.To := by
      rcases Nat.lt_or_ge i m.length with h | h
      · have := eT h; omega
      · have := eL (by omega); omega
    refine Tot.call (P := fun (o' : List Span) => o'.length ≤ i + 1 ∧ Norm o' ∧ (∀ x ∈ o', i + 1 ≤ m.length → x.To < max e.To s) ∧ ∀ t, Cov o' t ↔ (Cov o t ∨ (s ≤ t ∧ t < min e.From w.To))) (.iteP (fun hs => .chk (by simp; omega) (.ok ⟨by simp; omega, norm_snoc.2 ⟨h5, hs, fun x hx => h6 x hx (by omega)⟩, fun x hx hi => ?_, fun t => ?_⟩)) (fun hs => .ok ⟨by omega, h5, fun x hx hi => by have := h6 x hx (by omega); omega, fun t => ?_⟩)) fun o' ⟨g0, g1, g2, g3⟩ => .nx ⟨k - 1, by omega, i + 1, by dsimp only; omega, by omega, by dsimp only; omega, g0, fun hi => ?_, fun j x hj hx => ?_, g1, g2, fun t => ?_⟩
    · rcases List.mem_append.1 hx with hx | hx
      · have := h6 x hx (by omega); omega
      · have : x = ⟨s, min e.From w.To⟩ := by simpa using hx
        subst this
        have := eT (by omega)
        dsimp only; omega
    · rw [cov_app, cov_one]; rfl
    · constructor
      · exact .inl
      · rintro (h | h)
        · exact h
        · omega
    · dsimp only
      have := eL (by omega); omega
    · dsimp only
      by_cases hji : j = i
      · subst hji
        rcases hE with ⟨_, i2, _⟩ | ⟨i1, _⟩
        · rw [i2] at hx; cases hx; omega
        · have := get_lt hx; omega
      · have := h4 j x (by omega) hx; omega
    · rw [g3, h7]
      dsimp only
      constructor
      · rintro (⟨a, b, c, d⟩ | ⟨a, b⟩)
        · exact ⟨a, by omega, c, d⟩
        · exact ⟨by omega, by omega, by omega, unc t a (by omega) (by omega)⟩
      · rintro ⟨a, b, c, d⟩
        by_cases hts : t < s
        · exact .inl ⟨a, hts, c, d⟩
        · right
          refine ⟨by omega, ?_⟩
          by_cases hte : t < e.From
          · omega
          · exact absurd (cvr t (by omega) (by omega)) d
  · have hi : i = m.length + 1 := by omega
    have hto := h3 hi
    refine ⟨by omega, h5, fun t => (h7 t).trans ⟨fun ⟨a, b, c, d⟩ => ⟨a, c, d⟩, fun ⟨a, c, d⟩ => ⟨a, by omega, c, d⟩⟩⟩
/-! The draws, and the law. -/
theorem t_pick {k : Nat} {c : l1Cur} (n : Int) (h : Cur k c) (hk : k ≤ 3000000000) : Tot (s_l1Cur_pick c n) fun r => Cur (k + 2) r.2 ∧ 0 ≤ r.1 ∧ (r.1 < n ∨ r.1 = 0) := pick_ok n h hk
theorem t_one {k : Nat} {c : l1Cur} (n : Int) (h : Cur k c) (hk : k ≤ 3000000000) : Tot (s_l1Cur_one c n) fun r => Cur (k + 2) r.2 := one_ok n h hk
theorem among1_ok {k : Nat} {c : l1Cur} (l : List Int) (hl : l ≠ []) (h : Cur k c) (hk : k ≤ 3000000000) : Tot (s_l1Cur_among c l) fun r => Cur (k + 2) r.2 := by
  unfold s_l1Cur_among
  have hpos : 0 < l.length := List.length_pos_iff.2 hl
  exact Tot.call (t_pick (l.length : Int) h hk) fun r ⟨hc, h0, h1⟩ => .idx h0 (by omega) fun x _ => .ok hc
theorem t_time {k : Nat} {c : l1Cur} (h : Cur k c) (hk : k ≤ 2000000000) : Tot (s_l1Cur_time c) fun r => Cur (k + 4) r.2 := by
  unfold s_l1Cur_time
  refine Tot.call (t_one 16 h (by omega)) fun r hr => .ite (fun _ => ?_) (fun _ => ?_)
  · exact Tot.call (among1_ok _ (by simp) hr (by omega)) fun r hr => .ok hr
  · exact Tot.call (t_pick 240 hr (by omega)) fun r hr => .ok hr.1
theorem t_span {k : Nat} {c : l1Cur} (h : Cur k c) (hk : k ≤ 1000000000) : Tot (s_l1Cur_span c) fun r => Cur (k + 12) r.2 := by
  unfold s_l1Cur_span
  refine Tot.call (t_time h (by omega)) fun r hr => Tot.call (t_pick 90 hr (by omega)) fun r1 hr1 => ?_
  refine Tot.call (P := fun (x : List UInt8 × Int × Int × Int) => Cur (k + 12) ⟨x.1, x.2.1, ⟨x.2.2.1⟩⟩) ?_ fun ⟨v, v1, v2, v3⟩ hv => .ok hv
  refine Tot.call (t_one 16 hr1.1 (by omega)) fun r2 hr2 => .ite (fun _ => ?_) (fun _ => ?_)
  · exact Tot.call (t_time hr2 (by omega)) fun r3 hr3 => .ok hr3
  · exact .ok (hr2.mono (by omega))
theorem t_spans {k : Nat} {c : l1Cur} (h : Cur k c) (hk : k ≤ 1000) : Tot (s_l1Cur_spans c) fun r => Cur 3000 r.2 ∧ r.1.length ≤ 100 := by
  unfold s_l1Cur_spans
  refine Tot.call (t_pick 7 h (by omega)) fun r ⟨hr, hr0, hr1⟩ => ?_
  refine Tot.call (P := fun (x : List UInt8 × Int × Int × List Span) => Cur 2000 ⟨x.1, x.2.1, ⟨x.2.2.1⟩⟩ ∧ x.2.2.2.length ≤ 10) ?_ fun ⟨v4, v5, v6, n1⟩ ⟨h1, h2⟩ => ?_
  · refine Tot.iter (fun m (s : Int × List UInt8 × Int × Int × List Span) => s.1 = m ∧ m + s.2.2.2.2.length ≤ 6 ∧ Cur (1010 + 12 * s.2.2.2.2.length) ⟨s.2.1, s.2.2.1, ⟨s.2.2.2.1⟩⟩) (n := r.1.toNat) ⟨by dsimp only; omega, by simp; omega, hr.mono (by simp; omega)⟩ ?_
    rintro m ⟨v, v1, v2, v3, n⟩ ⟨g1, g2, g3⟩
    dsimp only at g1 g2 g3
    unfold s_l1Cur_spans_L1
    dsimp only
    refine .iteP (fun hc => ?_) (fun hc => .dn ⟨g3.mono (by omega), by dsimp only; omega⟩)
    refine Tot.call (t_span g3 (by omega)) fun r1 hr1 => .chk (by simp; omega) ?_
    rw [w64_id (by omega)]
    exact .nx ⟨m - 1, by omega, by dsimp only; omega, by simp; omega, hr1.mono (by simp; omega)⟩
  · dsimp only at h1 h2 ⊢
    refine Tot.call (P := fun (x : List UInt8 × Int × Int × List Span) => Cur 3000 ⟨x.1, x.2.1, ⟨x.2.2.1⟩⟩ ∧ x.2.2.2.length ≤ 100) ?_ fun ⟨v7, v8, v9, n2⟩ hv => .ok hv
    refine Tot.call (t_one 24 h1 (by omega)) fun r2 hr2 => .ite (fun _ => ?_) (fun _ => .ok ⟨hr2.mono (by omega), by dsimp only; omega⟩)
    refine Tot.call (P := fun (x : List UInt8 × Int × Int × List Span) => Cur 3000 ⟨x.1, x.2.1, ⟨x.2.2.1⟩⟩ ∧ x.2.2.2.length ≤ 100) ?_ fun ⟨v7, v8, v9, n2⟩ hv => .ok hv
    refine Tot.iter (fun m (s : List UInt8 × Int × Int × List Span) => m + s.2.2.2.length = 40 ∧ Cur (2010 + 2 * s.2.2.2.length) ⟨s.1, s.2.1, ⟨s.2.2.1⟩⟩) (n := 40 - n1.length) ⟨by dsimp only; omega, hr2.mono (by dsimp only; omega)⟩ ?_
    rintro m ⟨v10, v11, v12, n⟩ ⟨g1, g2⟩
    dsimp only at g1 g2
    unfold s_l1Cur_spans_L2
    dsimp only
    refine Tot.call (t_pick 2 g2 (by omega)) fun r3 ⟨hr3, p0, p1⟩ => ?_
    rw [w64_id (x := 20 + r3.1) (by omega)]
    refine .iteP (fun hc => .chk (by simp; omega) (.nx ⟨m - 1, by omega, by simp; omega, hr3.mono (by simp; omega)⟩)) (fun hc => .dn ⟨hr3.mono (by omega), by dsimp only; omega⟩)
theorem t_draw (code : List UInt8) : Tot (s_DrawFreeSpans code) fun r => r.1.length ≤ 100 := by
  unfold s_DrawFreeSpans
  refine Tot.call (t_spans (cur0 code) (by omega)) fun r hr => Tot.call (t_one 4 hr.1 (by omega)) fun r1 hr1 => .ite (fun _ => ?_) (fun _ => .ok hr.2)
  exact Tot.call (t_span hr1 (by omega)) fun r2 _ => .ok hr.2
theorem good_bool {l : List Span} {w : Span} : ((!decide (GoodL l)) = true ∨ (!decide (GoodS w)) = true) ↔ ¬ (GoodL l ∧ GoodS w) := by
  by_cases h : GoodL l <;> by_cases h2 : GoodS w <;> simp [h, h2]
theorem iFree_ok (l : List Span) (w : Span) (hl : l.length ≤ 1000) : Tot (i_FreeSpans l w) fun r => r.1.length ≤ 2000 ∧ (GoodL l ∧ GoodS w → r.2 = true ∧ Norm r.1 ∧ ∀ t, Cov r.1 t ↔ (w.From ≤ t ∧ t < w.To ∧ ¬ Cov l t)) ∧ (¬ (GoodL l ∧ GoodS w) → r = ([], false)) := by
  unfold i_FreeSpans
  refine .eq (areSpans_eq l hl) (Tot.call (P := fun b => b = true ↔ ¬ (GoodL l ∧ GoodS w)) (.ite (fun h => .ok ?_) (fun h => .eq (isSpan_eq w) (.ok ?_))) fun b hb => .ite (fun h => .ok ⟨by simp, fun hg => absurd hg (hb.1 h), fun _ => rfl⟩) (fun h => ?_))
  · rw [← good_bool]; simp [h]
  · rw [← good_bool]; simp [h]
  · have hg : GoodL l ∧ GoodS w := Classical.not_not.1 fun a => by rw [hb.2 a] at h; cases h
    refine Tot.call (merge_ok l hl hg.1.2) fun m ⟨m1, m2, m3, m4⟩ => .chk (by simp; omega) (Tot.call (free_loop m w m1 (by omega) m3 hg.2) fun f ⟨f0, f1, f2⟩ => .ok ⟨by dsimp only; omega, fun _ => ⟨rfl, f1, fun t => by rw [← m4]; exact f2 t⟩, fun a => absurd hg a⟩)
theorem count_p {l : List Span} {c : List Int} (h : ∀ (t : Nat) x, c[t]? = some x → (0 < x ↔ Cov l t)) : ∀ (t : Nat) x, c[t]? = some x → (decide (0 < x) = true ↔ Cov l (t : Int)) := fun t x hx => by rw [decide_eq_true_eq]; exact h t x hx
theorem sFree_ok (l : List Span) (w : Span) (hl : l.length ≤ 1000) : Tot (s_FreeSpans l w) fun r => (GoodL l ∧ GoodS w → r.2 = true ∧ Norm r.1 ∧ ∀ t, Cov r.1 t ↔ (w.From ≤ t ∧ t < w.To ∧ ¬ Cov l t)) ∧ (¬ (GoodL l ∧ GoodS w) → r = ([], false)) := by
  unfold s_FreeSpans
  refine .eq (l4Spans_eq l hl) (Tot.call (P := fun b => b = true ↔ ¬ (GoodL l ∧ GoodS w)) (.ite (fun h => .ok ?_) (fun h => .eq (l4Span_eq w) (.ok ?_))) fun b hb => .ite (fun h => .ok ⟨fun hg => absurd hg (hb.1 h), fun _ => rfl⟩) (fun h => ?_))
  · rw [← good_bool]; simp [h]
  · rw [← good_bool]; simp [h]
  · have hg : GoodL l ∧ GoodS w := Classical.not_not.1 fun a => by rw [hb.2 a] at h; cases h
    refine Tot.call (counts_ok l hl hg.1.2) fun c ⟨c1, c2⟩ => Tot.call (runs_ok c w false (Cov l) c1 hg.2 (count_p c2)) fun f ⟨f1, f2⟩ => .ok ⟨fun _ => ⟨rfl, f1, fun t => by rw [f2]; simp⟩, fun a => absurd hg a⟩
theorem iMerge_ok (l : List Span) (hl : l.length ≤ 1000) : Tot (i_MergeSpans l) fun r => (GoodL l → r.2 = true ∧ i_mergeSpans l = some r.1 ∧ Norm r.1 ∧ r.1.length ≤ 1000 ∧ (∀ s ∈ r.1, GoodS s) ∧ ∀ t, Cov r.1 t ↔ Cov l t) ∧ (¬ GoodL l → r = ([], false)) := by
  unfold i_MergeSpans
  refine .eq (areSpans_eq l hl) (.iteN (fun h => .ok ⟨fun hg => absurd hg h, fun _ => rfl⟩) (fun h => ?_))
  obtain ⟨m, hm, m1, m2, m3, m4⟩ := merge_ok l hl h.2
  exact .eq hm (.ok ⟨fun _ => ⟨rfl, hm, m1, by dsimp only; omega, m3, m4⟩, fun a => absurd h a⟩)
theorem sMerge_ok (l : List Span) (hl : l.length ≤ 1000) : Tot (s_MergeSpans l) fun r => (GoodL l → r.2 = true ∧ Norm r.1 ∧ ∀ t, Cov r.1 t ↔ Cov l t) ∧ (¬ GoodL l → r = ([], false)) := by
  unfold s_MergeSpans
  refine .eq (l4Spans_eq l hl) (.iteN (fun h => .ok ⟨fun hg => absurd hg h, fun _ => rfl⟩) (fun h => ?_))
  refine Tot.call (counts_ok l hl h.2) fun c ⟨c1, c2⟩ => Tot.call (runs_ok c ⟨0, 1799⟩ true (Cov l) c1 (by unfold GoodS; dsimp only; omega) (count_p c2)) fun f ⟨f1, f2⟩ => .ok ⟨fun _ => ⟨rfl, f1, fun t => ?_⟩, fun a => absurd h a⟩
  rw [f2]
  dsimp only
  constructor
  · rintro ⟨_, _, a⟩; exact a.2 rfl
  · rintro ⟨s, hs, a, b⟩
    have := h.2 s hs
    unfold GoodS at this
    exact ⟨by omega, by omega, fun _ => rfl, fun _ => ⟨s, hs, a, b⟩⟩
theorem vSpans_self (a : List Span) (h : a.length ≤ 100000) : v_vSpans a a = some true := by
  unfold v_vSpans
  have h0 : ((a.length : Int) != (a.length : Int)) = false := by simp
  rw [h0]
  simp only [Bool.false_eq_true, if_false]
  refine Tot.val (.flb ((Tot.iter (fun m (s : Int) => ∃ i : Nat, s = i ∧ i + m = a.length) (Q := fun (b : Fl Bool Unit) => b = .go ()) (n := a.length) ⟨0, rfl, by omega⟩ ?_).mono fun b hb => by subst hb; exact ⟨fun r e => (by cases e), fun u e => .ok rfl⟩))
  rintro m s ⟨i, rfl, h1⟩
  unfold v_vSpans_L1
  refine .iteP (fun hc => .idx (by omega) hc fun x hx => .idx (by omega) hc fun y hy => ?_) (fun hc => .dn rfl)
  rw [hx] at hy; cases hy
  refine .ite (fun h => by simp at h) (fun _ => ?_)
  rw [w64_id (by omega)]
  exact .nx ⟨m - 1, by omega, i + 1, by omega, by omega⟩
theorem iTotal_bad (l : List Span) (hl : l.length ≤ 1000) (hg : ¬ GoodL l) : i_TotalMinutes l = some (0, false) := by
  unfold i_TotalMinutes
  rw [areSpans_eq l hl, decide_eq_false hg]; rfl
theorem iBusy_bad (l : List Span) (hl : l.length ≤ 1000) (hg : ¬ GoodL l) : i_BusiestTime l = some (0, 0, false) := by
  unfold i_BusiestTime
  rw [areSpans_eq l hl, decide_eq_false hg]; rfl
theorem busy_ok (l : List Span) (hl : l.length ≤ 1000) (hg : GoodL l) : Tot (i_BusiestTime l) fun r => r.2.2 = true ∧ (r.2.1 = 0 ↔ ∀ t, ¬ Cov l t) := by
  unfold i_BusiestTime
  refine .eq (areSpans_eq l hl) ?_
  rw [decide_eq_true hg]
  refine .ite (fun h => by cases h) (fun _ => ?_)
  refine Tot.call (P := fun (r : Int × Int) => r.2 = 0 ↔ ∀ t, ¬ Cov l t) ?_ fun ⟨a, b⟩ hab => .ok ⟨rfl, hab⟩
  refine Tot.iter (fun k (s : Int × Int × Int) => ∃ i : Nat, s.2.2 = i ∧ i + k = l.length ∧ 0 ≤ s.2.1 ∧ (s.2.1 = 0 ↔ ∀ (j : Nat) x, j < i → l[j]? = some x → ¬ Cov l x.From)) (n := l.length) ⟨0, rfl, by omega, Int.le_refl _, by simp⟩ ?_
  rintro k ⟨most, v, w⟩ ⟨i, rfl, h1, h2, h3⟩
  dsimp only at h2 h3
  unfold i_BusiestTime_L2
  dsimp only
  refine .iteP (fun hc => ?_) (fun hc => .dn (h3.trans ?_))
  · obtain ⟨e, he⟩ := get_ex (l := l) (i := i) (by omega)
    refine Tot.call (P := fun (r : Int × Int) => ∃ n, r.2 = max v n ∧ 0 ≤ n ∧ (0 < n ↔ Cov l e.From)) ?_ fun ⟨m1, v2⟩ ⟨n, hv2, n0, n1⟩ => ?_
    · refine .eq (by rw [idx_nat]; exact he) (Tot.call (P := fun (n : Int) => 0 ≤ n ∧ (0 < n ↔ Cov l e.From)) ?_ fun n ⟨n0, n1⟩ => ?_)
      · refine Tot.iter (fun k (s : Int × Int) => ∃ j : Nat, s.2 = j ∧ j + k = l.length ∧ 0 ≤ s.1 ∧ s.1 ≤ j ∧ (0 < s.1 ↔ Cov (l.take j) e.From)) (n := l.length) ⟨0, rfl, by omega, Int.le_refl _, Int.le_refl _, by simp [Cov]⟩ ?_
        rintro m ⟨a, b⟩ ⟨j, rfl, g1, g2, g3, g4⟩
        dsimp only at g2 g3 g4
        unfold i_BusiestTime_L1
        dsimp only
        refine .iteP (fun hj => ?_) (fun hj => .dn ?_)
        · obtain ⟨y, hy⟩ := get_ex (l := l) (i := j) (by omega)
          rw [w64_id (x := (j : Int) + 1) (by omega)]
          refine Tot.call (P := fun (a' : Int) => 0 ≤ a' ∧ a' ≤ j + 1 ∧ (0 < a' ↔ Cov (l.take j) e.From ∨ CovS y e.From)) ?_ fun a' ⟨p1, p2, p3⟩ => .nx ⟨m - 1, by omega, j + 1, by dsimp only; omega, by omega, p1, by dsimp only; omega, p3.trans (cov_take_succ hy).symm⟩
          refine .eq (by rw [idx_nat]; exact hy) (Tot.call (P := fun b => b = true ↔ CovS y e.From) (.iteP (fun h => .ok (by simp [CovS, h])) (fun h => .ok (by simp [CovS, h]))) fun b hb => .ite (fun hh => ?_) (fun hh => .ok ⟨g2, by omega, ?_⟩))
          · rw [w64_id (by omega)]
            exact .ok ⟨by omega, by omega, fun _ => .inr (hb.1 hh), fun _ => by omega⟩
          · rw [g4]
            exact ⟨.inl, fun h => h.elim id fun c => by rw [hb.2 c] at hh; cases hh⟩
        · have : j = l.length := by omega
          subst this
          rw [List.take_length] at g4
          exact ⟨g2, g4⟩
      · refine Tot.call (P := fun b => (b = true → v ≤ n) ∧ (b = false → n ≤ v)) (.iteP (fun h => .ok ⟨fun _ => by omega, fun h => by cases h⟩) (fun h => .ite (fun h2 => ?_) (fun _ => .ok ⟨fun h => (by cases h), fun _ => by omega⟩))) fun b hb => .ite (fun h => .ok ⟨n, by have := hb.1 h; dsimp only; omega, n0, n1⟩) (fun h => .ok ⟨n, by have := hb.2 h; dsimp only; omega, n0, n1⟩)
        have : n = v := by simpa using h2
        exact .iteP (fun _ => .ok ⟨fun _ => by omega, fun _ => by omega⟩) (fun _ => .ok ⟨fun _ => by omega, fun _ => by omega⟩)
    · dsimp only at hv2 ⊢
      rw [w64_id (by omega)]
      refine .nx ⟨k - 1, by omega, i + 1, by dsimp only; omega, by omega, by dsimp only; omega, ?_⟩
      dsimp only
      constructor
      · intro h0 j x hj hx
        by_cases hji : j = i
        · subst hji; rw [he] at hx; cases hx
          intro c; have := n1.2 c; omega
        · exact h3.1 (by omega) j x (by omega) hx
      · intro h
        have a1 := h3.2 fun j x hj hx => h j x (by omega) hx
        have a2 := h i e (by omega) he
        have : ¬ 0 < n := fun c => a2 (n1.1 c)
        omega
  · have hi : i = l.length := by omega
    subst hi
    constructor
    · rintro h t ⟨s, hs, a, b⟩
      obtain ⟨j, hj⟩ := List.getElem?_of_mem hs
      exact h j s (get_lt hj) hj ⟨s, hs, Int.le_refl _, by omega⟩
    · intro h j x _ _
      exact h _
theorem overlap_ok (a b : Span) (ha : GoodS a) (hb : GoodS b) (hd : ∀ t, CovS a t → ¬ CovS b t) : i_OverlapOf a b = some (⟨0, 0⟩, false, true) := by
  unfold i_OverlapOf
  rw [isSpan_eq, isSpan_eq, decide_eq_true ha, decide_eq_true hb]
  simp only [Option.bind_some, Bool.not_true, Bool.false_eq_true, if_false]
  have h1 : (if b.To < a.To then b.To else a.To) = min a.To b.To := by split <;> omega
  have h2 : (if b.From > a.From then b.From else a.From) = max a.From b.From := by split <;> omega
  rw [h1, h2]
  have : min a.To b.To ≤ max a.From b.From := by
    rcases Int.lt_or_le (max a.From b.From) (min a.To b.To) with h | h
    · exact absurd (show CovS b (max a.From b.From) from ⟨by omega, by omega⟩) (hd _ ⟨by omega, by omega⟩)
    · exact h
  simp [this]
theorem vBig_eq (code : List UInt8) : v_vBig code = some (decide (65536 < (code.length : Int))) := rfl
theorem spans_true (code : List UInt8) : v_FnSpans code = some true := by
  unfold v_FnSpans
  refine Tot.val (.eq (vBig_eq code) (.iteP (fun _ => .ok rfl) (fun _ => ?_)))
  refine Tot.call (t_draw code) fun ⟨l, w⟩ hl => ?_
  dsimp only at hl ⊢
  refine Tot.call (iFree_ok l w (by omega)) fun ⟨f, fo⟩ ⟨hflen, f1, f2⟩ => Tot.call (sFree_ok l w (by omega)) fun ⟨g, go⟩ ⟨g1, g2⟩ => ?_
  have hfg : fo = go ∧ f = g := by
    by_cases hg : GoodL l ∧ GoodS w
    · obtain ⟨a1, a2, a3⟩ := f1 hg
      obtain ⟨b1, b2, b3⟩ := g1 hg
      exact ⟨a1.trans b1.symm, norm_uniq a2 b2 fun t => (a3 t).trans (b3 t).symm⟩
    · have a := f2 hg; have b := g2 hg
      cases a; cases b; exact ⟨rfl, rfl⟩
  obtain ⟨rfl, rfl⟩ := hfg
  dsimp only at hflen f1 f2 ⊢
  have same : ∀ {a : List Span} {b : Bool}, a.length ≤ 2000 → (if (!(b == b)) = true then some true else (v_vSpans a a).bind fun r4 => some (!r4)) = some false := by
    intro a b h
    rw [vSpans_self a (by omega)]; simp
  refine .eq (same hflen) (.ite (fun h => by cases h) (fun _ => ?_))
  refine Tot.call (iMerge_ok l (by omega)) fun ⟨m, mo⟩ ⟨m1, m2⟩ => ?_
  by_cases hg : GoodL l
  · obtain ⟨rfl, hm, n1, n2, n3, n4⟩ := m1 hg
    dsimp only at hm n1 n2 n3 n4 ⊢
    refine Tot.call (total_ok l (by omega) hg) fun ⟨tt, to⟩ ⟨t1, t2⟩ => Tot.call (busy_ok l (by omega) hg) fun ⟨b0, b1, bo⟩ ⟨u1, u2⟩ => Tot.call (sMerge_ok l (by omega)) fun ⟨sm, so⟩ ⟨s1, _⟩ => ?_
    obtain ⟨so1, s2, s3⟩ := s1 hg
    dsimp only at t1 t2 u1 u2 so1 s2 s3 ⊢
    subst t1; subst u1; subst so1
    have e : m = sm := norm_uniq n1 s2 fun t => (n4 t).trans (s3 t).symm
    subst e
    have et := t2 m hm
    subst et
    have hv := vSpans_self m (by omega)
    simp only [hv, Option.bind_some, beq_self_eq_true, Bool.not_true, Bool.false_eq_true, if_false]
    refine Tot.flb ((Tot.iter (fun k (s : Int × Int) => ∃ i : Nat, s.2 = i ∧ i + k = m.length ∧ s.1 = ((m.take i).map fun s => s.To - s.From).sum) (Q := fun (b : Fl Bool Int) => b = .go (sumS m)) (n := m.length) ⟨0, rfl, by omega, by simp⟩ ?_).mono fun b hb => ⟨fun r e => (by rw [hb] at e; cases e), fun u e => ?_⟩)
    · rintro k ⟨a, b⟩ ⟨i, rfl, h1, h2⟩
      dsimp only at h2
      unfold v_FnSpans_L2
      dsimp only
      refine .iteP (fun hc => ?_) (fun hc => .dn ?_)
      · obtain ⟨x, hx⟩ := get_ex (l := m) (i := i) (by omega)
        have hgx := n3 x (List.mem_of_getElem? hx)
        have hnx := n1.1 x (List.mem_of_getElem? hx)
        have ex : idx m (i : Int) = some x := by rw [idx_nat]; exact hx
        have hsum := sum_bd (l := (m.take i).map fun s => s.To - s.From) (M := 1799) fun y hy => by
          obtain ⟨z, hz, rfl⟩ := List.mem_map.1 hy
          have := n3 z (List.mem_of_mem_take hz)
          unfold GoodS at this
          omega
        have hml : (((m.take i).map fun s => s.To - s.From).length : Int) ≤ 1000 := by simp; omega
        rw [← h2] at hsum
        unfold GoodS at hgx
        refine .eq ex (.eq ex (Tot.call (P := fun b => b = false) (.iteP (fun h => by omega) (fun _ => .iteP (fun hi => ?_) (fun _ => .ok rfl))) fun b hb => .ite (fun h => by rw [hb] at h; cases h) (fun _ => .eq ex (.eq ex ?_))))
        · rw [w64_id (by omega)]
          refine .idx (by omega) (by omega) fun y hy => .eq ex (.ok (decide_eq_false ?_))
          have a1 := (List.getElem?_eq_some_iff.1 hx); have a2 := (List.getElem?_eq_some_iff.1 hy)
          have := List.pairwise_iff_getElem.1 n1.2 ((i : Int) - 1).toNat i (by omega) (by omega) (by omega)
          rw [a1.2, a2.2] at this; omega
        · refine Tot.flb ((Tot.iter (fun k (s : Int) => ∃ j : Nat, s = j ∧ j + k = f.length) (Q := fun (b : Fl (Lp (Int × Int) (Fl Bool Int)) Unit) => b = .go ()) (n := f.length) ⟨0, rfl, by omega⟩ ?_).mono fun b hb => ⟨fun r e => (by rw [hb] at e; cases e), fun u e => ?_⟩)
          · rintro q s ⟨j, rfl, j1⟩
            unfold v_FnSpans_L1
            dsimp only
            refine Tot.call (P := fun b => (b = true ↔ ((j : Int) < f.length ∧ fo = true))) (.iteP (fun h => .ok (by simp [h])) (fun h => .ok (by simp [h]))) fun b hb => .ite (fun h => ?_) (fun _ => .dn rfl)
            obtain ⟨hj, hfo⟩ := hb.1 h
            have hgw : GoodL l ∧ GoodS w := by
              by_cases hh : GoodL l ∧ GoodS w
              · exact hh
              · have := f2 hh
                cases this; cases hfo
            obtain ⟨_, k2, k3⟩ := f1 hgw
            refine .eq ex (.idx (by omega) hj fun y hy => .eq (overlap_ok x y ?_ ?_ ?_) ?_)
            · unfold GoodS; exact hgx
            · have hym := List.mem_of_getElem? hy
              have p1 := k2.1 y hym
              have p2 := (k3 y.From).1 ⟨y, hym, Int.le_refl _, p1⟩
              have p3 := (k3 (y.To - 1)).1 ⟨y, hym, by omega, by omega⟩
              have p4 := hgw.2
              unfold GoodS at p4 ⊢
              omega
            · intro t c c'
              have hym := List.mem_of_getElem? hy
              exact ((k3 t).1 ⟨y, hym, c'⟩).2.2 ((n4 t).1 ⟨x, List.mem_of_getElem? hx, c⟩)
            · dsimp only
              simp only [Bool.not_true, Bool.false_eq_true, if_false, Option.bind_some]
              rw [w64_id (by omega)]
              exact .nx ⟨q - 1, by omega, j + 1, by omega, by omega⟩
          · rw [w64_id (x := a + x.To) (by omega), w64_id (by omega), w64_id (by omega)]
            refine .nx ⟨k - 1, by omega, i + 1, by dsimp only; omega, by omega, ?_⟩
            dsimp only
            rw [take_succ hx, List.map_append, List.sum_append, ← h2]
            simp only [List.map_cons, List.map_nil, List.sum_cons, List.sum_nil]
            omega
      · have : i = m.length := by omega
        subst this
        rw [List.take_length] at h2
        rw [h2]; rfl
    · rw [hb] at e; cases e
      have hz : (sumS m = 0) ↔ ∀ t, ¬ Cov l t := by
        constructor
        · intro h0 t c
          obtain ⟨x, hx, _⟩ := (n4 t).2 c
          have hp : ∀ (q : List Span), (∀ s ∈ q, s.From < s.To) → q ≠ [] → 0 < (q.map fun s => s.To - s.From).sum := by
            intro q
            induction q with
            | nil => intro _ h; exact absurd rfl h
            | cons z q ih =>
              intro h _
              have h1 := h z (List.mem_cons_self ..)
              simp only [List.map_cons, List.sum_cons]
              by_cases hq : q = []
              · subst hq; simp; omega
              · have := ih (fun s hs => h s (List.mem_cons_of_mem _ hs)) hq; omega
          have := hp m n1.1 (fun e => by rw [e] at hx; cases hx)
          unfold sumS at h0
          omega
        · intro h
          have : m = [] := by
            cases m with
            | nil => rfl
            | cons z q =>
              have := n1.1 z (List.mem_cons_self ..)
              exact absurd ((n4 z.From).1 ⟨z, List.mem_cons_self .., Int.le_refl _, this⟩) (h _)
          rw [this]; rfl
      simp only [beq_self_eq_true, if_true, Option.bind_some]
      refine .ok ?_
      by_cases h0 : sumS m = 0
      · have := u2.2 (hz.1 h0)
        simp [h0, this]
      · have : b1 ≠ 0 := fun e => h0 (hz.2 (u2.1 e))
        rw [beq_eq_false_iff_ne.2 this, beq_eq_false_iff_ne.2 h0]; rfl
  · have a := m2 hg
    cases a
    rw [iTotal_bad l (by omega) hg, iBusy_bad l (by omega) hg]
    simp only [Option.bind_some]
    refine Tot.call (sMerge_ok l (by omega)) fun r ⟨_, s2⟩ => ?_
    have := s2 hg
    subst this
    rw [vSpans_self [] (by simp)]
    exact .ok rfl
end Go.Proofs.Ytepdapiceklppaa
