/- The plain law: what the models compute, no program in sight. -/
import Derived.Test.YtmpgpfekekobfaaTiM
import Derived.Test.YtmpgpfekekobfaaAbPm
namespace Go.Proofs.Ytmpgpfekekobfaa
open Go Go.Ab
set_option linter.unusedVariables false
set_option linter.unusedSimpArgs false
/-! The cursor of the draws: it always answers. -/
def Cur (k : Nat) (c : l1Cur) : Prop := 0 ≤ c.at_ ∧ c.at_ ≤ k
theorem Cur.mono {k k' : Nat} {c : l1Cur} (h : Cur k c) (hk : k ≤ k') : Cur k' c := ⟨h.1, by have := h.2; omega⟩
theorem next_ok {k : Nat} {c : l1Cur} (h : Cur k c) (hk : k ≤ 4000000000) : ∃ r, s_l1Cur_next c = some r ∧ Cur (k + 1) r.2 ∧ 0 ≤ r.1 ∧ r.1 ≤ 255 := by
  obtain ⟨h0, h1⟩ := h
  have hw : w64 (c.at_ + 1) = c.at_ + 1 := w64_id (by omega)
  have hcur : ∀ s, Cur (k + 1) ⟨c.code_, w64 (c.at_ + 1), s⟩ := fun s => by rw [hw]; exact ⟨by show 0 ≤ c.at_ + 1; omega, by show c.at_ + 1 ≤ _; omega⟩
  unfold s_l1Cur_next
  have hv : ∃ v, (if (decide (c.at_ < (c.code_.length : Int))) = true then (idx c.code_ c.at_).bind fun e1 => some (w64 ((e1.toNat : Int))) else some 0) = some v ∧ 0 ≤ v ∧ v ≤ 255 := by
    by_cases hlt : c.at_ < c.code_.length
    · obtain ⟨x, hx, _, _⟩ := idx_lt h0 hlt
      have := x.toNat_lt
      refine ⟨(x.toNat : Int), ?_, by omega, by omega⟩
      simp only [hlt, decide_true, if_true, hx, Option.bind_some]
      rw [w64_id (by omega)]
    · exact ⟨0, by simp [hlt], by omega, by omega⟩
  obtain ⟨v, hv, hv0, hv1⟩ := hv
  rw [hv]
  simp only [Option.bind_some]
  split
  · exact ⟨_, rfl, hcur _, hv0, hv1⟩
  · rw [chk_of (by omega)]
    exact ⟨_, rfl, hcur _, and255 _⟩
theorem pick_ok {k : Nat} {c : l1Cur} (n : Int) (h : Cur k c) (hk : k ≤ 3000000000) : ∃ r, s_l1Cur_pick c n = some r ∧ Cur (k + 2) r.2 ∧ 0 ≤ r.1 ∧ (r.1 < n ∨ r.1 = 0) := by
  unfold s_l1Cur_pick
  by_cases hn : n ≤ 1
  · exact ⟨(0, c), by simp [hn], h.mono (by omega), by simp, .inr rfl⟩
  · obtain ⟨r, hr, hc, h0, h1⟩ := next_ok h (by omega)
    have hn' : decide (n ≤ 1) = false := by simpa using hn
    simp only [hn', Bool.false_eq_true, if_false, hr, Option.bind_some]
    have hne : chk (n ≠ 0) = some () := chk_of (by omega)
    by_cases h2 : 200 < n
    · obtain ⟨r', hr', hc', h0', h1'⟩ := next_ok hc (by omega)
      have e1 : w64 (r.1 * 256) = r.1 * 256 := w64_id (by omega)
      have e2 : w64 (r.1 * 256 + r'.1) = r.1 * 256 + r'.1 := w64_id (by omega)
      have h3 := tmod_rng (a := r.1 * 256 + r'.1) (b := n) (by omega) (by omega)
      simp only [h2, decide_true, if_true, hr', Option.bind_some, hne, e1, e2]
      exact ⟨_, rfl, hc'.mono (by omega), h3.1, .inl h3.2⟩
    · have h2' : decide (200 < n) = false := by simpa using h2
      have h3 := tmod_rng (a := r.1) (b := n) (by omega) (by omega)
      simp only [h2', Bool.false_eq_true, if_false, Option.bind_some, hne]
      exact ⟨_, rfl, hc.mono (by omega), h3.1, .inl h3.2⟩
theorem amongw_ok {k : Nat} {c : l1Cur} (l : List Int) (hl : l ≠ []) (h : Cur k c) (hk : k ≤ 3000000000) : ∃ r, s_l1Cur_among_w c l = some r ∧ Cur (k + 2) r.2 ∧ r.1 ∈ l := by
  unfold s_l1Cur_among_w
  obtain ⟨r, hr, hc, h0, h1⟩ := pick_ok (l.length : Int) h hk
  have hpos : 0 < l.length := List.length_pos_iff.2 hl
  obtain ⟨x, hx, _, hm⟩ := idx_lt (l := l) h0 (by omega)
  simp only [hr, Option.bind_some, hx]
  exact ⟨_, rfl, hc, hm⟩
theorem among_ok {k : Nat} {c : l1Cur} (l : List Int) (hl : l ≠ []) (h : Cur k c) (hk : k ≤ 3000000000) : ∃ r, s_l1Cur_among c l = some r ∧ Cur (k + 2) r.2 ∧ r.1 ∈ l := by
  have : s_l1Cur_among c l = s_l1Cur_among_w c l := rfl
  rw [this]; exact amongw_ok l hl h hk
theorem one_ok {k : Nat} {c : l1Cur} (n : Int) (h : Cur k c) (hk : k ≤ 3000000000) : ∃ r, s_l1Cur_one c n = some r ∧ Cur (k + 2) r.2 := by
  unfold s_l1Cur_one
  obtain ⟨r, hr, hc, _, _⟩ := pick_ok n h hk
  simp only [hr, Option.bind_some]
  exact ⟨_, rfl, hc⟩
theorem least_eq (a b : Int) : s_l1Least a b = some (min a b) := by
  unfold s_l1Least
  by_cases h : a < b
  · simp [h]; omega
  · simp [h]; omega
theorem most_eq (a b : Int) : s_l1Most a b = some (max a b) := by
  unfold s_l1Most
  by_cases h : b < a
  · simp [h]; omega
  · simp [h]; omega

/-! The draws of tickets -/
theorem prices_ok {k : Nat} {c : l1Cur} (h : Cur k c) (hk : k ≤ 1000000000) : ∃ r, s_l1Cur_prices c = some r ∧ Cur (k + 1000) r.2 ∧ r.1.Zones.length ≤ 10 := by
  unfold s_l1Cur_prices
  obtain ⟨r, hr, hc, _⟩ := amongw_ok [500, 700, 300, 10000] (by simp) h (by omega)
  obtain ⟨r1, hr1, hc1, _⟩ := amongw_ok [2000, 1500, 3000, 900, 10000] (by simp) hc (by omega)
  obtain ⟨r2, hr2, hc2, _⟩ := amongw_ok [100, 200, 250] (by simp) hc1 (by omega)
  obtain ⟨r3, hr3, hc3, h30, h31⟩ := pick_ok 4 hc2 (by omega)
  simp only [hr, hr1, hr2, hr3, Option.bind_some]
  have e1 : w64 (1 + r3.1) = ((1 + r3.1.toNat : Nat) : Int) := by rw [w64_id (by omega)]; omega
  rw [e1]
  have loop : ∃ b, iter s_l1Cur_prices_L1 (r2.1, ((1 + r3.1.toNat : Nat) : Int), r3.2.code_, r3.2.at_, r3.2.seed_.v, []) = some b ∧ (Cur (k + 8 + 2 * 5) ⟨b.1, b.2.1, ⟨b.2.2.1⟩⟩ ∧ b.2.2.2.length ≤ 5) := by
    refine iter_rule (fun m a => a.2.1 = (m : Int) ∧ m + a.2.2.2.2.2.length ≤ 5 ∧ Cur (k + 8 + 2 * (5 - m)) ⟨a.2.2.1, a.2.2.2.1, ⟨a.2.2.2.2.1⟩⟩) _ ?_ (k := 1 + r3.1.toNat) ⟨rfl, by simp; omega, ?_⟩
    · rintro m ⟨n, v, v1, v2, v3, v4⟩ ⟨hv, hl, hcur⟩
      simp only at hv hl hcur
      subst hv
      unfold s_l1Cur_prices_L1
      cases m with
      | zero => right; exact ⟨_, by simp; rfl, hcur, by show v4.length ≤ 5; omega⟩
      | succ m =>
        left
        have hpos : (0 : Int) < ((m + 1 : Nat) : Int) := by omega
        obtain ⟨q, hq, hcq, _⟩ := amongw_ok [0, 50, 100] (by simp) hcur (by omega)
        have hch : chk (v4.length + ([n] : List Int).length ≤ 4294967296) = some () := chk_of (by simp; omega)
        refine ⟨_, m, by simp only [hpos, decide_true, if_true, hch, hq, Option.bind_some]; rfl, by omega, ?_, ?_, ?_⟩
        · exact w64_pred (by omega)
        · simp; omega
        · exact hcq.mono (by omega)
    · exact hc3.mono (by omega)
  obtain ⟨⟨v5, v6, v7, v8⟩, hb, hcb, hlb⟩ := loop
  simp only at hcb hlb
  rw [hb]
  simp only [Option.bind_some]
  obtain ⟨r5, hr5, hc5, _, _⟩ := pick_ok 40 hcb (by omega)
  obtain ⟨r7, hr7, hc7, _⟩ := amongw_ok [0, 10000, 10001] (by simp) hc5 (by omega)
  obtain ⟨r8, hr8, hc8, _⟩ := amongw_ok [-1, 10001, 0] (by simp) hc5 (by omega)
  have hch : chk (v8.length + ([r7.1] : List Int).length ≤ 4294967296) = some () := chk_of (by simp; omega)
  have hch2 : chk ((0 : Int) ≤ 0 ∧ (0 : Int) ≤ 0 ∧ (0 : Int) ≤ (v8.length : Int)) = some () := chk_of (by omega)
  simp only [hr5, hr7, hr8, hch, hch2, Option.bind_some]
  split
  · exact ⟨_, rfl, hc7.mono (by omega), by simp; omega⟩
  · split
    · exact ⟨_, rfl, hc8.mono (by omega), by simp; omega⟩
    · split
      · exact ⟨_, rfl, hc5.mono (by omega), by simp⟩
      · exact ⟨_, rfl, hc5.mono (by omega), by simp; omega⟩
theorem rides_L1_ok {k : Nat} {c : l1Cur} (n : Nat) (hn : n ≤ 20) (v3 v4 v5 : Int) (h : Cur k c) (hk : k ≤ 1000000000) :
    ∃ b, iter s_l1Cur_rides_L1 ((n : Int), c.code_, c.at_, c.seed_.v, [], v3, v4, v5) = some b ∧ Cur (k + 200) ⟨b.1, b.2.1, ⟨b.2.2.1⟩⟩ ∧ b.2.2.2.length ≤ 20 := by
  refine iter_rule (step := s_l1Cur_rides_L1) (fun m a => a.1 = (m : Int) ∧ m + a.2.2.2.2.1.length ≤ 20 ∧ Cur (k + 10 * (20 - m)) ⟨a.2.1, a.2.2.1, ⟨a.2.2.2.1⟩⟩) (fun b => Cur (k + 200) ⟨b.1, b.2.1, ⟨b.2.2.1⟩⟩ ∧ b.2.2.2.length ≤ 20) ?_ (k := n) ⟨rfl, by simp; omega, h.mono (by omega)⟩
  rintro m ⟨n, v, v1, v2, x, v3, v4, v5⟩ ⟨hv, hl, hcur⟩
  simp only at hv hl hcur
  subst hv
  unfold s_l1Cur_rides_L1
  cases m with
  | zero =>
    right
    refine ⟨_, by simp; rfl, ?_, ?_⟩
    · exact hcur.mono (by omega)
    · show x.length ≤ 20; omega
  | succ m =>
    left
    have hpos : (0 : Int) < ((m + 1 : Nat) : Int) := by omega
    obtain ⟨r2, hr2, hc2, _⟩ := amongw_ok [100, 200, 250, 300, 0] (by simp) hcur (by omega)
    have hch : ∀ y : Ride, chk (x.length + ([y] : List Ride).length ≤ 4294967296) = some () := fun y => chk_of (by simp; omega)
    obtain ⟨r3, hr3, hc3⟩ := one_ok 2 hc2 (by omega)
    obtain ⟨r6, hr6, hc6, _⟩ := amongw_ok [0, 10, 45, 60, 90, 300] (by simp) hc3 (by omega)
    obtain ⟨r10, hr10, hc10, _⟩ := amongw_ok [1, 1, 1, 2, 6, 7] (by simp) hc3 (by omega)
    simp only [hpos, decide_true, if_true, hr2, hch, hr3, hr6, hr10, least_eq, most_eq, Option.bind_some]
    cases r3.1
    · refine ⟨_, m, by simp only [Bool.false_eq_true, if_false, Option.bind_some]; rfl, by omega, ?_, ?_, ?_⟩
      · exact w64_pred (by omega)
      · simp; omega
      · exact hc10.mono (by omega)
    · refine ⟨_, m, by simp only [if_true, Option.bind_some]; rfl, by omega, ?_, ?_, ?_⟩
      · exact w64_pred (by omega)
      · simp; omega
      · exact hc6.mono (by omega)
theorem rides_L2_ok {k : Nat} {c : l1Cur} (x : List Ride) (hx : 1 ≤ x.length ∧ x.length ≤ 20) (h : Cur k c) (hk : k ≤ 1000000000) :
    ∃ b, iter s_l1Cur_rides_L2 (c.code_, c.at_, c.seed_.v, x) = some b ∧ Cur (k + 100) ⟨b.1, b.2.1, ⟨b.2.2.1⟩⟩ ∧ x.length ≤ b.2.2.2.length ∧ b.2.2.2.length ≤ 22 := by
  refine iter_rule (step := s_l1Cur_rides_L2) (fun m a => m + a.2.2.2.length = 22 ∧ x.length ≤ a.2.2.2.length ∧ Cur (k + 3 * (22 - m)) ⟨a.1, a.2.1, ⟨a.2.2.1⟩⟩) (fun b => Cur (k + 100) ⟨b.1, b.2.1, ⟨b.2.2.1⟩⟩ ∧ x.length ≤ b.2.2.2.length ∧ b.2.2.2.length ≤ 22) ?_ (k := 22 - x.length) ⟨by simp; omega, Nat.le_refl _, h.mono (by omega)⟩
  rintro m ⟨v, v1, v2, y⟩ ⟨hl, hx2, hcur⟩
  simp only at hl hx2 hcur
  unfold s_l1Cur_rides_L2
  obtain ⟨r, hr, hc, h0, h1⟩ := pick_ok 2 hcur (by omega)
  have e1 : w64 (20 + r.1) = 20 + r.1 := w64_id (by omega)
  simp only [hr, Option.bind_some, e1]
  by_cases hlt : (y.length : Int) < 20 + r.1
  · left
    have e2 : w64 ((y.length : Int) - 1) = (y.length : Int) - 1 := w64_id (by omega)
    obtain ⟨e, he, _⟩ := idx_lt (l := y) (i := (y.length : Int) - 1) (by omega) (by omega)
    have hch : chk (y.length + ([e] : List Ride).length ≤ 4294967296) = some () := chk_of (by simp; omega)
    refine ⟨_, m - 1, by simp only [hlt, decide_true, if_true, e2, he, hch, Option.bind_some]; rfl, by omega, ?_, ?_, ?_⟩
    · simp; omega
    · simp; omega
    · exact hc.mono (by omega)
  · right
    refine ⟨_, by simp only [hlt, decide_false, Bool.false_eq_true, if_false]; rfl, ?_, hx2, ?_⟩
    · exact hc.mono (by omega)
    · show y.length ≤ 22; omega
theorem rides_ok {k : Nat} {c : l1Cur} (h : Cur k c) (hk : k ≤ 500000000) : ∃ r, s_l1Cur_rides c = some r ∧ Cur (k + 1000) r.2 ∧ r.1.length ≤ 30 := by
  unfold s_l1Cur_rides
  obtain ⟨r, hr, hc, h0, h1⟩ := pick_ok 10 h (by omega)
  obtain ⟨r1, hr1, hc1, h10, h11⟩ := pick_ok 10 hc (by omega)
  obtain ⟨⟨v12, v13, v14, x2⟩, hb, hcb, hlb⟩ := rides_L1_ok r1.1.toNat (by omega) r.1 400 0 hc1 (by omega)
  have e1 : ((r1.1.toNat : Nat) : Int) = r1.1 := by omega
  rw [e1] at hb
  simp only at hcb hlb
  simp only [hr, hr1, hb, Option.bind_some]
  split
  · exact ⟨_, rfl, hcb.mono (by omega), by show x2.length ≤ 30; omega⟩
  · rename_i hne
    have hpos : 1 ≤ x2.length := by
      have : (x2.length : Int) ≠ 0 := by simpa using hne
      omega
    obtain ⟨r13, hr13, hc13, h130, h131⟩ := pick_ok (x2.length : Int) hcb (by omega)
    obtain ⟨e, he, _⟩ := idx_lt (l := x2) h130 (by omega)
    obtain ⟨r14, hr14, hc14, _⟩ := pick_ok 40 hc13 (by omega)
    obtain ⟨r15, hr15, hc15, _⟩ := amongw_ok [-1, 61, 60] (by simp) hc14 (by omega)
    obtain ⟨r16, hr16, hc16, _⟩ := amongw_ok [-1, 10001, 10000] (by simp) hc14 (by omega)
    obtain ⟨⟨v23, v24, v25, x5⟩, hb2, hcb2, hlb2, hlb3⟩ := rides_L2_ok x2 ⟨hpos, hlb⟩ hc14 (by omega)
    simp only at hcb2 hlb2 hlb3
    simp only [hr13, he, hr14, hr15, hr16, hb2, Option.bind_some]
    have fin : ∀ (x3 : List Ride) (v15 : List UInt8) (v16 v17 v18 v19 : Int), x2.length ≤ x3.length → x3.length ≤ 22 → Cur (k + 900) ⟨v15, v16, ⟨v17⟩⟩ →
        ∃ r, ((idx x3 r13.1).bind fun e2 => some (x3.set r13.1.toNat (⟨v18, e.Time, v19⟩ : Ride), (⟨v15, v16, (⟨v17⟩ : IK .u64)⟩ : l1Cur))) = some r ∧ Cur (k + 1000) r.2 ∧ r.1.length ≤ 30 := by
      intro x3 v15 v16 v17 v18 v19 g1 g2 g3
      obtain ⟨e2, he2, _⟩ := idx_lt (l := x3) h130 (by omega)
      rw [he2]
      exact ⟨_, rfl, g3.mono (by omega), by simp; omega⟩
    split
    · exact fin x2 _ _ _ _ _ (Nat.le_refl _) (by omega) (hc15.mono (by omega))
    · split
      · exact fin x2 _ _ _ _ _ (Nat.le_refl _) (by omega) (hc16.mono (by omega))
      · split
        · exact fin x5 _ _ _ _ _ hlb2 hlb3 (hcb2.mono (by omega))
        · exact fin x2 _ _ _ _ _ (Nat.le_refl _) (by omega) (hc14.mono (by omega))
theorem cur0 (code : List UInt8) : Cur 0 ⟨code, 0, ⟨0⟩⟩ := ⟨by show (0 : Int) ≤ 0; omega, by show (0 : Int) ≤ _; omega⟩
theorem drawCaps_ok (code : List UInt8) : ∃ r, s_DrawDailyCaps code = some r ∧ r.1.Zones.length ≤ 10 ∧ r.2.length ≤ 30 := by
  unfold s_DrawDailyCaps
  obtain ⟨r, hr, hc, hz⟩ := prices_ok (cur0 code) (by omega)
  obtain ⟨r2, hr2, hc2, hl⟩ := rides_ok hc (by omega)
  simp only [hr, hr2, Option.bind_some]
  exact ⟨_, rfl, hz, hl⟩
theorem drawTickets_ok (code : List UInt8) : ∃ r, s_DrawCheapestTickets code = some r ∧ r.1.Zones.length ≤ 10 ∧ r.2.length ≤ 30 := by
  unfold s_DrawCheapestTickets
  obtain ⟨r, hr, h1, h2⟩ := drawCaps_ok code
  simp only [hr, Option.bind_some]
  exact ⟨_, rfl, h1, h2⟩
theorem drawFree_ok (code : List UInt8) : ∃ r, s_DrawFreeTransfers code = some r ∧ r.1.length ≤ 30 := by
  unfold s_DrawFreeTransfers
  obtain ⟨r, hr, hc, hl⟩ := rides_ok (cur0 code) (by omega)
  obtain ⟨r1, hr1, hc1, h0, h1⟩ := pick_ok 24 hc (by omega)
  have e1 : r1.1.tdiv 11 = r1.1 / 11 := Int.tdiv_eq_ediv_of_nonneg h0
  have e2 : w64 (r1.1.tdiv 11) = r1.1 / 11 := by rw [e1]; exact w64_id (by omega)
  have e3 : w64 (5 + r1.1 / 11) = 5 + r1.1 / 11 := w64_id (by omega)
  simp only [hr, hr1, Option.bind_some, e2, e3]
  rw [chk_of (by omega), chk_of (by simp; omega)]
  simp only [Option.bind_some]
  obtain ⟨r2, hr2, _⟩ := among_ok (List.drop (0 : Int).toNat (List.take (5 + r1.1 / 11).toNat [0, 30, 60, 90, 1799, -1, 1800])) (by
    have : 0 < (List.drop (0 : Int).toNat (List.take (5 + r1.1 / 11).toNat ([0, 30, 60, 90, 1799, -1, 1800] : List Int))).length := by simp; omega
    exact List.length_pos_iff.1 this) hc1 (by omega)
  rw [hr2]
  exact ⟨_, rfl, hl⟩
/-! Small checks -/
theorem within_eq (n lo hi : Int) : i_within n lo hi = some (decide (lo ≤ n ∧ n ≤ hi)) := by
  unfold i_within
  by_cases h : lo ≤ n <;> simp [h]
theorem l1In_eq (n lo hi : Int) : s_l1In n lo hi = some (decide (lo ≤ n ∧ n ≤ hi)) := by
  unfold s_l1In
  by_cases h : lo ≤ n <;> simp [h]
theorem isPrice_eq (n : Int) : i_isPrice n = some (decide (0 ≤ n ∧ n ≤ 10000)) := by
  unfold i_isPrice; simp [within_eq]
theorem validTime_eq (n : Int) : i_IsValidTime n = some (decide (0 ≤ n ∧ n ≤ 1799)) := by
  unfold i_IsValidTime; simp [within_eq]
theorem l4Time_eq (n : Int) : s_l4Time n = some (decide (0 ≤ n ∧ n ≤ 1799)) := by
  unfold s_l4Time; simp [l1In_eq]
theorem less_eq (x y : Int) : cmp_Less_int x y = some (decide (x < y)) := by
  unfold cmp_Less_int cmp_isNaN_int; simp
theorem compare_eq (x y : Int) : cmp_Compare_int x y = some (if x < y then -1 else if y < x then 1 else 0) := by
  unfold cmp_Compare_int cmp_isNaN_int
  simp
  by_cases h : x < y <;> by_cases h2 : y < x <;> simp [h, h2]
theorem or2_eq (a b : Int) : cmp_Or_int [a, b] = some (if a ≠ 0 then a else b) := by
  unfold cmp_Or_int
  have step : ∀ v, cmp_Or_int_L1 [a, b] v = (if (decide (v < 2)) = true then
      (idx [a, b] v).bind fun e => if (e != 0) = true then some (.dn (.ret e)) else some (.nx (w64 (v + 1))) else some (.dn (.go ()))) := fun v => rfl
  have e1 : w64 1 = 1 := w64_id (by omega)
  have e2 : w64 2 = 2 := w64_id (by omega)
  by_cases ha : a = 0
  · subst ha
    rw [iter_nx (a' := 1) (by rw [step]; simp [idx, e1])]
    by_cases hb : b = 0
    · subst hb
      rw [iter_nx (a' := 2) (by rw [step]; simp [idx, e2]), iter_dn (by rw [step]; simp; rfl)]
      rfl
    · rw [iter_dn (b := .ret b) (by rw [step]; simp [idx, hb])]
      simp
  · rw [iter_dn (b := .ret a) (by rw [step]; simp [idx, ha])]
    simp [ha]

def Srt (l : List Int) : Prop := ∀ (i : Nat) (x y : Int), l[i]? = some x → l[i + 1]? = some y → x ≤ y
theorem Srt.le {l : List Int} (h : Srt l) : ∀ (d i : Nat) (x y : Int), l[i]? = some x → l[i + d]? = some y → x ≤ y
  | 0, i, x, y, hx, hy => by rw [Nat.add_zero, hx] at hy; cases hy; omega
  | d + 1, i, x, y, hx, hy => by
    have hlt : i + d < l.length := by
      have := (List.getElem?_eq_some_iff.1 hy).1; omega
    obtain ⟨z, hz⟩ := get_ex hlt
    have h1 := Srt.le h d i x z hx hz
    have h2 := h (i + d) z y hz (by rw [Nat.add_assoc]; exact hy)
    omega
open Classical in
theorem isSorted_eq (l : List Int) (hl : l.length ≤ 1000) : slices_IsSorted_int l = some (decide (Srt l)) := by
  unfold slices_IsSorted_int
  have loop : ∃ b, iter (slices_IsSorted_int_L1 l) (w64 ((l.length : Int) - 1)) = some b ∧ (b = .go () ∧ Srt l ∨ b = .ret false ∧ ¬ Srt l) := by
    refine iter_rule (step := slices_IsSorted_int_L1 l) (fun m v => (m : Int) = v + 1 ∧ m ≤ l.length ∧ ∀ (i : Nat) (x y : Int), m ≤ i + 1 → l[i]? = some x → l[i + 1]? = some y → x ≤ y) _ ?_ (k := l.length) ⟨?_, Nat.le_refl _, ?_⟩
    · rintro m v ⟨hv, hm, hall⟩
      unfold slices_IsSorted_int_L1
      by_cases hpos : 0 < v
      · obtain ⟨x, hx, hx2, _⟩ := idx_lt (l := l) (i := v) (by omega) (by omega)
        have ew : w64 (v - 1) = v - 1 := w64_id (by omega)
        obtain ⟨z, hz, hz2, _⟩ := idx_lt (l := l) (i := v - 1) (by omega) (by omega)
        have hp : decide (0 < v) = true := by simpa using hpos
        have e3 : v.toNat = (v - 1).toNat + 1 := by omega
        by_cases hlt : x < z
        · right
          refine ⟨.ret false, by simp only [hp, if_true, hx, ew, hz, less_eq, Option.bind_some, hlt, decide_true], .inr ⟨rfl, fun hs => ?_⟩⟩
          have := hs (v - 1).toNat z x hz2 (by rw [← e3]; exact hx2)
          omega
        · left
          refine ⟨v - 1, m - 1, by simp only [hp, if_true, hx, ew, hz, less_eq, Option.bind_some, hlt, decide_false, Bool.false_eq_true, if_false], by omega, by omega, by omega, ?_⟩
          intro i a b hi ha hb
          by_cases hi2 : m ≤ i + 1
          · exact hall i a b hi2 ha hb
          · have e4 : i = (v - 1).toNat := by omega
            subst e4
            rw [hz2] at ha; cases ha
            rw [← e3, hx2] at hb; cases hb
            omega
      · right
        have hp : decide (0 < v) = false := by simpa using hpos
        exact ⟨.go (), by simp only [hp, Bool.false_eq_true, if_false], .inl ⟨rfl, fun i x y hx hy => hall i x y (by omega) hx hy⟩⟩
    · rw [w64_id (by omega)]; omega
    · intro i x y hi hx hy
      have := (List.getElem?_eq_some_iff.1 hy).1
      omega
  obtain ⟨b, hb, h⟩ := loop
  rw [hb]
  rcases h with ⟨rfl, h⟩ | ⟨rfl, h⟩
  · simp [h]
  · simp [h]

structure VP (p : Prices) : Prop where
  len : 1 ≤ p.Zones.length ∧ p.Zones.length ≤ 9
  srt : Srt p.Zones
  all : ∀ x ∈ p.Zones, 0 ≤ x ∧ x ≤ 10000
  day : 0 ≤ p.Day ∧ p.Day ≤ 10000
  week : 0 ≤ p.Week ∧ p.Week ≤ 10000
open Classical in
theorem arePrices_eq (p : Prices) (hl : p.Zones.length ≤ 1000) : i_arePrices p = some (decide (VP p)) := by
  unfold i_arePrices
  simp only [within_eq, isSorted_eq _ hl, isPrice_eq, Option.bind_some]
  have no : ∀ q : Prop, (VP p → q) → ¬ q → decide (VP p) = false := fun q h1 h2 => decide_eq_false (fun h => h2 (h1 h))
  by_cases h1 : (1 : Int) ≤ p.Zones.length ∧ (p.Zones.length : Int) ≤ 9
  rotate_left
  · rw [no _ (fun h => h.len) (by omega)]; simp [h1]
  by_cases h2 : Srt p.Zones
  rotate_left
  · rw [no _ (fun h => h.srt) h2]; simp [h1, h2]
  by_cases h3 : 0 ≤ p.Day ∧ p.Day ≤ 10000
  rotate_left
  · rw [no _ (fun h => h.day) h3]; simp [h1, h2, h3]
  by_cases h4 : 0 ≤ p.Week ∧ p.Week ≤ 10000
  rotate_left
  · rw [no _ (fun h => h.week) h4]; simp [h1, h2, h3, h4]
  simp only [h1, h2, h3, h4, and_self, decide_true, Bool.not_true, Bool.false_eq_true, if_false, Option.bind_some]
  obtain ⟨a, ha, ha2, hm⟩ := idx_lt (l := p.Zones) (i := 0) (by omega) (by omega)
  have ew : w64 ((p.Zones.length : Int) - 1) = (p.Zones.length : Int) - 1 := w64_id (by omega)
  obtain ⟨b, hb, hb2, hm2⟩ := idx_lt (l := p.Zones) (i := (p.Zones.length : Int) - 1) (by omega) (by omega)
  simp only [ha, ew, hb, Option.bind_some]
  by_cases h5 : 0 ≤ a ∧ a ≤ 10000
  rotate_left
  · rw [no _ (fun h => h.all a hm) h5]; simp [h5]
  by_cases h6 : 0 ≤ b ∧ b ≤ 10000
  rotate_left
  · rw [no _ (fun h => h.all b hm2) h6]; simp [h5, h6]
  have hv : VP p := by
    refine ⟨by omega, h2, fun x hx => ?_, h3, h4⟩
    obtain ⟨i, hi⟩ := List.getElem?_of_mem hx
    have hil := (List.getElem?_eq_some_iff.1 hi).1
    have g1 := h2.le i 0 a x ha2 (by rw [Nat.zero_add]; exact hi)
    have g2 := h2.le (((p.Zones.length : Int) - 1).toNat - i) i x b hi (by rw [show i + (((p.Zones.length : Int) - 1).toNat - i) = ((p.Zones.length : Int) - 1).toNat by omega]; exact hb2)
    omega
  simp [h5, h6, hv]
open Classical in
theorem l21Prices_eq (p : Prices) (hl : p.Zones.length ≤ 1000) : s_l21Prices p = some (decide (VP p)) := by
  unfold s_l21Prices
  have no : ∀ q : Prop, (VP p → q) → ¬ q → decide (VP p) = false := fun q h1 h2 => decide_eq_false (fun h => h2 (h1 h))
  have loop : ∃ b, iter (s_l21Prices_L1 p) 0 = some b ∧ (b = .go () ∧ (Srt p.Zones ∧ ∀ x ∈ p.Zones, 0 ≤ x ∧ x ≤ 10000) ∨ b = .ret false ∧ ¬ (Srt p.Zones ∧ ∀ x ∈ p.Zones, 0 ≤ x ∧ x ≤ 10000)) := by
    refine iter_rule (step := s_l21Prices_L1 p) (fun m v => (m : Int) + v = p.Zones.length ∧ 0 ≤ v ∧ (∀ (i : Nat) (x y : Int), (i : Int) + 1 < v → p.Zones[i]? = some x → p.Zones[i + 1]? = some y → x ≤ y) ∧ ∀ (i : Nat) x, (i : Int) < v → p.Zones[i]? = some x → 0 ≤ x ∧ x ≤ 10000) _ ?_ (k := p.Zones.length) ⟨by omega, by omega, fun i x y h => by omega, fun i x h => by omega⟩
    rintro m v ⟨hv, h0, hs, ha⟩
    unfold s_l21Prices_L1
    by_cases hlt : v < p.Zones.length
    · obtain ⟨x, hx, hx2, hxm⟩ := idx_lt (l := p.Zones) (i := v) h0 hlt
      have hp : decide (v < (p.Zones.length : Int)) = true := by simpa using hlt
      simp only [hp, if_true, hx, l1In_eq, Option.bind_some]
      by_cases hr : 0 ≤ x ∧ x ≤ 10000
      rotate_left
      · right
        exact ⟨.ret false, by simp [hr], .inr ⟨rfl, fun h => hr (h.2 x hxm)⟩⟩
      have ew : w64 (v + 1) = v + 1 := w64_id (by omega)
      have step : (∀ z, 0 < v → p.Zones[(v - 1).toNat]? = some z → z ≤ x) → ((m - 1 : Nat) : Int) + (v + 1) = p.Zones.length ∧ 0 ≤ v + 1 ∧ (∀ (i : Nat) (x y : Int), (i : Int) + 1 < v + 1 → p.Zones[i]? = some x → p.Zones[i + 1]? = some y → x ≤ y) ∧ ∀ (i : Nat) x, (i : Int) < v + 1 → p.Zones[i]? = some x → 0 ≤ x ∧ x ≤ 10000 := by
        intro hz
        refine ⟨by omega, by omega, fun i a b hi ha' hb' => ?_, fun i a hi ha' => ?_⟩
        · by_cases hi2 : (i : Int) + 1 < v
          · exact hs i a b hi2 ha' hb'
          · have e1 : i + 1 = v.toNat := by omega
            rw [e1, hx2] at hb'; cases hb'
            exact hz a (by omega) (by rw [show (v - 1).toNat = i by omega]; exact ha')
        · by_cases hi2 : (i : Int) < v
          · exact ha i a hi2 ha'
          · have e1 : i = v.toNat := by omega
            rw [e1, hx2] at ha'; cases ha'
            exact hr
      by_cases hpos : 0 < v
      · have ew2 : w64 (v - 1) = v - 1 := w64_id (by omega)
        obtain ⟨z, hz, hz2, _⟩ := idx_lt (l := p.Zones) (i := v - 1) (by omega) (by omega)
        by_cases hlt2 : x < z
        · right
          refine ⟨.ret false, by simp [hr, hpos, ew2, hz, hlt2], .inr ⟨rfl, fun h => ?_⟩⟩
          have := h.1 (v - 1).toNat z x hz2 (by rw [show (v - 1).toNat + 1 = v.toNat by omega]; exact hx2)
          omega
        · left
          exact ⟨v + 1, m - 1, by simp [hr, hpos, ew2, hz, hlt2, ew], by omega, step (fun z' _ hz' => by rw [hz2] at hz'; cases hz'; omega)⟩
      · left
        exact ⟨v + 1, m - 1, by simp [hr, hpos, ew], by omega, step (fun z' h _ => absurd h hpos)⟩
    · right
      have hp : decide (v < (p.Zones.length : Int)) = false := by simpa using hlt
      refine ⟨.go (), by simp only [hp, Bool.false_eq_true, if_false], .inl ⟨rfl, fun i x y hx hy => ?_, fun x hx => ?_⟩⟩
      · have := (List.getElem?_eq_some_iff.1 hy).1
        exact hs i x y (by omega) hx hy
      · obtain ⟨i, hi⟩ := List.getElem?_of_mem hx
        have := (List.getElem?_eq_some_iff.1 hi).1
        exact ha i x (by omega) hi
  obtain ⟨b, hb, h⟩ := loop
  rw [hb]
  rcases h with ⟨rfl, hs, ha⟩ | ⟨rfl, h⟩
  · simp only [flb_go, l1In_eq, Option.bind_some]
    by_cases h1 : (1 : Int) ≤ p.Zones.length ∧ (p.Zones.length : Int) ≤ 9
    rotate_left
    · rw [no _ (fun h => h.len) (by omega)]; simp [h1]
    by_cases h3 : 0 ≤ p.Day ∧ p.Day ≤ 10000
    rotate_left
    · rw [no _ (fun h => h.day) h3]; simp [h1, h3]
    by_cases h4 : 0 ≤ p.Week ∧ p.Week ≤ 10000
    rotate_left
    · rw [no _ (fun h => h.week) h4]; simp [h1, h3, h4]
    have hv : VP p := ⟨by omega, hs, ha, h3, h4⟩
    simp [h1, h3, h4, hv]
  · simp only [flb_ret]
    rw [no (Srt p.Zones ∧ ∀ x ∈ p.Zones, 0 ≤ x ∧ x ≤ 10000) (fun hv => ⟨hv.srt, hv.all⟩) h]
/-! Rides -/
def okR (e : Ride) : Prop := (0 ≤ e.Day ∧ e.Day ≤ 60) ∧ (0 ≤ e.Time ∧ e.Time ≤ 1799) ∧ 0 ≤ e.Fare ∧ e.Fare ≤ 10000
def ordR (a b : Ride) : Prop := a.Day < b.Day ∨ a.Day = b.Day ∧ a.Time ≤ b.Time
def VR (l : List Ride) : Prop := l.length ≤ 20 ∧ Chain l okR ordR
open Classical in
theorem validRides_eq (l : List Ride) (hl : l.length ≤ 1000) : i_IsValidRides l = some (decide (VR l)) := by
  unfold i_IsValidRides
  by_cases h20 : (20 : Int) < l.length
  · have : ¬ VR l := fun h => by have := h.1; omega
    simp [h20, this]
  have loop := chain_loop l (by omega) (step := i_IsValidRides_L1 l) okR ordR ?_ ?_
  · obtain ⟨b, hb, h⟩ := loop
    have h20' : decide ((20 : Int) < l.length) = false := by simpa using h20
    simp only [h20', Bool.false_eq_true, if_false, hb]
    rcases h with ⟨rfl, h⟩ | ⟨rfl, h⟩
    · have : VR l := ⟨by omega, h⟩
      simp [this]
    · have : ¬ VR l := fun h' => h h'.2
      simp [this]
  · intro v x h0 hlt hx2
    have hx := idx_of h0 hx2
    have hp : decide (v < (l.length : Int)) = true := by simpa using hlt
    have ew : w64 (v + 1) = v + 1 := w64_id (by omega)
    unfold i_IsValidRides_L1
    simp only [hp, if_true, hx, within_eq, validTime_eq, isPrice_eq, Option.bind_some, compare_eq, or2_eq, ew]
    by_cases hr : okR x
    · have hr' := hr
      obtain ⟨h1, h2, h3⟩ := hr'
      simp only [h1, h2, h3, and_self, decide_true, Bool.not_true, Bool.false_eq_true, if_false, Option.bind_some]
      by_cases hpos : 0 < v
      · have ew2 : w64 (v - 1) = v - 1 := w64_id (by omega)
        obtain ⟨z, hz, hz2, _⟩ := idx_lt (l := l) (i := v - 1) (by omega) (by omega)
        simp only [hpos, decide_true, if_true, ew2, hz, Option.bind_some]
        by_cases ho : ordR z x
        · left
          refine ⟨?_, hr, fun z' _ hz' => by rw [hz2] at hz'; cases hz'; exact ho⟩
          have : ¬ (0 < (if (if z.Day < x.Day then (-1 : Int) else if x.Day < z.Day then 1 else 0) ≠ 0 then (if z.Day < x.Day then (-1 : Int) else if x.Day < z.Day then 1 else 0) else (if z.Time < x.Time then (-1 : Int) else if x.Time < z.Time then 1 else 0))) := by
            unfold ordR at ho
            repeat' split
            all_goals omega
          simp only [this, decide_false, Bool.false_eq_true, if_false]
        · right
          refine ⟨?_, fun h => ho (h.2 z (by first | exact hpos | trivial) hz2)⟩
          have : 0 < (if (if z.Day < x.Day then (-1 : Int) else if x.Day < z.Day then 1 else 0) ≠ 0 then (if z.Day < x.Day then (-1 : Int) else if x.Day < z.Day then 1 else 0) else (if z.Time < x.Time then (-1 : Int) else if x.Time < z.Time then 1 else 0)) := by
            unfold ordR at ho
            repeat' split
            all_goals omega
          simp only [this, decide_true, if_true]
      · left
        refine ⟨by simp [hpos], hr, fun z h => absurd h hpos⟩
    · right
      refine ⟨?_, fun h => hr h.1⟩
      unfold okR at hr
      by_cases h1 : 0 ≤ x.Day ∧ x.Day ≤ 60
      · by_cases h2 : 0 ≤ x.Time ∧ x.Time ≤ 1799
        · have h3 : ¬ (0 ≤ x.Fare ∧ x.Fare ≤ 10000) := fun h => hr ⟨h1, h2, h⟩
          simp [h1, h2, h3]
        · simp [h1, h2]
      · simp [h1]
  · unfold i_IsValidRides_L1; simp
open Classical in
theorem l21Rides_eq (l : List Ride) (hl : l.length ≤ 1000) : s_l21Rides l = some (decide (VR l)) := by
  unfold s_l21Rides
  have loop := chain_loop l (by omega) (step := s_l21Rides_L1 l) okR ordR ?_ ?_
  · obtain ⟨b, hb, h⟩ := loop
    rw [hb]
    rcases h with ⟨rfl, h⟩ | ⟨rfl, h⟩
    · by_cases h20 : (l.length : Int) ≤ 20
      · have : VR l := ⟨by omega, h⟩
        simp [this]; omega
      · have : ¬ VR l := fun h' => by have := h'.1; omega
        simp [this]; omega
    · have : ¬ VR l := fun h' => h h'.2
      simp [this]
  · intro v x h0 hlt hx2
    have hx := idx_of h0 hx2
    have hp : decide (v < (l.length : Int)) = true := by simpa using hlt
    have ew : w64 (v + 1) = v + 1 := w64_id (by omega)
    unfold s_l21Rides_L1
    simp only [hp, if_true, hx, l1In_eq, l4Time_eq, Option.bind_some, ew]
    by_cases hr : okR x
    · have hr' := hr
      obtain ⟨h1, h2, h3⟩ := hr'
      simp only [h1, h2, h3, and_self, decide_true, Bool.not_true, Bool.false_eq_true, if_false, Option.bind_some]
      by_cases hpos : 0 < v
      · have ew2 : w64 (v - 1) = v - 1 := w64_id (by omega)
        obtain ⟨z, hz, hz2, _⟩ := idx_lt (l := l) (i := v - 1) (by omega) (by omega)
        simp only [hpos, decide_true, if_true, ew2, hz, Option.bind_some]
        by_cases ho : ordR z x
        · left
          refine ⟨?_, hr, fun z' _ hz' => by rw [hz2] at hz'; cases hz'; exact ho⟩
          unfold ordR at ho
          by_cases g1 : x.Day < z.Day
          · omega
          · by_cases g2 : z.Day = x.Day
            · have g3 : ¬ x.Time < z.Time := by omega
              simp [g1, g2, g3]
            · simp [g1, g2]
        · right
          refine ⟨?_, fun h => ho (h.2 z (by first | exact hpos | trivial) hz2)⟩
          unfold ordR at ho
          by_cases g1 : x.Day < z.Day
          · simp [g1]
          · have g2 : z.Day = x.Day := by omega
            have g3 : x.Time < z.Time := by omega
            simp [g1, g2, g3]
      · left
        refine ⟨by simp [hpos], hr, fun z h => absurd h hpos⟩
    · right
      refine ⟨?_, fun h => hr h.1⟩
      unfold okR at hr
      by_cases h1 : 0 ≤ x.Day ∧ x.Day ≤ 60
      · by_cases h2 : 0 ≤ x.Time ∧ x.Time ≤ 1799
        · have h3 : ¬ (0 ≤ x.Fare ∧ x.Fare ≤ 10000) := fun h => hr ⟨h1, h2, h⟩
          simp [h1, h2, h3]
        · simp [h1, h2]
      · simp [h1]
  · unfold s_l21Rides_L1; simp
/-! Days and what they cost (the last day first) -/
def addD (g : List (Int × Int)) (e : Ride) : List (Int × Int) :=
  match g with
  | [] => [(e.Day, e.Fare)]
  | (d, c) :: t => if d = e.Day then (d, c + e.Fare) :: t else (e.Day, e.Fare) :: (d, c) :: t
def grp (l : List Ride) : List (Int × Int) := l.foldl addD []
def days (l : List Ride) : List Int := ((grp l).map (·.1)).reverse
def costs (l : List Ride) : List Int := ((grp l).map (·.2)).reverse
theorem grp_snoc (l : List Ride) (e : Ride) : grp (l ++ [e]) = addD (grp l) e := by unfold grp; rw [List.foldl_append]; rfl
structure GB (n : Nat) (g : List (Int × Int)) : Prop where
  len : g.length ≤ n
  bd : ∀ x ∈ g, 0 ≤ x.2 ∧ x.2 ≤ 10000 * n
theorem gb_add {n : Nat} {g : List (Int × Int)} {e : Ride} (h : GB n g) (he : 0 ≤ e.Fare ∧ e.Fare ≤ 10000) : GB (n + 1) (addD g e) := by
  cases g with
  | nil =>
    refine ⟨by simp [addD], fun x hx => ?_⟩
    have : x = (e.Day, e.Fare) := by simpa [addD] using hx
    subst this
    show 0 ≤ e.Fare ∧ e.Fare ≤ 10000 * ((n + 1 : Nat) : Int)
    omega
  | cons p t =>
    obtain ⟨d, c⟩ := p
    have h0 := h.bd (d, c) (List.mem_cons_self ..)
    have hl := h.len
    simp only [List.length_cons] at hl
    simp only at h0
    show GB (n + 1) (if d = e.Day then (d, c + e.Fare) :: t else (e.Day, e.Fare) :: (d, c) :: t)
    split
    · refine ⟨by simp; omega, fun x hx => ?_⟩
      rcases List.mem_cons.1 hx with rfl | hx
      · show 0 ≤ c + e.Fare ∧ c + e.Fare ≤ 10000 * ((n + 1 : Nat) : Int); omega
      · have := h.bd x (List.mem_cons_of_mem _ hx); omega
    · refine ⟨by simp; omega, fun x hx => ?_⟩
      rcases List.mem_cons.1 hx with rfl | hx
      · show 0 ≤ e.Fare ∧ e.Fare ≤ 10000 * ((n + 1 : Nat) : Int); omega
      · have := h.bd x hx; omega
theorem gb_grp {l : List Ride} (h : ∀ e ∈ l, okR e) : ∀ n, GB n (grp (l.take n)) := by
  intro n
  induction n with
  | zero => exact ⟨by simp [grp], fun x hx => by simp [grp] at hx⟩
  | succ n ih =>
    by_cases hlt : n < l.length
    · obtain ⟨e, he⟩ := get_ex hlt
      rw [take_succ he, grp_snoc]
      exact gb_add ih (h e (List.mem_of_getElem? he)).2.2
    · rw [List.take_of_length_le (by omega)]
      rw [List.take_of_length_le (by omega)] at ih
      exact ⟨by have := ih.len; omega, fun x hx => by have := ih.bd x hx; omega⟩
theorem rev_last {α : Type} (x : α) (t : List α) : (x :: t).reverse[t.length]? = some x := by
  rw [List.reverse_cons, List.getElem?_append_right (by simp)]; simp
theorem rev_set {α : Type} (x y : α) (t : List α) : (x :: t).reverse.set t.length y = (y :: t).reverse := by
  rw [List.reverse_cons, List.reverse_cons, List.set_append_right _ _ (by simp)]; simp

theorem rideDays_L1 (l : List Ride) (hl : l.length ≤ 1000) (hok : ∀ e ∈ l, okR e) : iter (i_rideDays_L1 l) (0, [], []) = some (days l, costs l) := by
  have h := iter_rule (step := i_rideDays_L1 l) (fun m a => ∃ i : Nat, a.1 = (i : Int) ∧ m + i = l.length ∧ a.2.1 = days (l.take i) ∧ a.2.2 = costs (l.take i)) (fun b => b = (days l, costs l)) ?_ (k := l.length) (a := (0, [], [])) ⟨0, rfl, by omega, by simp [days, grp], by simp [costs, grp]⟩
  · obtain ⟨b, hb, rfl⟩ := h; exact hb
  rintro m ⟨v, v1, r⟩ ⟨i, hv, hm, h1, h2⟩
  simp only at hv h1 h2
  subst hv h1 h2
  by_cases hlt : i < l.length
  · left
    obtain ⟨e, he⟩ := get_ex hlt
    have hp : decide ((i : Int) < (l.length : Int)) = true := by simpa using hlt
    have hgb := gb_grp hok i
    have hfe := (hok e (List.mem_of_getElem? he)).2.2
    have hlen1 : (days (l.take i)).length = (grp (l.take i)).length := by simp [days]
    have hlen2 : (costs (l.take i)).length = (grp (l.take i)).length := by simp [costs]
    have hgl := hgb.len
    have ew : w64 (((days (l.take i)).length : Int) - 1) = ((days (l.take i)).length : Int) - 1 := w64_id (by omega)
    have fin : ∀ d c, days (l.take (i + 1)) = d → costs (l.take (i + 1)) = c → ∃ a' k', some (Lp.nx (w64 ((i : Int) + 1), d, c)) = some (Lp.nx (B := List Int × List Int) a') ∧ k' < m ∧ ∃ j : Nat, a'.1 = (j : Int) ∧ k' + j = l.length ∧ a'.2.1 = days (l.take j) ∧ a'.2.2 = costs (l.take j) := by
      intro d c hd hc
      exact ⟨_, m - 1, rfl, by omega, i + 1, w64_succ (by omega), by omega, hd.symm, hc.symm⟩
    unfold i_rideDays_L1
    simp only [hp, if_true, idx_nat, he, Option.bind_some, ew]
    have hch1 : chk ((days (l.take i)).length + ([e.Day] : List Int).length ≤ 4294967296) = some () := chk_of (by simp only [List.length_cons, List.length_nil]; omega)
    have hch2 : chk ((costs (l.take i)).length + ([e.Fare] : List Int).length ≤ 4294967296) = some () := chk_of (by simp only [List.length_cons, List.length_nil]; omega)
    have tk := take_succ he
    cases hg : grp (l.take i) with
    | nil =>
      have d0 : days (l.take i) = [] := by simp [days, hg]
      have c0 : costs (l.take i) = [] := by simp [costs, hg]
      have hneg : decide ((0 : Int) ≤ ((days (l.take i)).length : Int) - 1) = false := by rw [d0]; simp
      simp only [hneg, Bool.false_eq_true, if_false, Option.bind_some, hch1, hch2]
      refine fin _ _ ?_ ?_
      · rw [tk, d0]; simp [days, grp_snoc, hg, addD]
      · rw [tk, c0]; simp [costs, grp_snoc, hg, addD]
    | cons p t =>
      obtain ⟨d, c⟩ := p
      have hd : days (l.take i) = (d :: t.map (·.1)).reverse := by simp [days, hg]
      have hc : costs (l.take i) = (c :: t.map (·.2)).reverse := by simp [costs, hg]
      have hdl : ((days (l.take i)).length : Int) - 1 = ((t.map (fun x : Int × Int => x.1)).length : Int) := by rw [hd]; simp
      have hdl2 : ((days (l.take i)).length : Int) - 1 = ((t.map (fun x : Int × Int => x.2)).length : Int) := by rw [hd]; simp
      have hpos : decide ((0 : Int) ≤ ((days (l.take i)).length : Int) - 1) = true := by rw [hdl]; simp
      have i1 : idx (days (l.take i)) (((days (l.take i)).length : Int) - 1) = some d := by rw [hdl, idx_nat, hd]; exact rev_last _ _
      have i2 : idx (costs (l.take i)) (((days (l.take i)).length : Int) - 1) = some c := by rw [hdl2, idx_nat, hc]; exact rev_last _ _
      have hcb := hgb.bd (d, c) (by rw [hg]; exact List.mem_cons_self ..)
      simp only at hcb
      simp only [hpos, if_true, i1, i2, Option.bind_some]
      by_cases heq : d = e.Day
      · have ew2 : w64 (c + e.Fare) = c + e.Fare := w64_id (by omega)
        simp only [heq, beq_self_eq_true, if_true, Option.bind_some, ew2]
        refine fin _ _ ?_ ?_
        · rw [tk, hd]; simp [days, grp_snoc, hg, addD, heq]
        · have e4 : (((days (l.take i)).length : Int) - 1).toNat = (t.map (fun x : Int × Int => x.2)).length := by omega
          rw [tk, e4, hc, rev_set]; simp [costs, grp_snoc, hg, addD, heq]
      · have hne : (d == e.Day) = false := by simpa using heq
        simp only [hne, Bool.false_eq_true, if_false, Option.bind_some, hch1, hch2]
        refine fin _ _ ?_ ?_
        · rw [tk, hd]; simp [days, grp_snoc, hg, addD, heq]
        · rw [tk, hc]; simp [costs, grp_snoc, hg, addD, heq]
  · right
    have e : i = l.length := by omega
    subst e
    refine ⟨(days l, costs l), ?_, rfl⟩
    unfold i_rideDays_L1
    simp
theorem l21Days_L1 (l : List Ride) (hl : l.length ≤ 1000) (hok : ∀ e ∈ l, okR e) : iter (s_l21Days_L1 l) (0, [], []) = some (days l, costs l) := by
  have h := iter_rule (step := s_l21Days_L1 l) (fun m a => ∃ i : Nat, a.1 = (i : Int) ∧ m + i = l.length ∧ a.2.1 = days (l.take i) ∧ a.2.2 = costs (l.take i)) (fun b => b = (days l, costs l)) ?_ (k := l.length) (a := (0, [], [])) ⟨0, rfl, by omega, by simp [days, grp], by simp [costs, grp]⟩
  · obtain ⟨b, hb, rfl⟩ := h; exact hb
  rintro m ⟨v, v1, r⟩ ⟨i, hv, hm, h1, h2⟩
  simp only at hv h1 h2
  subst hv h1 h2
  by_cases hlt : i < l.length
  · left
    obtain ⟨e, he⟩ := get_ex hlt
    have hp : decide ((i : Int) < (l.length : Int)) = true := by simpa using hlt
    have hgb := gb_grp hok i
    have hfe := (hok e (List.mem_of_getElem? he)).2.2
    have hlen1 : (days (l.take i)).length = (grp (l.take i)).length := by simp [days]
    have hlen2 : (costs (l.take i)).length = (grp (l.take i)).length := by simp [costs]
    have hgl := hgb.len
    have ew : w64 (((days (l.take i)).length : Int) - 1) = ((days (l.take i)).length : Int) - 1 := w64_id (by omega)
    have fin : ∀ d c, days (l.take (i + 1)) = d → costs (l.take (i + 1)) = c → ∃ a' k', some (Lp.nx (w64 ((i : Int) + 1), d, c)) = some (Lp.nx (B := List Int × List Int) a') ∧ k' < m ∧ ∃ j : Nat, a'.1 = (j : Int) ∧ k' + j = l.length ∧ a'.2.1 = days (l.take j) ∧ a'.2.2 = costs (l.take j) := by
      intro d c hd hc
      exact ⟨_, m - 1, rfl, by omega, i + 1, w64_succ (by omega), by omega, hd.symm, hc.symm⟩
    unfold s_l21Days_L1
    simp only [hp, if_true, idx_nat, he, Option.bind_some, ew]
    have hch1 : chk ((days (l.take i)).length + ([e.Day] : List Int).length ≤ 4294967296) = some () := chk_of (by simp only [List.length_cons, List.length_nil]; omega)
    have hch2 : chk ((costs (l.take i)).length + ([0] : List Int).length ≤ 4294967296) = some () := chk_of (by simp only [List.length_cons, List.length_nil]; omega)
    have ew3 : w64 (((days (l.take i)).length : Int) + 1) = ((days (l.take i)).length : Int) + 1 := w64_id (by omega)
    have ew4 : w64 (((days (l.take i)).length : Int) + 1 - 1) = ((costs (l.take i)).length : Int) := by rw [w64_id (by omega)]; omega
    have tk := take_succ he
    -- a new day
    have new : days (l.take (i + 1)) = days (l.take i) ++ [e.Day] → costs (l.take (i + 1)) = costs (l.take i) ++ [e.Fare] →
        ∃ a' k', ((idx (costs (l.take i) ++ [0]) ((costs (l.take i)).length : Int)).bind fun e8 => (idx (costs (l.take i) ++ [0]) ((costs (l.take i)).length : Int)).bind fun e10 => some (Lp.nx (w64 ((i : Int) + 1), days (l.take i) ++ [e.Day], (costs (l.take i) ++ [0]).set ((costs (l.take i)).length : Int).toNat (w64 (e8 + e.Fare))))) = some (Lp.nx (B := List Int × List Int) a') ∧ k' < m ∧ ∃ j : Nat, a'.1 = (j : Int) ∧ k' + j = l.length ∧ a'.2.1 = days (l.take j) ∧ a'.2.2 = costs (l.take j) := by
      intro g1 g2
      have : idx (costs (l.take i) ++ [0]) ((costs (l.take i)).length : Int) = some 0 := by rw [idx_nat]; simp
      rw [this]
      simp only [Option.bind_some, Int.toNat_natCast]
      refine fin _ _ g1 ?_
      rw [g2, List.set_append_right _ _ (Nat.le_refl _), w64_id (by omega)]; simp
    cases hg : grp (l.take i) with
    | nil =>
      have d0 : days (l.take i) = [] := by simp [days, hg]
      have c0 : costs (l.take i) = [] := by simp [costs, hg]
      have hz : (((days (l.take i)).length : Int) == 0) = true := by rw [d0]; simp
      simp only [hz, if_true, Option.bind_some, hch1, hch2, ew3, ew4]
      refine new ?_ ?_
      · rw [tk, d0]; simp [days, grp_snoc, hg, addD]
      · rw [tk, c0]; simp [costs, grp_snoc, hg, addD]
    | cons p t =>
      obtain ⟨d, c⟩ := p
      have hd : days (l.take i) = (d :: t.map (·.1)).reverse := by simp [days, hg]
      have hc : costs (l.take i) = (c :: t.map (·.2)).reverse := by simp [costs, hg]
      have hdl : ((days (l.take i)).length : Int) - 1 = ((t.map (fun x : Int × Int => x.1)).length : Int) := by rw [hd]; simp
      have hdl2 : ((days (l.take i)).length : Int) - 1 = ((t.map (fun x : Int × Int => x.2)).length : Int) := by rw [hd]; simp
      have hpos : (((days (l.take i)).length : Int) == 0) = false := by rw [hd]; simp; omega
      have i1 : idx (days (l.take i)) (((days (l.take i)).length : Int) - 1) = some d := by rw [hdl, idx_nat, hd]; exact rev_last _ _
      have i2 : idx (costs (l.take i)) (((days (l.take i)).length : Int) - 1) = some c := by rw [hdl2, idx_nat, hc]; exact rev_last _ _
      have hcb := hgb.bd (d, c) (by rw [hg]; exact List.mem_cons_self ..)
      simp only at hcb
      simp only [hpos, Bool.false_eq_true, if_false, i1, Option.bind_some]
      by_cases heq : d = e.Day
      · have ew2 : w64 (c + e.Fare) = c + e.Fare := w64_id (by omega)
        have hne : (d != e.Day) = false := by simpa using heq
        simp only [hne, Bool.false_eq_true, if_false, Option.bind_some, ew, i2, ew2]
        refine fin _ _ ?_ ?_
        · rw [tk, hd]; simp [days, grp_snoc, hg, addD, heq]
        · have e4 : (((days (l.take i)).length : Int) - 1).toNat = (t.map (fun x : Int × Int => x.2)).length := by omega
          rw [tk, e4, hc, rev_set]; simp [costs, grp_snoc, hg, addD, heq]
      · have hne : (d != e.Day) = true := by simpa using heq
        simp only [hne, if_true, Option.bind_some, hch1, hch2, ew3, ew4]
        refine new ?_ ?_
        · rw [tk, hd]; simp [days, grp_snoc, hg, addD, heq]
        · rw [tk, hc]; simp [costs, grp_snoc, hg, addD, heq]
  · right
    have e : i = l.length := by omega
    subst e
    refine ⟨(days l, costs l), ?_, rfl⟩
    unfold s_l21Days_L1
    simp
def caps (p : Prices) (l : List Ride) : List Int := (costs l).map (fun c => min c p.Day)
theorem rideDays_eq (p : Prices) (l : List Ride) (hl : l.length ≤ 1000) (hok : ∀ e ∈ l, okR e) : i_rideDays p l = some (days l, caps p l) := by
  unfold i_rideDays
  rw [rideDays_L1 l hl hok]
  have hlen : (costs l).length ≤ 1000 := by
    have := (gb_grp hok l.length).len
    rw [List.take_length] at this
    simp [costs]; omega
  simp only [Option.bind_some]
  rw [map_loop (fun c => min c p.Day) (costs l) (step := i_rideDays_L2 p (costs l)) ?_ ?_]
  · rfl
  · intro i a x ha hx hlx
    have hi := (List.getElem?_eq_some_iff.1 hx).1
    have hp : decide ((i : Int) < ((costs l).length : Int)) = true := by simp; omega
    unfold i_rideDays_L2
    simp only [hp, if_true, idx_nat, hx, Option.bind_some, w64_succ (show i < 9223372036854775807 by omega), Int.toNat_natCast]
    have : (if p.Day < x then p.Day else x) = min x p.Day := by split <;> omega
    rw [this]
  · intro a ha
    unfold i_rideDays_L2
    simp
theorem l21Days_eq (p : Prices) (l : List Ride) (hl : l.length ≤ 1000) (hok : ∀ e ∈ l, okR e) : s_l21Days p l = some (days l, caps p l) := by
  unfold s_l21Days
  rw [l21Days_L1 l hl hok]
  have hlen : (costs l).length ≤ 1000 := by
    have := (gb_grp hok l.length).len
    rw [List.take_length] at this
    simp [costs]; omega
  simp only [Option.bind_some]
  rw [map_loop (fun c => min c p.Day) (costs l) (step := s_l21Days_L2 p) ?_ ?_]
  · rfl
  · intro i a x ha hx hlx
    have hi := (List.getElem?_eq_some_iff.1 hx).1
    have hp : decide ((i : Int) < (a.length : Int)) = true := by simp; omega
    unfold s_l21Days_L2
    simp only [hp, if_true, idx_nat, hx, least_eq, Option.bind_some, w64_succ (show i < 9223372036854775807 by omega), Int.toNat_natCast]
  · intro a ha
    unfold s_l21Days_L2
    simp [ha]
theorem caps_len (p : Prices) (l : List Ride) (hok : ∀ e ∈ l, okR e) : (caps p l).length = (days l).length ∧ (days l).length ≤ l.length := by
  have := (gb_grp hok l.length).len
  rw [List.take_length] at this
  simp [caps, costs, days]; omega
theorem caps_bd {p : Prices} {l : List Ride} (hv : VP p) (hr : VR l) : ∀ x ∈ caps p l, 0 ≤ x ∧ x ≤ 10000 := by
  intro x hx
  obtain ⟨c, hc, rfl⟩ := List.mem_map.1 hx
  have hb := gb_grp hr.2.1 l.length
  rw [List.take_length] at hb
  have : ∃ q ∈ grp l, q.2 = c := by simpa [costs] using hc
  obtain ⟨q, hq, rfl⟩ := this
  have := hb.bd q hq
  have := hv.day
  omega
theorem costs_bd {l : List Ride} (hr : VR l) : ∀ x ∈ costs l, 0 ≤ x ∧ x ≤ 200000 := by
  intro c hc
  have hb := gb_grp hr.2.1 l.length
  rw [List.take_length] at hb
  have : ∃ q ∈ grp l, q.2 = c := by simpa [costs] using hc
  obtain ⟨q, hq, rfl⟩ := this
  have := hb.bd q hq
  have := hr.1
  omega
theorem sum_map_min (l : List Int) (d : Int) : (l.map (fun c => min c d)).sum ≤ l.sum := by
  induction l with
  | nil => simp
  | cons a l ih => simp only [List.map_cons, List.sum_cons]; omega
theorem sum_rev (l : List Int) : l.reverse.sum = l.sum := by
  induction l with
  | nil => rfl
  | cons a l ih => simp [List.sum_append, ih]; omega
theorem sum_addD (g : List (Int × Int)) (e : Ride) : ((addD g e).map (·.2)).sum = (g.map (·.2)).sum + e.Fare := by
  unfold addD
  cases g with
  | nil => simp
  | cons p t =>
    obtain ⟨d, c⟩ := p
    simp only []
    split <;> (simp only [List.map_cons, List.sum_cons]; omega)
theorem sum_costs (l : List Ride) : (costs l).sum = (l.map (·.Fare)).sum := by
  have : ∀ (l : List Ride) (g : List (Int × Int)), ((l.foldl addD g).map (·.2)).sum = (g.map (·.2)).sum + (l.map (·.Fare)).sum := by
    intro l
    induction l with
    | nil => intro g; simp
    | cons e l ih => intro g; rw [List.foldl_cons, ih, sum_addD]; simp; omega
  unfold costs grp
  rw [sum_rev, this]; simp
theorem total_eq (l : List Int) (hl : l.length ≤ 1000) (hb : ∀ x ∈ l, 0 ≤ x ∧ x ≤ 1000000) : i_total l = some l.sum := by
  unfold i_total
  rw [sum_loop (fun x => x) l (by omega) hb (step := i_total_L1 l) ?_ ?_]
  · simp
  · intro i s x hx
    have hi := (List.getElem?_eq_some_iff.1 hx).1
    have hp : decide ((i : Int) < (l.length : Int)) = true := by simp; omega
    unfold i_total_L1
    simp only [hp, if_true, idx_nat, hx, Option.bind_some]
  · intro s; unfold i_total_L1; simp
theorem rSum_eq (l : List Int) (hl : l.length ≤ 1000) (hb : ∀ x ∈ l, 0 ≤ x ∧ x ≤ 1000000) : v_rSum l = some l.sum := by
  unfold v_rSum
  rw [sum_loop (fun x => x) l (by omega) hb (step := v_rSum_L1 l) ?_ ?_]
  · simp
  · intro i s x hx
    have hi := (List.getElem?_eq_some_iff.1 hx).1
    have hp : decide ((i : Int) < (l.length : Int)) = true := by simp; omega
    unfold v_rSum_L1
    simp only [hp, if_true, idx_nat, hx, Option.bind_some]
  · intro s; unfold v_rSum_L1; simp
theorem sCaps_L1 (r2 : List Int × List Int) (hl : r2.2.length ≤ 1000) (hb : ∀ x ∈ r2.2, 0 ≤ x ∧ x ≤ 1000000) : iter (s_DailyCaps_L1 r2) (0, 0) = some r2.2.sum := by
  rw [sum_loop (fun x => x) r2.2 (by omega) hb (step := s_DailyCaps_L1 r2) ?_ ?_]
  · simp
  · intro i s x hx
    have hi := (List.getElem?_eq_some_iff.1 hx).1
    have hp : decide ((i : Int) < (r2.2.length : Int)) = true := by simp; omega
    unfold s_DailyCaps_L1
    simp only [hp, if_true, idx_nat, hx, Option.bind_some]
  · intro s; unfold s_DailyCaps_L1; simp
theorem fares_eq (r1 : Prices × List Ride) (hr : VR r1.2) : iter (v_FnTickets_L1 r1) (0, 0) = some (r1.2.map (·.Fare)).sum := by
  have := hr.1
  rw [sum_loop (fun e => e.Fare) r1.2 (by omega) ?_ (step := v_FnTickets_L1 r1) ?_ ?_]
  · intro x hx; have := (hr.2.1 x hx).2.2; omega
  · intro i s x hx
    have hi := (List.getElem?_eq_some_iff.1 hx).1
    have hp : decide ((i : Int) < (r1.2.length : Int)) = true := by simp; omega
    unfold v_FnTickets_L1
    simp only [hp, if_true, idx_nat, hx, Option.bind_some]
  · intro s; unfold v_FnTickets_L1; simp
open Classical in
noncomputable def capsR (p : Prices) (l : List Ride) : List Int × Int × Bool := if VP p ∧ VR l then (caps p l, (caps p l).sum, true) else ([], 0, false)
open Classical in
theorem iCaps_eq (p : Prices) (l : List Ride) (hz : p.Zones.length ≤ 1000) (hl : l.length ≤ 1000) : i_DailyCaps p l = some (capsR p l) := by
  unfold i_DailyCaps capsR
  simp only [arePrices_eq p hz, validRides_eq l hl, Option.bind_some]
  by_cases h1 : VP p
  · by_cases h2 : VR l
    · have hb := caps_bd h1 h2
      have hlen := caps_len p l h2.2.1
      simp only [h1, h2, decide_true, Bool.not_true, Bool.false_eq_true, if_false, Option.bind_some, rideDays_eq p l hl h2.2.1, and_self, if_true]
      rw [total_eq _ (by omega) (fun x hx => by have := hb x hx; omega)]
      rfl
    · simp [h1, h2]
  · simp [h1]
open Classical in
theorem sCaps_eq (p : Prices) (l : List Ride) (hz : p.Zones.length ≤ 1000) (hl : l.length ≤ 1000) : s_DailyCaps p l = some (capsR p l) := by
  unfold s_DailyCaps capsR
  simp only [l21Prices_eq p hz, l21Rides_eq l hl, Option.bind_some]
  by_cases h1 : VP p
  · by_cases h2 : VR l
    · have hb := caps_bd h1 h2
      have hlen := caps_len p l h2.2.1
      simp only [h1, h2, decide_true, Bool.not_true, Bool.false_eq_true, if_false, Option.bind_some, l21Days_eq p l hl h2.2.1, and_self, if_true]
      rw [sCaps_L1 (days l, caps p l) (by show (caps p l).length ≤ 1000; omega) (fun x hx => by have := hb x hx; omega)]
      rfl
    · simp [h1, h2]
  · simp [h1]
theorem rInts_refl (a : List Int) (hl : a.length ≤ 1000000) : v_rInts a a = some true := by
  unfold v_rInts
  have loop := chain_loop a (by omega) (step := v_rInts_L1 a a) (fun _ => True) (fun _ _ => True) ?_ ?_
  · obtain ⟨b, hb, h⟩ := loop
    simp only [bne_self_eq_false, Bool.false_eq_true, if_false, hb]
    rcases h with ⟨rfl, h⟩ | ⟨rfl, h⟩
    · rfl
    · exact absurd ⟨fun _ _ => trivial, fun _ _ _ _ _ => trivial⟩ h
  · intro v x h0 hlt hx2
    have hx := idx_of h0 hx2
    have hp : decide (v < (a.length : Int)) = true := by simpa using hlt
    left
    refine ⟨?_, trivial, fun _ _ _ => trivial⟩
    unfold v_rInts_L1
    simp only [hp, if_true, hx, Option.bind_some, bne_self_eq_false, Bool.false_eq_true, if_false]
    rw [w64_id (by omega)]
  · unfold v_rInts_L1; simp
/-! The cheapest tickets: over what is left of the days (with what each costs) -/
abbrev DC := List (Int × Int)
def nxt (d : Int) (t : DC) : DC := t.dropWhile (fun q => decide (q.1 < d + 7))
theorem nxt_len (d : Int) (t : DC) : (nxt d t).length ≤ t.length := (List.dropWhile_sublist _).length_le
def S (W : Int) : DC → Int
  | [] => 0
  | (d, c) :: t => min (c + S W t) (W + S W (nxt d t))
  termination_by l => l.length
  decreasing_by all_goals (simp only [List.length_cons]; have := nxt_len d t; omega)
open Classical in
noncomputable def K (W : Int) : DC → List Int
  | [] => []
  | (d, c) :: t => if W + S W (nxt d t) < c + S W t ∨ (W + S W (nxt d t) = c + S W t ∧ K W t ≠ []) then d :: K W (nxt d t) else K W t
  termination_by l => l.length
  decreasing_by all_goals (simp only [List.length_cons]; have := nxt_len d t; omega)
def plain (l : DC) : Int := (l.map (·.2)).sum
theorem S_nil {W : Int} : S W [] = 0 := by rw [S]
theorem S_cons {W d c : Int} {t : DC} : S W ((d, c) :: t) = min (c + S W t) (W + S W (nxt d t)) := by rw [S]
theorem K_nil {W : Int} : K W [] = [] := by rw [K]
open Classical in
theorem K_cons {W d c : Int} {t : DC} : K W ((d, c) :: t) = if W + S W (nxt d t) < c + S W t ∨ (W + S W (nxt d t) = c + S W t ∧ K W t ≠ []) then d :: K W (nxt d t) else K W t := by rw [K]
theorem plain_cons {d c : Int} {t : DC} : plain ((d, c) :: t) = c + plain t := by simp [plain]
theorem S_plain (W : Int) : ∀ l : DC, S W l ≤ plain l
  | [] => by rw [S_nil]; simp [plain]
  | (d, c) :: t => by rw [S_cons, plain_cons]; have := S_plain W t; omega
theorem K_empty (W : Int) : ∀ l : DC, K W l = [] ↔ plain l = S W l
  | [] => by rw [S_nil, K_nil]; simp [plain]
  | (d, c) :: t => by
    have ih := K_empty W t
    have hp := S_plain W t
    rw [K_cons, S_cons, plain_cons]
    split
    · rename_i h
      constructor
      · intro h'; cases h'
      · intro h'
        rcases h with h | ⟨h1, h2⟩
        · omega
        · have : plain t ≠ S W t := fun e => h2 (ih.2 e)
          omega
    · rename_i h
      rw [ih]
      have h1 : ¬ (W + S W (nxt d t) < c + S W t) := fun e => h (.inl e)
      omega
/-- The reference's way from the front. -/
theorem K_greedy {W d c : Int} {t : DC} : K W ((d, c) :: t) = if plain ((d, c) :: t) = S W ((d, c) :: t) then [] else if W + S W (nxt d t) = S W ((d, c) :: t) then d :: K W (nxt d t) else K W t := by
  have ih := K_empty W t
  have ih0 := K_empty W ((d, c) :: t)
  have hp := S_plain W t
  by_cases h : plain ((d, c) :: t) = S W ((d, c) :: t)
  · rw [if_pos h]; exact ih0.2 h
  · rw [if_neg h]
    rw [plain_cons] at h
    rw [S_cons] at h ⊢
    by_cases h2 : W + S W (nxt d t) = min (c + S W t) (W + S W (nxt d t))
    · rw [if_pos h2, K_cons, if_pos]
      by_cases h3 : W + S W (nxt d t) < c + S W t
      · exact .inl h3
      · right
        refine ⟨by omega, fun e => ?_⟩
        have := ih.1 e
        omega
    · rw [if_neg h2, K_cons, if_neg]
      rintro (h3 | ⟨h3, _⟩) <;> omega
/-- Days rise. -/
def Up (l : DC) : Prop := List.Pairwise (fun a b : Int × Int => a.1 < b.1) l
theorem Up.tail {p : Int × Int} {t : DC} (h : Up (p :: t)) : Up t := (List.pairwise_cons.1 h).2
theorem Up.nxt {d : Int} {t : DC} (h : Up t) : Up (nxt d t) := List.Pairwise.sublist (List.dropWhile_sublist _) h
theorem nxt_ge {d : Int} : ∀ {t : DC}, Up t → ∀ q ∈ nxt d t, d + 7 ≤ q.1
  | [], _, q, hq => by simp [nxt] at hq
  | p :: t, h, q, hq => by
    unfold nxt at hq
    rw [List.dropWhile_cons] at hq
    split at hq
    · exact nxt_ge h.tail q hq
    · rename_i hn
      have hn' : ¬ p.1 < d + 7 := by simpa using hn
      rcases List.mem_cons.1 hq with rfl | hq
      · omega
      · have := (List.pairwise_cons.1 h).1 q hq
        omega
theorem K_mem (W : Int) : ∀ (l : DC) (x : Int), x ∈ K W l → ∃ q ∈ l, q.1 = x
  | [], x, h => by rw [K_nil] at h; cases h
  | (d, c) :: t, x, h => by
    rw [K_cons] at h
    split at h
    · rcases List.mem_cons.1 h with rfl | h
      · exact ⟨_, List.mem_cons_self .., rfl⟩
      · have hlen := nxt_len d t
        obtain ⟨q, hq, e⟩ := K_mem W (nxt d t) x h
        exact ⟨q, List.mem_cons_of_mem _ ((List.dropWhile_sublist _).mem hq), e⟩
    · obtain ⟨q, hq, e⟩ := K_mem W t x h
      exact ⟨q, List.mem_cons_of_mem _ hq, e⟩
  termination_by l => l.length
  decreasing_by all_goals (simp only [List.length_cons]; have := nxt_len d t; omega)
theorem K_space (W : Int) : ∀ (l : DC), Up l → ∀ (i : Nat) (a b : Int), (K W l)[i]? = some a → (K W l)[i + 1]? = some b → a + 7 ≤ b
  | [], _, i, a, b, h, _ => by rw [K_nil] at h; simp at h
  | (d, c) :: t, hu, i, a, b, ha, hb => by
    have hlen := nxt_len d t
    rw [K_cons] at ha hb
    split at ha
    · rename_i hc
      rw [if_pos hc] at hb
      cases i with
      | zero =>
        simp only [List.getElem?_cons_zero, Option.some.injEq] at ha
        subst ha
        simp only [Nat.zero_add, List.getElem?_cons_succ] at hb
        obtain ⟨q, hq, e⟩ := K_mem W _ b (List.mem_of_getElem? hb)
        have := nxt_ge hu.tail q hq
        omega
      | succ i =>
        simp only [List.getElem?_cons_succ] at ha hb
        exact K_space W (nxt d t) hu.tail.nxt i a b ha hb
    · rename_i hc
      rw [if_neg hc] at hb
      exact K_space W t hu.tail i a b ha hb
  termination_by l => l.length
  decreasing_by all_goals (simp only [List.length_cons]; have := nxt_len d t; omega)
theorem S_nonneg {W : Int} (hW : 0 ≤ W) : ∀ l : DC, (∀ q ∈ l, 0 ≤ q.2) → 0 ≤ S W l
  | [], _ => by rw [S_nil]; omega
  | (d, c) :: t, h => by
    have hlen := nxt_len d t
    have h0 := h (d, c) (List.mem_cons_self ..)
    have h1 := S_nonneg hW t fun q hq => h q (List.mem_cons_of_mem _ hq)
    have h2 := S_nonneg hW (nxt d t) fun q hq => h q (List.mem_cons_of_mem _ ((List.dropWhile_sublist _).mem hq))
    rw [S_cons]
    simp only at h0
    omega
  termination_by l => l.length
  decreasing_by all_goals (simp only [List.length_cons]; have := nxt_len d t; omega)
theorem K_cost {W : Int} (hW : 0 ≤ W) : ∀ l : DC, (∀ q ∈ l, 0 ≤ q.2) → ((K W l).length : Int) * W ≤ S W l
  | [], _ => by rw [S_nil, K_nil]; simp
  | (d, c) :: t, h => by
    have hlen := nxt_len d t
    have h0 := h (d, c) (List.mem_cons_self ..)
    have h1 := K_cost hW t fun q hq => h q (List.mem_cons_of_mem _ hq)
    have h2 := K_cost hW (nxt d t) fun q hq => h q (List.mem_cons_of_mem _ ((List.dropWhile_sublist _).mem hq))
    rw [S_cons, K_cons]
    simp only at h0
    split
    · rename_i hc
      simp only [List.length_cons, Int.natCast_add, Int.add_mul, Int.natCast_one, Int.one_mul]
      rcases hc with hc | ⟨hc, _⟩ <;> omega
    · rename_i hc
      have : ¬ (W + S W (nxt d t) < c + S W t) := fun e => hc (.inl e)
      omega
  termination_by l => l.length
  decreasing_by all_goals (simp only [List.length_cons]; have := nxt_len d t; omega)
theorem S_le {W : Int} (hW : 0 ≤ W) {M : Int} (hM : 0 ≤ M) (l : DC) (h : ∀ q ∈ l, 0 ≤ q.2 ∧ q.2 ≤ M) : 0 ≤ S W l ∧ S W l ≤ M * l.length := by
  have h1 := S_plain W l
  have h2 := S_nonneg hW l fun q hq => (h q hq).1
  have h3 := sum_bd (l := l.map (·.2)) (M := M) (by
    intro x hx
    obtain ⟨q, hq, rfl⟩ := List.mem_map.1 hx
    exact h q hq)
  simp only [List.length_map] at h3
  unfold plain at h1
  omega
/-! Where the loops look for the first day behind a week -/
theorem drop_len {α : Type} {s l : List α} (h : s <:+ l) : l.drop (l.length - s.length) = s := by
  obtain ⟨t, rfl⟩ := h
  simp
theorem week_loop (P : DC) (hl : P.length ≤ 1000) (i : Nat) {d c : Int} (hi : P[i]? = some (d, c)) {step : Int → Option (Lp Int Int)}
    (hin : ∀ (j : Nat) q, P[j]? = some q → step (j : Int) = if q.1 < d + 7 then some (.nx (((j + 1 : Nat)) : Int)) else some (.dn (j : Int))) (hend : step (P.length : Int) = some (.dn (P.length : Int))) :
    iter step (i : Int) = some (((P.length - (nxt d (P.drop (i + 1))).length : Nat)) : Int) := by
  have hil := (List.getElem?_eq_some_iff.1 hi).1
  have h := iter_rule (step := step) (fun m v => ∃ j : Nat, v = (j : Int) ∧ m + j = P.length ∧ i ≤ j ∧ (P.drop i).dropWhile (fun q => decide (q.1 < d + 7)) = (P.drop j).dropWhile (fun q => decide (q.1 < d + 7))) (fun b => b = (((P.length - (nxt d (P.drop (i + 1))).length : Nat)) : Int)) ?_ (k := P.length - i) (a := (i : Int)) ⟨i, rfl, by omega, Nat.le_refl _, rfl⟩
  · obtain ⟨b, hb, rfl⟩ := h; exact hb
  have e0 : (P.drop i).dropWhile (fun q => decide (q.1 < d + 7)) = nxt d (P.drop (i + 1)) := by
    have : P.drop i = (d, c) :: P.drop (i + 1) := by
      rw [List.drop_eq_getElem_cons hil]
      rw [List.getElem?_eq_getElem hil] at hi
      simp only [Option.some.injEq] at hi
      rw [hi]
    rw [this, List.dropWhile_cons, if_pos (by simp; omega)]
    rfl
  rintro m v ⟨j, rfl, hm, hij, heq⟩
  by_cases hlt : j < P.length
  · obtain ⟨q, hq⟩ := get_ex hlt
    have hdj : P.drop j = q :: P.drop (j + 1) := by
      rw [List.drop_eq_getElem_cons hlt]
      rw [List.getElem?_eq_getElem hlt] at hq
      simp only [Option.some.injEq] at hq
      rw [hq]
    rw [hin j q hq]
    by_cases hc : q.1 < d + 7
    · left
      refine ⟨_, m - 1, by rw [if_pos hc], by omega, j + 1, rfl, by omega, by omega, ?_⟩
      rw [heq, hdj, List.dropWhile_cons, if_pos (by simpa using hc)]
    · right
      refine ⟨_, by rw [if_neg hc], ?_⟩
      rw [← e0, heq, hdj, List.dropWhile_cons, if_neg (by simpa using hc)]
      simp only [List.length_cons, List.length_drop]
      omega
  · right
    have e : j = P.length := by omega
    subst e
    refine ⟨_, hend, ?_⟩
    rw [← e0, heq, List.drop_length]
    simp
theorem drop_nxt (P : DC) (i : Nat) (d : Int) : P.drop (P.length - (nxt d (P.drop (i + 1))).length) = nxt d (P.drop (i + 1)) :=
  drop_len ((List.dropWhile_suffix _).trans (List.drop_suffix _ _))
/-! What the loops of the tickets answer -/
def PD (p : Prices) (l : List Ride) : DC := (days l).zip (caps p l)
structure Rdy (P : DC) (D C : List Int) : Prop where
  len : P.length ≤ 1000 ∧ D.length = P.length ∧ C.length = P.length
  d : ∀ (i : Nat) (q : Int × Int), P[i]? = some q → D[i]? = some q.1 ∧ C[i]? = some q.2
  up : Up P
  cb : ∀ q ∈ P, 0 ≤ q.2 ∧ q.2 ≤ 10000
  db : ∀ q ∈ P, 0 ≤ q.1 ∧ q.1 ≤ 60
theorem iweek {P : DC} {D C : List Int} (h : Rdy P D C) {i : Nat} {d c : Int} (hi : P[i]? = some (d, c)) :
    iter (i_CheapestTickets_L1 (D, C) (i : Int)) (i : Int) = some (((P.length - (nxt d (P.drop (i + 1))).length : Nat)) : Int) := by
  have hl := h.len
  refine week_loop P h.len.1 i hi (fun j q hq => ?_) ?_
  · have hj := (List.getElem?_eq_some_iff.1 hq).1
    have hlt : decide ((j : Int) < (D.length : Int)) = true := by simp; omega
    have hdb := h.db _ (List.mem_of_getElem? hi)
    have ew : w64 (d + 7) = d + 7 := w64_id (by simp only at hdb; omega)
    unfold i_CheapestTickets_L1
    simp only [hlt, if_true, idx_nat, (h.d j q hq).1, (h.d i _ hi).1, Option.bind_some, ew, w64_succ (show j < 9223372036854775807 by omega)]
    by_cases hc : q.1 < d + 7 <;> simp [hc]
  · unfold i_CheapestTickets_L1
    simp [hl.2.1]
theorem sweek {P : DC} {D C : List Int} (h : Rdy P D C) {i : Nat} {d c : Int} (hi : P[i]? = some (d, c)) :
    s_l21Next D (i : Int) = some (((P.length - (nxt d (P.drop (i + 1))).length : Nat)) : Int) := by
  have hl := h.len
  have key : iter (s_l21Next_L1 D (i : Int)) (i : Int) = some (((P.length - (nxt d (P.drop (i + 1))).length : Nat)) : Int) := by
    refine week_loop P h.len.1 i hi (fun j q hq => ?_) ?_
    · have hj := (List.getElem?_eq_some_iff.1 hq).1
      have hlt : decide ((j : Int) < (D.length : Int)) = true := by simp; omega
      have hdb := h.db _ (List.mem_of_getElem? hi)
      have ew : w64 (d + 7) = d + 7 := w64_id (by simp only at hdb; omega)
      unfold s_l21Next_L1
      simp only [hlt, if_true, idx_nat, (h.d j q hq).1, (h.d i _ hi).1, Option.bind_some, ew, w64_succ (show j < 9223372036854775807 by omega)]
      by_cases hc : q.1 < d + 7 <;> simp [hc]
    · unfold s_l21Next_L1
      simp [hl.2.1]
  unfold s_l21Next
  rw [key]; rfl
theorem S_bd {P : DC} {D C : List Int} (h : Rdy P D C) {W : Int} (hW : 0 ≤ W) (i : Nat) : 0 ≤ S W (P.drop i) ∧ S W (P.drop i) ≤ 10000000 := by
  have h1 := S_le hW (M := 10000) (by omega) (P.drop i) (fun q hq => h.cb q (List.mem_of_mem_drop hq))
  have h2 : (P.drop i).length ≤ 1000 := by have := h.len; simp; omega
  omega
theorem drop_at {P : DC} {i : Nat} {d c : Int} (hi : P[i]? = some (d, c)) : P.drop i = (d, c) :: P.drop (i + 1) := by
  have hil := (List.getElem?_eq_some_iff.1 hi).1
  rw [List.drop_eq_getElem_cons hil]
  rw [List.getElem?_eq_getElem hil] at hi
  simp only [Option.some.injEq] at hi
  rw [hi]
/-- Behind the loop over the days from the back. -/
def Filled (P : DC) (W : Int) (j : Nat) (a : List Int) : Prop := a.length = P.length + 1 ∧ ∀ k, j ≤ k → k ≤ P.length → a[k]? = some (S W (P.drop k))
theorem filled_set {P : DC} {W : Int} {i : Nat} {a : List Int} {x : Int} (h : Filled P W (i + 1) a) (hi : i ≤ P.length) (hx : x = S W (P.drop i)) : Filled P W i (a.set i x) := by
  refine ⟨by simp [h.1], fun k hk hk2 => ?_⟩
  by_cases e : k = i
  · subst e; rw [List.getElem?_set_self (by rw [h.1]; omega), hx]
  · rw [List.getElem?_set_ne (by omega)]; exact h.2 k (by omega) hk2
theorem sleast_loop {P : DC} {D C : List Int} (h : Rdy P D C) (p : Prices) (hW : 0 ≤ p.Week ∧ p.Week ≤ 10000) :
    ∃ a, iter (s_CheapestTickets_L1 p (D, C)) ((P.length : Int) - 1, List.replicate (P.length + 1) 0) = some a ∧ Filled P p.Week 0 a := by
  have hl := h.len
  refine iter_rule (step := s_CheapestTickets_L1 p (D, C)) (fun m b => b.1 = (m : Int) - 1 ∧ m ≤ P.length ∧ Filled P p.Week m b.2) _ ?_ (k := P.length) ⟨rfl, Nat.le_refl _, by simp, fun k hk hk2 => ?_⟩
  · rintro m ⟨v, a⟩ ⟨hv, hm, hf⟩
    simp only at hv hf
    subst hv
    unfold s_CheapestTickets_L1
    cases m with
    | zero =>
      right
      exact ⟨a, by simp, hf⟩
    | succ i =>
      left
      have ei : ((i + 1 : Nat) : Int) - 1 = (i : Int) := by omega
      have hil : i < P.length := by omega
      obtain ⟨⟨d, c⟩, hi⟩ := get_ex hil
      have h0 : decide ((0 : Int) ≤ (i : Int)) = true := by simp
      have hwk := sweek h hi
      have b1 := S_bd h hW.1 (i + 1)
      have b2 := S_bd h hW.1 (P.length - (nxt d (P.drop (i + 1))).length)
      have hcb := h.cb _ (List.mem_of_getElem? hi)
      simp only at hcb
      have ha1 : a[i + 1]? = some (S p.Week (P.drop (i + 1))) := hf.2 (i + 1) (Nat.le_refl _) (by omega)
      have hnl : (nxt d (P.drop (i + 1))).length ≤ P.length - (i + 1) := by have := nxt_len d (P.drop (i + 1)); simp at this; omega
      have ha2 : a[P.length - (nxt d (P.drop (i + 1))).length]? = some (S p.Week (P.drop (P.length - (nxt d (P.drop (i + 1))).length))) := hf.2 _ (by omega) (by omega)
      obtain ⟨a0, ha0⟩ : ∃ x, a[i]? = some x := get_ex (by rw [hf.1]; omega)
      have e1 : w64 ((i : Int) + 1) = ((i + 1 : Nat) : Int) := w64_succ (by omega)
      have e2 : w64 (c + S p.Week (P.drop (i + 1))) = c + S p.Week (P.drop (i + 1)) := w64_id (by omega)
      have e3 : w64 (p.Week + S p.Week (P.drop (P.length - (nxt d (P.drop (i + 1))).length))) = p.Week + S p.Week (P.drop (P.length - (nxt d (P.drop (i + 1))).length)) := w64_id (by omega)
      have e4 : w64 ((i : Int) - 1) = (i : Int) - 1 := w64_id (by omega)
      simp only [ei, h0, if_true, idx_nat, (h.d i _ hi).2, e1, ha1, hwk, ha2, ha0, least_eq, Option.bind_some, e2, e3, e4, Int.toNat_natCast]
      refine ⟨_, i, rfl, by omega, rfl, by omega, filled_set hf (by omega) ?_⟩
      rw [drop_at hi, S_cons, drop_nxt]
  · have : k = P.length := by omega
    subst this
    rw [List.drop_length, S_nil, List.getElem?_replicate, if_pos (by omega)]
theorem K_len (W : Int) : ∀ l : DC, (K W l).length ≤ l.length
  | [] => by rw [K_nil]; simp
  | (d, c) :: t => by
    have hlen := nxt_len d t
    have h1 := K_len W t
    have h2 := K_len W (nxt d t)
    rw [K_cons]
    split
    · simp only [List.length_cons]; omega
    · simp only [List.length_cons]; omega
  termination_by l => l.length
  decreasing_by all_goals (simp only [List.length_cons]; have := nxt_len d t; omega)
theorem K_head {W d c : Int} {t : DC} (hu : Up ((d, c) :: t)) {h : Int} (hh : (K W t)[0]? = some h) : d < h := by
  obtain ⟨q, hq, e⟩ := K_mem W t h (List.mem_of_getElem? hh)
  have := (List.pairwise_cons.1 hu).1 q hq
  simp only at this; omega
theorem cmp_first (d : Int) (x s : List Int) (hs : ∀ h, s[0]? = some h → d < h) : slices_Compare_int (d :: x) s = some (if s = [] then 1 else -1) := by
  unfold slices_Compare_int
  cases s with
  | nil =>
    rw [iter_dn (b := .ret 1) (by unfold slices_Compare_int_L1; simp [idx])]
    simp
  | cons h s =>
    have := hs h rfl
    have hc : (if d < h then (-1 : Int) else if h < d then 1 else 0) = -1 := by rw [if_pos this]
    rw [iter_dn (b := .ret (-1)) (by
      unfold slices_Compare_int_L1
      have h2 : ¬ (((h :: s).length : Int) ≤ 0) := by simp only [List.length_cons]; omega
      have i1 : idx (d :: x) 0 = some d := rfl
      have i2 : idx (h :: s) 0 = some h := rfl
      have h3 : (0 : Int) < ((d :: x).length : Int) := by simp only [List.length_cons]; omega
      simp only [h3, decide_true, if_true, i1, i2, Option.bind_some, h2, decide_false, Bool.false_eq_true, if_false, compare_eq, hc]
      rfl)]
    simp
def FilledK (P : DC) (W : Int) (j : Nat) (a : List (List Int)) : Prop := a.length = P.length + 1 ∧ ∀ k, j ≤ k → k ≤ P.length → a[k]? = some (K W (P.drop k))
theorem filledK_set {P : DC} {W : Int} {i : Nat} {a : List (List Int)} {x : List Int} (h : FilledK P W (i + 1) a) (hi : i ≤ P.length) (hx : x = K W (P.drop i)) : FilledK P W i (a.set i x) := by
  refine ⟨by simp [h.1], fun k hk hk2 => ?_⟩
  by_cases e : k = i
  · subst e; rw [List.getElem?_set_self (by rw [h.1]; omega), hx]
  · rw [List.getElem?_set_ne (by omega)]; exact h.2 k (by omega) hk2
theorem ileast_loop {P : DC} {D C : List Int} (h : Rdy P D C) (p : Prices) (hW : 0 ≤ p.Week ∧ p.Week ≤ 10000) :
    ∃ a, iter (i_CheapestTickets_L2 p (D, C)) ((P.length : Int) - 1, List.replicate (P.length + 1) 0, List.replicate (P.length + 1) []) = some a ∧ (Filled P p.Week 0 a.1 ∧ FilledK P p.Week 0 a.2) := by
  have hl := h.len
  refine iter_rule (step := i_CheapestTickets_L2 p (D, C)) (fun m b => b.1 = (m : Int) - 1 ∧ m ≤ P.length ∧ Filled P p.Week m b.2.1 ∧ FilledK P p.Week m b.2.2) (fun a => Filled P p.Week 0 a.1 ∧ FilledK P p.Week 0 a.2) ?_ (k := P.length) ⟨rfl, Nat.le_refl _, ⟨by simp, fun k hk hk2 => ?_⟩, ⟨by simp, fun k hk hk2 => ?_⟩⟩
  · rintro m ⟨v, a, ks⟩ ⟨hv, hm, hf, hk⟩
    simp only at hv hf hk
    subst hv
    unfold i_CheapestTickets_L2
    cases m with
    | zero =>
      right
      exact ⟨(a, ks), by simp, hf, hk⟩
    | succ i =>
      left
      have ei : ((i + 1 : Nat) : Int) - 1 = (i : Int) := by omega
      have hil : i < P.length := by omega
      obtain ⟨⟨d, c⟩, hi⟩ := get_ex hil
      have h0 : decide ((0 : Int) ≤ (i : Int)) = true := by simp
      have hwk := iweek h hi
      have b1 := S_bd h hW.1 (i + 1)
      have b2 := S_bd h hW.1 (P.length - (nxt d (P.drop (i + 1))).length)
      have hcb := h.cb _ (List.mem_of_getElem? hi)
      simp only at hcb
      have hnl : (nxt d (P.drop (i + 1))).length ≤ P.length - (i + 1) := by have := nxt_len d (P.drop (i + 1)); simp at this; omega
      have hdn := drop_nxt P i d
      have hup : Up ((d, c) :: P.drop (i + 1)) := by rw [← drop_at hi]; exact List.Pairwise.sublist (List.drop_sublist _ _) h.up
      generalize hN : P.length - (nxt d (P.drop (i + 1))).length = N at hwk b2 hdn
      have hNi : i + 1 ≤ N ∧ N ≤ P.length := by omega
      have ha1 : a[i + 1]? = some (S p.Week (P.drop (i + 1))) := hf.2 (i + 1) (Nat.le_refl _) (by omega)
      have ha2 : a[N]? = some (S p.Week (P.drop N)) := hf.2 _ (by omega) (by omega)
      have hk1 : ks[i + 1]? = some (K p.Week (P.drop (i + 1))) := hk.2 (i + 1) (Nat.le_refl _) (by omega)
      have hk2 : ks[N]? = some (K p.Week (P.drop N)) := hk.2 _ (by omega) (by omega)
      obtain ⟨a0, ha0⟩ : ∃ x, a[i]? = some x := get_ex (by rw [hf.1]; omega)
      obtain ⟨k0, hk0⟩ : ∃ x, ks[i]? = some x := get_ex (by rw [hk.1]; omega)
      have e1 : w64 ((i : Int) + 1) = ((i + 1 : Nat) : Int) := w64_succ (by omega)
      have e2 : w64 (c + S p.Week (P.drop (i + 1))) = c + S p.Week (P.drop (i + 1)) := w64_id (by omega)
      have e3 : w64 (p.Week + S p.Week (P.drop N)) = p.Week + S p.Week (P.drop N) := w64_id (by omega)
      have e4 : w64 ((i : Int) - 1) = (i : Int) - 1 := w64_id (by omega)
      have s1 : ∀ x, (a.set i x)[N]? = some (S p.Week (P.drop N)) := fun x => by rw [List.getElem?_set_ne (by omega)]; exact ha2
      have s2 : ∀ x, (a.set i x)[i]? = some x := fun x => by rw [List.getElem?_set_self (by rw [hf.1]; omega)]
      have s3 : ∀ x, (ks.set i x)[N]? = some (K p.Week (P.drop N)) := fun x => by rw [List.getElem?_set_ne (by omega)]; exact hk2
      have s4 : ∀ x, (ks.set i x)[i]? = some x := fun x => by rw [List.getElem?_set_self (by rw [hk.1]; omega)]
      have hkl := K_len p.Week (P.drop N)
      have hkl2 : (P.drop N).length ≤ 1000 := by simp; omega
      have hch : chk (([d] : List Int).length + (K p.Week (P.drop N)).length ≤ 4294967296) = some () := chk_of (by simp only [List.length_cons, List.length_nil]; omega)
      have hcmp := cmp_first d (K p.Week (P.drop N)) (K p.Week (P.drop (i + 1))) (fun h hh => K_head hup hh)
      have happ : ([d] : List Int) ++ K p.Week (P.drop N) = d :: K p.Week (P.drop N) := rfl
      simp only [ei, h0, if_true, hwk, idx_nat, (h.d i _ hi).2, (h.d i _ hi).1, e1, ha1, hk1, ha0, hk0, Option.bind_some, e2, Int.toNat_natCast, s1, s2, s3, s4, hch, e3, compare_eq, happ, hcmp, or2_eq, e4]
      by_cases hb : p.Week + S p.Week (P.drop N) < c + S p.Week (P.drop (i + 1)) ∨ (p.Week + S p.Week (P.drop N) = c + S p.Week (P.drop (i + 1)) ∧ K p.Week (P.drop (i + 1)) ≠ [])
      · have hdec : (if (if p.Week + S p.Week (P.drop N) < c + S p.Week (P.drop (i + 1)) then (-1 : Int) else if c + S p.Week (P.drop (i + 1)) < p.Week + S p.Week (P.drop N) then 1 else 0) ≠ 0 then (if p.Week + S p.Week (P.drop N) < c + S p.Week (P.drop (i + 1)) then (-1 : Int) else if c + S p.Week (P.drop (i + 1)) < p.Week + S p.Week (P.drop N) then 1 else 0) else (if K p.Week (P.drop (i + 1)) = [] then 1 else -1)) < 0 := by
          rcases hb with hb | ⟨hb, hb2⟩
          · rw [if_pos hb]; simp
          · rw [hb]; simp [hb2]
        simp only [hdec, decide_true, if_true, Option.bind_some]
        refine ⟨_, i, rfl, by omega, rfl, by omega, ?_, ?_⟩
        · show Filled P p.Week i ((a.set i _).set i _)
          rw [List.set_set]
          refine filled_set hf (by omega) ?_
          rw [drop_at hi, S_cons, ← hdn]
          rcases hb with hb | ⟨hb, _⟩ <;> omega
        · show FilledK P p.Week i ((ks.set i _).set i _)
          rw [List.set_set]
          refine filledK_set hk (by omega) ?_
          rw [drop_at hi, K_cons, ← hdn, if_pos hb]
      · have hdec : ¬ ((if (if p.Week + S p.Week (P.drop N) < c + S p.Week (P.drop (i + 1)) then (-1 : Int) else if c + S p.Week (P.drop (i + 1)) < p.Week + S p.Week (P.drop N) then 1 else 0) ≠ 0 then (if p.Week + S p.Week (P.drop N) < c + S p.Week (P.drop (i + 1)) then (-1 : Int) else if c + S p.Week (P.drop (i + 1)) < p.Week + S p.Week (P.drop N) then 1 else 0) else (if K p.Week (P.drop (i + 1)) = [] then 1 else -1)) < 0) := by
          have g1 : ¬ (p.Week + S p.Week (P.drop N) < c + S p.Week (P.drop (i + 1))) := fun e => hb (.inl e)
          rw [if_neg g1]
          by_cases g2 : c + S p.Week (P.drop (i + 1)) < p.Week + S p.Week (P.drop N)
          · rw [if_pos g2]; simp
          · rw [if_neg g2]
            have g3 : K p.Week (P.drop (i + 1)) = [] := by
              by_cases g : K p.Week (P.drop (i + 1)) = []
              · exact g
              · exact absurd (.inr ⟨by omega, g⟩) hb
            simp [g3]
        simp only [hdec, decide_false, Bool.false_eq_true, if_false, Option.bind_some]
        refine ⟨_, i, rfl, by omega, rfl, by omega, ?_, ?_⟩
        · refine filled_set hf (by omega) ?_
          rw [drop_at hi, S_cons, ← hdn]
          have g1 : ¬ (p.Week + S p.Week (P.drop N) < c + S p.Week (P.drop (i + 1))) := fun e => hb (.inl e)
          omega
        · refine filledK_set hk (by omega) ?_
          rw [drop_at hi, K_cons, ← hdn, if_neg hb]
  · have : k = P.length := by omega
    subst this
    rw [List.drop_length, S_nil, List.getElem?_replicate, if_pos (by omega)]
  · have : k = P.length := by omega
    subst this
    rw [List.drop_length, K_nil, List.getElem?_replicate, if_pos (by omega)]
/-! The reference's second loop -/
theorem plain_eq {P : DC} {D C : List Int} (h : Rdy P D C) {W : Int} (hW : 0 ≤ W) {a : List Int} (hf : Filled P W 0 a) {j : Nat} (hj : j ≤ P.length) :
    s_l21Plain C a (j : Int) = some (plain (P.drop j) == S W (P.drop j)) := by
  have hl := h.len
  have pb : ∀ i, 0 ≤ plain (P.drop i) ∧ plain (P.drop i) ≤ 10000000 := by
    intro i
    have := sum_bd (l := (P.drop i).map (·.2)) (M := 10000) (by
      intro x hx
      obtain ⟨q, hq, rfl⟩ := List.mem_map.1 hx
      exact h.cb q (List.mem_of_mem_drop hq))
    have h2 : (((P.drop i).map (·.2)).length : Int) ≤ 1000 := by simp; omega
    unfold plain
    omega
  have loop := iter_rule (step := s_l21Plain_L1 C) (fun m b => ∃ i : Nat, b.2 = (i : Int) ∧ m + i = P.length ∧ b.1 + plain (P.drop i) = plain (P.drop j) ∧ 0 ≤ b.1) (fun b => b = plain (P.drop j)) ?_ (k := P.length - j) (a := (0, (j : Int))) ⟨j, rfl, by omega, by simp, by simp⟩
  · obtain ⟨b, hb, rfl⟩ := loop
    unfold s_l21Plain
    rw [hb]
    simp only [Option.bind_some, idx_nat, hf.2 j (by omega) hj]
  · rintro m ⟨s, v⟩ ⟨i, hv, hm, hs, h0⟩
    simp only at hv hs h0
    subst hv
    unfold s_l21Plain_L1
    by_cases hlt : i < P.length
    · left
      obtain ⟨⟨d, c⟩, hi⟩ := get_ex hlt
      have hp : decide ((i : Int) < (C.length : Int)) = true := by simp; omega
      have hcb := h.cb _ (List.mem_of_getElem? hi)
      simp only at hcb
      rw [drop_at hi, plain_cons] at hs
      have := pb (i + 1)
      have := pb j
      simp only [hp, if_true, idx_nat, (h.d i _ hi).2, Option.bind_some]
      refine ⟨_, m - 1, rfl, by omega, i + 1, w64_succ (by omega), by omega, ?_, ?_⟩
      · show w64 (s + c) + _ = _
        rw [w64_id (by omega)]; omega
      · show 0 ≤ w64 (s + c)
        rw [w64_id (by omega)]; omega
    · right
      have e : i = P.length := by omega
      subst e
      rw [List.drop_length] at hs
      exact ⟨s, by simp [hl.2.2], by simpa [plain] using hs⟩
theorem sgreedy_loop {P : DC} {D C : List Int} (h : Rdy P D C) (p : Prices) (hW : 0 ≤ p.Week ∧ p.Week ≤ 10000) {a : List Int} (hf : Filled P p.Week 0 a) :
    iter (s_CheapestTickets_L2 p (D, C) a) (0, []) = some (K p.Week P) := by
  have hl := h.len
  have loop := iter_rule (step := s_CheapestTickets_L2 p (D, C) a) (fun m b => ∃ j : Nat, b.1 = (j : Int) ∧ m + j = P.length ∧ b.2 ++ K p.Week (P.drop j) = K p.Week P) (fun b => b = K p.Week P) ?_ (k := P.length) (a := (0, [])) ⟨0, rfl, by omega, by simp⟩
  · obtain ⟨b, hb, rfl⟩ := loop; exact hb
  rintro m ⟨v, s⟩ ⟨j, hv, hm, hs⟩
  simp only at hv hs
  subst hv
  have hsl : s.length ≤ 1000 := by
    have h1 := K_len p.Week P
    have h2 := congrArg List.length hs
    simp at h2; omega
  unfold s_CheapestTickets_L2
  by_cases hlt : j < P.length
  · obtain ⟨⟨d, c⟩, hi⟩ := get_ex hlt
    have hp : decide ((j : Int) < (D.length : Int)) = true := by simp; omega
    have hpl := plain_eq h hW.1 hf (j := j) (by omega)
    have hwk := sweek h hi
    have hdn := drop_nxt P j d
    have hnl : (nxt d (P.drop (j + 1))).length ≤ P.length - (j + 1) := by have := nxt_len d (P.drop (j + 1)); simp at this; omega
    have b2 := S_bd h hW.1 (P.length - (nxt d (P.drop (j + 1))).length)
    generalize hN : P.length - (nxt d (P.drop (j + 1))).length = N at hwk b2 hdn
    have ha2 : a[N]? = some (S p.Week (P.drop N)) := hf.2 _ (by omega) (by omega)
    have haj : a[j]? = some (S p.Week (P.drop j)) := hf.2 _ (by omega) (by omega)
    have e3 : w64 (p.Week + S p.Week (P.drop N)) = p.Week + S p.Week (P.drop N) := w64_id (by omega)
    have hch : chk (s.length + ([d] : List Int).length ≤ 4294967296) = some () := chk_of (by simp only [List.length_cons, List.length_nil]; omega)
    have hK := K_greedy (W := p.Week) (d := d) (c := c) (t := P.drop (j + 1))
    rw [← drop_at hi, ← hdn] at hK
    simp only [hp, if_true, hpl, hwk, idx_nat, ha2, haj, (h.d j _ hi).1, hch, Option.bind_some, e3]
    by_cases g1 : plain (P.drop j) = S p.Week (P.drop j)
    · right
      refine ⟨s, by simp [g1], ?_⟩
      rw [hK, if_pos g1, List.append_nil] at hs
      exact hs
    · left
      have g1' : (plain (P.drop j) == S p.Week (P.drop j)) = false := by simpa using g1
      rw [hK, if_neg g1] at hs
      by_cases g2 : p.Week + S p.Week (P.drop N) = S p.Week (P.drop j)
      · have g2' : (p.Week + S p.Week (P.drop N) == S p.Week (P.drop j)) = true := by simpa using g2
        rw [if_pos g2] at hs
        refine ⟨_, P.length - N, by simp only [g1', g2', Bool.false_eq_true, if_false, if_true]; rfl, by omega, N, rfl, by omega, ?_⟩
        show (s ++ [d]) ++ K p.Week (P.drop N) = _
        rw [← hs]; simp
      · have g2' : (p.Week + S p.Week (P.drop N) == S p.Week (P.drop j)) = false := by simpa using g2
        rw [if_neg g2] at hs
        refine ⟨_, m - 1, by simp only [g1', g2', Bool.false_eq_true, if_false]; rfl, by omega, j + 1, ?_, by omega, hs⟩
        exact w64_succ (by omega)
  · right
    have e : j = P.length := by omega
    subst e
    rw [List.drop_length, K_nil, List.append_nil] at hs
    exact ⟨s, by simp [hl.2.1], hs⟩
theorem grp_ord {l : List Ride} (h : Chain l okR ordR) : ∀ n, n ≤ l.length → List.Pairwise (fun a b : Int × Int => b.1 < a.1) (grp (l.take n)) ∧ (∀ e, 0 < n → l[n - 1]? = some e → ∃ c t, grp (l.take n) = (e.Day, c) :: t) ∧ ∀ x ∈ grp (l.take n), 0 ≤ x.1 ∧ x.1 ≤ 60 := by
  intro n
  induction n with
  | zero => intro _; exact ⟨by simp [grp], fun e h => by omega, fun x hx => by simp [grp] at hx⟩
  | succ n ih =>
    intro hn
    obtain ⟨h1, h2, h3⟩ := ih (by omega)
    obtain ⟨e, he⟩ := get_ex (show n < l.length by omega)
    have hek := (h.1 e (List.mem_of_getElem? he)).1
    rw [take_succ he, grp_snoc]
    cases hg : grp (l.take n) with
    | nil =>
      refine ⟨by simp [addD], fun e' _ he' => ?_, fun x hx => ?_⟩
      · rw [Nat.add_sub_cancel, he] at he'; cases he'; exact ⟨_, _, rfl⟩
      · have : x = (e.Day, e.Fare) := by simpa [addD] using hx
        subst this; exact hek
    | cons p t =>
      obtain ⟨d, c⟩ := p
      rw [hg] at h1 h3
      have hn0 : 0 < n := by
        rcases Nat.eq_zero_or_pos n with rfl | h0
        · simp [grp] at hg
        · exact h0
      obtain ⟨e', he'⟩ := get_ex (show n - 1 < l.length by omega)
      obtain ⟨c', t', hgt⟩ := h2 e' hn0 he'
      rw [hg] at hgt
      simp only [List.cons.injEq, Prod.mk.injEq] at hgt
      have ho := h.2 (n - 1) e' e he' (by rw [show n - 1 + 1 = n by omega]; exact he)
      have hde : d ≤ e.Day := by unfold ordR at ho; omega
      obtain ⟨g1, g2⟩ := List.pairwise_cons.1 h1
      show List.Pairwise _ (if d = e.Day then (d, c + e.Fare) :: t else (e.Day, e.Fare) :: (d, c) :: t) ∧ (∀ e', 0 < n + 1 → l[n + 1 - 1]? = some e' → ∃ c2 t2, (if d = e.Day then (d, c + e.Fare) :: t else (e.Day, e.Fare) :: (d, c) :: t) = (e'.Day, c2) :: t2) ∧ ∀ x ∈ (if d = e.Day then (d, c + e.Fare) :: t else (e.Day, e.Fare) :: (d, c) :: t), 0 ≤ x.1 ∧ x.1 ≤ 60
      by_cases heq : d = e.Day
      · rw [if_pos heq]
        refine ⟨List.pairwise_cons.2 ⟨g1, g2⟩, fun e'' _ he'' => ?_, fun x hx => ?_⟩
        · rw [Nat.add_sub_cancel, he] at he''; cases he''; exact ⟨_, _, by rw [heq]⟩
        · rcases List.mem_cons.1 hx with rfl | hx
          · exact h3 (d, c) (List.mem_cons_self ..)
          · exact h3 x (List.mem_cons_of_mem _ hx)
      · rw [if_neg heq]
        refine ⟨List.pairwise_cons.2 ⟨fun x hx => ?_, h1⟩, fun e'' _ he'' => ?_, fun x hx => ?_⟩
        · rcases List.mem_cons.1 hx with rfl | hx
          · simp only; omega
          · have := g1 x hx; simp only at this ⊢; omega
        · rw [Nat.add_sub_cancel, he] at he''; cases he''; exact ⟨_, _, rfl⟩
        · rcases List.mem_cons.1 hx with rfl | hx
          · exact hek
          · exact h3 x hx
theorem PD_rdy {p : Prices} {l : List Ride} (hv : VP p) (hr : VR l) : Rdy (PD p l) (days l) (caps p l) ∧ (PD p l).length = (days l).length ∧ plain (PD p l) = (caps p l).sum := by
  have hlen := caps_len p l hr.2.1
  have hl := hr.1
  have hPl : (PD p l).length = (days l).length := by simp [PD, hlen.1]
  have hfst : (PD p l).map Prod.fst = days l := List.map_fst_zip (by omega)
  have hsnd : (PD p l).map Prod.snd = caps p l := List.map_snd_zip (by omega)
  have ho := grp_ord hr.2 l.length (Nat.le_refl _)
  rw [List.take_length] at ho
  refine ⟨⟨⟨by omega, by omega, by omega⟩, fun i q hq => ?_, ?_, fun q hq => ?_, fun q hq => ?_⟩, hPl, ?_⟩
  · constructor
    · rw [← hfst, List.getElem?_map, hq]; rfl
    · rw [← hsnd, List.getElem?_map, hq]; rfl
  · unfold Up
    have h1 : List.Pairwise (fun a b : Int => a < b) (days l) := by
      unfold days
      rw [List.pairwise_reverse, List.pairwise_map]
      exact ho.1
    rw [← hfst, List.pairwise_map] at h1
    exact h1
  · refine caps_bd hv hr q.2 ?_
    rw [← hsnd]; exact List.mem_map_of_mem hq
  · have : q.1 ∈ days l := by rw [← hfst]; exact List.mem_map_of_mem hq
    have : ∃ x ∈ grp l, x.1 = q.1 := by simpa [days] using this
    obtain ⟨x, hx, e⟩ := this
    rw [← e]; exact ho.2.2 x hx
  · unfold plain
    rw [← hsnd]
open Classical in
noncomputable def tickR (p : Prices) (l : List Ride) : Int × List Int × Bool := if VP p ∧ VR l then (S p.Week (PD p l), K p.Week (PD p l), true) else (0, [], false)
open Classical in
theorem iTick_eq (p : Prices) (l : List Ride) (hz : p.Zones.length ≤ 1000) (hl : l.length ≤ 1000) : i_CheapestTickets p l = some (tickR p l) := by
  unfold i_CheapestTickets tickR
  simp only [arePrices_eq p hz, validRides_eq l hl, Option.bind_some]
  by_cases h1 : VP p
  · by_cases h2 : VR l
    · obtain ⟨hR, hPl, _⟩ := PD_rdy h1 h2
      have hlen := caps_len p l h2.2.1
      have e1 : w64 (((days l).length : Int) + 1) = (((PD p l).length + 1 : Nat) : Int) := by rw [w64_id (by omega)]; omega
      have e2 : w64 (((days l).length : Int) - 1) = ((PD p l).length : Int) - 1 := by rw [w64_id (by omega)]; omega
      have hch : chk ((0 : Int) ≤ (((PD p l).length + 1 : Nat) : Int) ∧ (((PD p l).length + 1 : Nat) : Int) ≤ 4294967296) = some () := chk_of (by omega)
      obtain ⟨⟨a, ks⟩, hit, hf, hk⟩ := ileast_loop hR p h1.week
      simp only [h1, h2, decide_true, Bool.not_true, Bool.false_eq_true, if_false, Option.bind_some, rideDays_eq p l hl h2.2.1, and_self, if_true, e1, e2, hch, Int.toNat_natCast, hit]
      have i1 : idx a 0 = some (S p.Week (PD p l)) := hf.2 0 (Nat.le_refl _) (by omega)
      have i2 : idx ks 0 = some (K p.Week (PD p l)) := hk.2 0 (Nat.le_refl _) (by omega)
      simp only [i1, i2, Option.bind_some]
    · simp [h1, h2]
  · simp [h1]
open Classical in
theorem sTick_eq (p : Prices) (l : List Ride) (hz : p.Zones.length ≤ 1000) (hl : l.length ≤ 1000) : s_CheapestTickets p l = some (tickR p l) := by
  unfold s_CheapestTickets tickR
  simp only [l21Prices_eq p hz, l21Rides_eq l hl, Option.bind_some]
  by_cases h1 : VP p
  · by_cases h2 : VR l
    · obtain ⟨hR, hPl, _⟩ := PD_rdy h1 h2
      have hlen := caps_len p l h2.2.1
      have e1 : w64 (((days l).length : Int) + 1) = (((PD p l).length + 1 : Nat) : Int) := by rw [w64_id (by omega)]; omega
      have e2 : w64 (((days l).length : Int) - 1) = ((PD p l).length : Int) - 1 := by rw [w64_id (by omega)]; omega
      have hch : chk ((0 : Int) ≤ (((PD p l).length + 1 : Nat) : Int) ∧ (((PD p l).length + 1 : Nat) : Int) ≤ 4294967296) = some () := chk_of (by omega)
      obtain ⟨a, hit, hf⟩ := sleast_loop hR p h1.week
      have hg := sgreedy_loop hR p h1.week hf
      simp only [h1, h2, decide_true, Bool.not_true, Bool.false_eq_true, if_false, Option.bind_some, l21Days_eq p l hl h2.2.1, and_self, if_true, e1, e2, hch, Int.toNat_natCast, hit, hg]
      have i1 : idx a 0 = some (S p.Week (PD p l)) := hf.2 0 (Nat.le_refl _) (by omega)
      simp only [i1, Option.bind_some]
    · simp [h1, h2]
  · simp [h1]
/-! Free transfers -/
def zR : Ride := ⟨0, 0, 0⟩
def fr (l : List Ride) (mi : Int) : Nat → Nat × List Ride
  | 0 => (0, [])
  | i + 1 => if 0 < i ∧ (l.getD (fr l mi i).1 zR).Day = (l.getD i zR).Day ∧ (l.getD i zR).Time - (l.getD (fr l mi i).1 zR).Time ≤ mi then ((fr l mi i).1, (fr l mi i).2 ++ [⟨(l.getD i zR).Day, (l.getD i zR).Time, 0⟩]) else (i, (fr l mi i).2 ++ [l.getD i zR])
structure FrOK (l : List Ride) (mi : Int) (i : Nat) : Prop where
  len : (fr l mi i).2.length = i
  base : 0 < i → (fr l mi i).1 < i
  same : ∀ (k : Nat) x, (fr l mi i).2[k]? = some x → ∃ y, l[k]? = some y ∧ x.Day = y.Day ∧ x.Time = y.Time ∧ (x.Fare = 0 ∨ x.Fare = y.Fare)
theorem fr_ok (l : List Ride) (mi : Int) : ∀ i, i ≤ l.length → FrOK l mi i := by
  intro i
  induction i with
  | zero => intro _; exact ⟨rfl, fun h => by omega, fun k x h => by simp [fr] at h⟩
  | succ i ih =>
    intro hi
    have h := ih (by omega)
    obtain ⟨e, he⟩ := get_ex (show i < l.length by omega)
    have hgd : l.getD i zR = e := by rw [List.getD_eq_getElem?_getD, he]; rfl
    have app : ∀ x : Ride, (x.Day = e.Day ∧ x.Time = e.Time ∧ (x.Fare = 0 ∨ x.Fare = e.Fare)) → ∀ (k : Nat) y, ((fr l mi i).2 ++ [x])[k]? = some y → ∃ z, l[k]? = some z ∧ y.Day = z.Day ∧ y.Time = z.Time ∧ (y.Fare = 0 ∨ y.Fare = z.Fare) := by
      intro x hx k y hy
      by_cases hk : k < i
      · rw [List.getElem?_append_left (by rw [h.len]; exact hk)] at hy
        exact h.same k y hy
      · have hlt := (List.getElem?_eq_some_iff.1 hy).1
        simp [h.len] at hlt
        have e1 : k = i := by omega
        subst e1
        rw [List.getElem?_append_right (by rw [h.len]; omega)] at hy
        simp [h.len] at hy
        subst hy
        exact ⟨e, he, hx⟩
    by_cases hc : 0 < i ∧ (l.getD (fr l mi i).1 zR).Day = (l.getD i zR).Day ∧ (l.getD i zR).Time - (l.getD (fr l mi i).1 zR).Time ≤ mi
    · have e1 : fr l mi (i + 1) = ((fr l mi i).1, (fr l mi i).2 ++ [⟨(l.getD i zR).Day, (l.getD i zR).Time, 0⟩]) := by rw [fr, if_pos hc]
      refine ⟨by rw [e1]; simp [h.len], fun _ => by rw [e1]; have := h.base hc.1; simp only; omega, ?_⟩
      rw [e1, hgd]
      exact app _ ⟨rfl, rfl, .inl rfl⟩
    · have e1 : fr l mi (i + 1) = (i, (fr l mi i).2 ++ [l.getD i zR]) := by rw [fr, if_neg hc]
      refine ⟨by rw [e1]; simp [h.len], fun _ => by rw [e1]; simp only; omega, ?_⟩
      rw [e1, hgd]
      exact app _ ⟨rfl, rfl, .inr rfl⟩
theorem set_mid {α : Type} (a : List α) (x y : α) (t : List α) : (a ++ x :: t).set a.length y = a ++ y :: t := by
  rw [List.set_append_right _ _ (Nat.le_refl _)]; simp
theorem iFree_loop (l : List Ride) (mi : Int) (hr : VR l) : iter (i_FreeTransfers_L1 mi l) (-1, 0, l) = some (fr l mi l.length).2 := by
  have hl := hr.1
  have loop := iter_rule (step := i_FreeTransfers_L1 mi l) (fun m b => ∃ i : Nat, b.2.1 = (i : Int) ∧ m + i = l.length ∧ b.1 = (if i = 0 then -1 else ((fr l mi i).1 : Int)) ∧ b.2.2 = (fr l mi i).2 ++ l.drop i) (fun b => b = (fr l mi l.length).2) ?_ (k := l.length) (a := (-1, 0, l)) ⟨0, rfl, by omega, rfl, by simp [fr]⟩
  · obtain ⟨b, hb, rfl⟩ := loop; exact hb
  rintro m ⟨r, v, a⟩ ⟨i, hv, hm, hb, ha⟩
  simp only at hv hb ha
  subst hv
  by_cases hlt : i < l.length
  · left
    obtain ⟨e, he⟩ := get_ex hlt
    have hgd : l.getD i zR = e := by rw [List.getD_eq_getElem?_getD, he]; rfl
    have hok := fr_ok l mi i (by omega)
    have hd : l.drop i = e :: l.drop (i + 1) := by
      rw [List.drop_eq_getElem_cons hlt]
      rw [List.getElem?_eq_getElem hlt] at he
      simp only [Option.some.injEq] at he
      rw [he]
    have hai : a[i]? = some e := by
      rw [ha, List.getElem?_append_right (by rw [hok.len]; exact Nat.le_refl _), hd, hok.len]; simp
    have hp : decide ((i : Int) < (l.length : Int)) = true := by simpa using hlt
    have e1 : w64 ((i : Int) + 1) = ((i + 1 : Nat) : Int) := w64_succ (by omega)
    have stay : ∀ c : Prop, ¬ (0 < i ∧ (l.getD (fr l mi i).1 zR).Day = (l.getD i zR).Day ∧ (l.getD i zR).Time - (l.getD (fr l mi i).1 zR).Time ≤ mi) → a = (fr l mi (i + 1)).2 ++ l.drop (i + 1) ∧ ((i : Int) = if i + 1 = 0 then -1 else ((fr l mi (i + 1)).1 : Int)) := by
      intro _ hc
      have : fr l mi (i + 1) = (i, (fr l mi i).2 ++ [l.getD i zR]) := by rw [fr, if_neg hc]
      rw [this, ha, hd, hgd]; simp
    unfold i_FreeTransfers_L1
    by_cases h0 : i = 0
    · have hr' : r = -1 := by rw [hb, if_pos h0]
      have hneg : decide ((0 : Int) ≤ r) = false := by rw [hr']; rfl
      simp only [hp, if_true, idx_nat, hai, Option.bind_some, hneg, Bool.false_eq_true, if_false, e1]
      obtain ⟨g1, g2⟩ := stay True (fun hc => by omega)
      exact ⟨_, m - 1, rfl, by omega, i + 1, rfl, by omega, g2, g1⟩
    · have hbs := hok.base (by omega)
      have hr' : r = ((fr l mi i).1 : Int) := by rw [hb, if_neg h0]
      have hpos : decide ((0 : Int) ≤ r) = true := by rw [hr']; simp
      obtain ⟨y, hy⟩ := get_ex (show (fr l mi i).1 < l.length by omega)
      have hgy : l.getD (fr l mi i).1 zR = y := by rw [List.getD_eq_getElem?_getD, hy]; rfl
      obtain ⟨x, hx⟩ := get_ex (l := (fr l mi i).2) (i := (fr l mi i).1) (by rw [hok.len]; exact hbs)
      obtain ⟨y', hy', q1, q2, _⟩ := hok.same _ _ hx
      rw [hy] at hy'; cases hy'
      have hax : idx a r = some x := by
        rw [hr', idx_nat, ha, List.getElem?_append_left (by rw [hok.len]; exact hbs)]; exact hx
      have t1 := (hr.2.1 e (List.mem_of_getElem? he)).2.1
      have t2 := (hr.2.1 y (List.mem_of_getElem? hy)).2.1
      have e3 : w64 (e.Time - x.Time) = e.Time - y.Time := by rw [q2]; exact w64_id (by omega)
      simp only [hp, if_true, idx_nat, hai, Option.bind_some, hpos, hax, e1, q1, e3]
      by_cases c1 : y.Day = e.Day
      · by_cases c2 : e.Time - y.Time ≤ mi
        · have hc : 0 < i ∧ (l.getD (fr l mi i).1 zR).Day = (l.getD i zR).Day ∧ (l.getD i zR).Time - (l.getD (fr l mi i).1 zR).Time ≤ mi := by rw [hgy, hgd]; exact ⟨by omega, c1, c2⟩
          have hfr : fr l mi (i + 1) = ((fr l mi i).1, (fr l mi i).2 ++ [⟨(l.getD i zR).Day, (l.getD i zR).Time, 0⟩]) := by rw [fr, if_pos hc]
          refine ⟨_, m - 1, by simp only [c1, beq_self_eq_true, if_true, c2, decide_true, Option.bind_some]; rfl, by omega, i + 1, rfl, by omega, ?_, ?_⟩
          · rw [hfr]; simp only [Nat.add_eq_zero_iff, Nat.one_ne_zero, and_false, if_false]; exact hr'
          · show a.set (i : Int).toNat _ = _
            rw [hfr, ha, hd, hgd]
            have := set_mid (fr l mi i).2 e ⟨e.Day, e.Time, 0⟩ (l.drop (i + 1))
            rw [hok.len] at this
            rw [Int.toNat_natCast, this]; simp
        · obtain ⟨g1, g2⟩ := stay True (fun hc => by rw [hgy, hgd] at hc; exact c2 hc.2.2)
          exact ⟨_, m - 1, by simp only [c1, beq_self_eq_true, if_true, c2, decide_false, Bool.false_eq_true, if_false, Option.bind_some]; rfl, by omega, i + 1, rfl, by omega, g2, g1⟩
      · obtain ⟨g1, g2⟩ := stay True (fun hc => by rw [hgy, hgd] at hc; exact c1 hc.2.1)
        have c1' : (y.Day == e.Day) = false := by simpa using c1
        exact ⟨_, m - 1, by simp only [c1', Bool.false_eq_true, if_false, Option.bind_some]; rfl, by omega, i + 1, rfl, by omega, g2, g1⟩
  · right
    have e : i = l.length := by omega
    subst e
    refine ⟨a, by unfold i_FreeTransfers_L1; simp, ?_⟩
    rw [ha]; simp
theorem sFree_loop (l : List Ride) (mi : Int) (hr : VR l) : iter (s_FreeTransfers_L1 l mi) (0, 0, []) = some (fr l mi l.length).2 := by
  have hl := hr.1
  have loop := iter_rule (step := s_FreeTransfers_L1 l mi) (fun m b => ∃ i : Nat, b.2.1 = (i : Int) ∧ m + i = l.length ∧ b.1 = ((fr l mi i).1 : Int) ∧ b.2.2 = (fr l mi i).2) (fun b => b = (fr l mi l.length).2) ?_ (k := l.length) (a := (0, 0, [])) ⟨0, rfl, by omega, rfl, rfl⟩
  · obtain ⟨b, hb, rfl⟩ := loop; exact hb
  rintro m ⟨r, v, a⟩ ⟨i, hv, hm, hb, ha⟩
  simp only at hv hb ha
  subst hv hb ha
  by_cases hlt : i < l.length
  · left
    obtain ⟨e, he⟩ := get_ex hlt
    have hgd : l.getD i zR = e := by rw [List.getD_eq_getElem?_getD, he]; rfl
    have hok := fr_ok l mi i (by omega)
    have hp : decide ((i : Int) < (l.length : Int)) = true := by simpa using hlt
    have e1 : w64 ((i : Int) + 1) = ((i + 1 : Nat) : Int) := w64_succ (by omega)
    have hch : ∀ x : Ride, chk ((fr l mi i).2.length + ([x] : List Ride).length ≤ 4294967296) = some () := fun x => chk_of (by rw [hok.len]; simp only [List.length_cons, List.length_nil]; omega)
    have stay : ¬ (0 < i ∧ (l.getD (fr l mi i).1 zR).Day = (l.getD i zR).Day ∧ (l.getD i zR).Time - (l.getD (fr l mi i).1 zR).Time ≤ mi) → fr l mi (i + 1) = (i, (fr l mi i).2 ++ [e]) := by
      intro hc
      rw [fr, if_neg hc, hgd]
    unfold s_FreeTransfers_L1
    by_cases h0 : i = 0
    · have hneg : decide ((0 : Int) < (i : Int)) = false := by simp [h0]
      have hs := stay (fun hc => by omega)
      simp only [hp, if_true, idx_nat, he, Option.bind_some, hneg, Bool.false_eq_true, if_false, e1, hch]
      exact ⟨_, m - 1, rfl, by omega, i + 1, rfl, by omega, by rw [hs], by rw [hs]⟩
    · have hbs := hok.base (by omega)
      have hpos : decide ((0 : Int) < (i : Int)) = true := by simp; omega
      obtain ⟨y, hy⟩ := get_ex (show (fr l mi i).1 < l.length by omega)
      have hgy : l.getD (fr l mi i).1 zR = y := by rw [List.getD_eq_getElem?_getD, hy]; rfl
      have t1 := (hr.2.1 e (List.mem_of_getElem? he)).2.1
      have t2 := (hr.2.1 y (List.mem_of_getElem? hy)).2.1
      have e3 : w64 (e.Time - y.Time) = e.Time - y.Time := w64_id (by omega)
      simp only [hp, if_true, idx_nat, he, hy, Option.bind_some, hpos, e1, e3]
      by_cases c1 : y.Day = e.Day
      · by_cases c2 : e.Time - y.Time ≤ mi
        · have hc : 0 < i ∧ (l.getD (fr l mi i).1 zR).Day = (l.getD i zR).Day ∧ (l.getD i zR).Time - (l.getD (fr l mi i).1 zR).Time ≤ mi := by rw [hgy, hgd]; exact ⟨by omega, c1, c2⟩
          have hfr : fr l mi (i + 1) = ((fr l mi i).1, (fr l mi i).2 ++ [⟨e.Day, e.Time, 0⟩]) := by rw [fr, if_pos hc, hgd]
          refine ⟨_, m - 1, by simp only [c1, beq_self_eq_true, if_true, c2, decide_true, Option.bind_some, hch]; rfl, by omega, i + 1, rfl, by omega, by rw [hfr], by rw [hfr]⟩
        · have hs := stay (fun hc => by rw [hgy, hgd] at hc; exact c2 hc.2.2)
          exact ⟨_, m - 1, by simp only [c1, beq_self_eq_true, if_true, c2, decide_false, Bool.false_eq_true, if_false, Option.bind_some, hch]; rfl, by omega, i + 1, rfl, by omega, by rw [hs], by rw [hs]⟩
      · have hs := stay (fun hc => by rw [hgy, hgd] at hc; exact c1 hc.2.1)
        have c1' : (y.Day == e.Day) = false := by simpa using c1
        exact ⟨_, m - 1, by simp only [c1', Bool.false_eq_true, if_false, Option.bind_some, hch]; rfl, by omega, i + 1, rfl, by omega, by rw [hs], by rw [hs]⟩
  · right
    have e : i = l.length := by omega
    subst e
    exact ⟨_, by unfold s_FreeTransfers_L1; simp, rfl⟩
open Classical in
noncomputable def freeR (l : List Ride) (mi : Int) : List Ride × Bool := if VR l ∧ 0 ≤ mi ∧ mi ≤ 1799 then ((fr l mi l.length).2, true) else ([], false)
open Classical in
theorem iFree_eq (l : List Ride) (mi : Int) (hl : l.length ≤ 1000) : i_FreeTransfers l mi = some (freeR l mi) := by
  unfold i_FreeTransfers freeR
  simp only [validRides_eq l hl, validTime_eq, Option.bind_some]
  by_cases h1 : VR l
  · by_cases h2 : 0 ≤ mi ∧ mi ≤ 1799
    · have hch : chk (([] : List Ride).length + l.length ≤ 4294967296) = some () := chk_of (by simp only [List.length_nil]; omega)
      simp only [h1, h2, and_self, decide_true, Bool.not_true, Bool.false_eq_true, if_false, if_true, Option.bind_some, slices_Clone_Ride, hch, iFree_loop l mi h1]
    · simp [h1, h2]
  · simp [h1]
open Classical in
theorem sFree_eq (l : List Ride) (mi : Int) (hl : l.length ≤ 1000) : s_FreeTransfers l mi = some (freeR l mi) := by
  unfold s_FreeTransfers freeR
  simp only [l21Rides_eq l hl, l1In_eq, Option.bind_some]
  by_cases h1 : VR l
  · by_cases h2 : 0 ≤ mi ∧ mi ≤ 1799
    · simp only [h1, h2, and_self, decide_true, Bool.not_true, Bool.false_eq_true, if_false, if_true, Option.bind_some, sFree_loop l mi h1]
    · simp [h1, h2]
  · simp [h1]
theorem fr_valid {l : List Ride} {mi : Int} (h : VR l) : VR (fr l mi l.length).2 := by
  have hok := fr_ok l mi l.length (Nat.le_refl _)
  refine ⟨by rw [hok.len]; exact h.1, fun e he => ?_, fun i a b ha hb => ?_⟩
  · obtain ⟨k, hk⟩ := List.getElem?_of_mem he
    obtain ⟨y, hy, q1, q2, q3⟩ := hok.same k e hk
    obtain ⟨g1, g2, g3⟩ := h.2.1 y (List.mem_of_getElem? hy)
    refine ⟨by omega, by omega, ?_⟩
    rcases q3 with q3 | q3 <;> omega
  · obtain ⟨y, hy, q1, q2, _⟩ := hok.same i a ha
    obtain ⟨z, hz, q3, q4, _⟩ := hok.same (i + 1) b hb
    have := h.2.2 i y z hy hz
    unfold ordR at this ⊢
    omega
theorem weeks_loop (r2 : Int × List Int × Bool) (hl : r2.2.1.length ≤ 1000) (hs : ∀ (i : Nat) (a b : Int), r2.2.1[i]? = some a → r2.2.1[i + 1]? = some b → a + 7 ≤ b) (hb : ∀ x ∈ r2.2.1, 0 ≤ x ∧ x ≤ 1000) :
    iter (v_FnTickets_L2 r2) 1 = some (.go ()) := by
  have loop := iter_rule (step := v_FnTickets_L2 r2) (fun m v => ∃ i : Nat, v = ((i + 1 : Nat) : Int) ∧ m + i = r2.2.1.length) (fun b => b = .go ()) ?_ (k := r2.2.1.length) (a := 1) ⟨0, rfl, by omega⟩
  · obtain ⟨b, hb, rfl⟩ := loop; exact hb
  rintro m v ⟨i, rfl, hm⟩
  unfold v_FnTickets_L2
  by_cases hlt : i + 1 < r2.2.1.length
  · left
    obtain ⟨a, ha⟩ := get_ex (show i < r2.2.1.length by omega)
    obtain ⟨b, hb'⟩ := get_ex hlt
    have := hs i a b ha hb'
    have hab := hb a (List.mem_of_getElem? ha)
    have hp : decide (((i + 1 : Nat) : Int) < (r2.2.1.length : Int)) = true := by simp; omega
    have e1 : w64 (((i + 1 : Nat) : Int) - 1) = (i : Int) := w64_pred (by omega)
    have e2 : w64 (a + 7) = a + 7 := w64_id (by omega)
    have e3 : decide (b < a + 7) = false := by simp; omega
    simp only [hp, if_true, idx_nat, hb', e1, ha, Option.bind_some, e2, e3, Bool.false_eq_true, if_false]
    refine ⟨_, m - 1, rfl, by omega, i + 1, ?_, by omega⟩
    exact w64_succ (by omega)
  · right
    have hp : decide (((i + 1 : Nat) : Int) < (r2.2.1.length : Int)) = false := by simp; omega
    exact ⟨_, by simp only [hp, Bool.false_eq_true, if_false], rfl⟩
theorem free_loop (r12 : List Ride × Int) (r13 : List Ride × Bool) (hl : r13.1.length ≤ 1000) (hs : ∀ (k : Nat) x, r13.1[k]? = some x → ∃ y, r12.1[k]? = some y ∧ (x.Fare = 0 ∨ x.Fare = y.Fare)) :
    iter (v_FnTickets_L3 r12 r13 r13) 0 = some (.go ()) := by
  have loop := chain_loop r13.1 (by omega) (step := v_FnTickets_L3 r12 r13 r13) (fun _ => True) (fun _ _ => True) ?_ ?_
  · obtain ⟨b, hb, h⟩ := loop
    rcases h with ⟨rfl, h⟩ | ⟨rfl, h⟩
    · exact hb
    · exact absurd ⟨fun _ _ => trivial, fun _ _ _ _ _ => trivial⟩ h
  · intro v x h0 hlt hx2
    have hx := idx_of h0 hx2
    obtain ⟨y, hy, q⟩ := hs _ _ hx2
    have hy' := idx_of h0 hy
    have hp : decide (v < (r13.1.length : Int)) = true := by simpa using hlt
    left
    refine ⟨?_, trivial, fun _ _ _ => trivial⟩
    unfold v_FnTickets_L3
    simp only [hp, if_true, hx, hy', Option.bind_some, beq_self_eq_true, Bool.and_self, Bool.not_true, Bool.false_eq_true, if_false]
    rw [w64_id (by omega)]
    rcases q with q | q
    · simp [q]
    · simp [q]
  · unfold v_FnTickets_L3; simp
theorem tickets_true (code : List UInt8) : v_FnTickets code = some true := by
  unfold v_FnTickets v_rBig
  simp only [Option.bind_some]
  by_cases hbig : (65536 : Int) < code.length
  · simp [hbig]
  have hbig' : decide ((65536 : Int) < code.length) = false := by simpa using hbig
  simp only [hbig', Bool.false_eq_true, if_false]
  obtain ⟨⟨p, l⟩, hd, hz, hl⟩ := drawTickets_ok code
  simp only at hz hl
  simp only [hd, Option.bind_some, iTick_eq p l (by omega) (by omega), sTick_eq p l (by omega) (by omega), bne_self_eq_false, Bool.false_eq_true, if_false, beq_self_eq_true, Bool.not_true]
  obtain ⟨⟨fl, mi⟩, hfd, hfl⟩ := drawFree_ok code
  simp only at hfl
  have tail : ((s_DrawFreeTransfers code).bind fun r12 =>
        (i_FreeTransfers r12.1 r12.2).bind fun r13 =>
        (s_FreeTransfers r12.1 r12.2).bind fun r14 =>
        (if (!(r13.2 == r14.2)) = true then some true else if ((r13.1.length : Int) != (r14.1.length : Int)) = true then some true else if r13.2 = true then (i_IsValidRides r13.1).bind fun r15 =>
        some (!r15) else some false).bind fun (v4 : Bool) =>
        if v4 = true then
          some false
        else
          flb (iter (v_FnTickets_L3 r12 r13 r14) 0) fun (_ : Unit) =>
          some true) = some true := by
    simp only [hfd, Option.bind_some, iFree_eq fl mi (by omega), sFree_eq fl mi (by omega), beq_self_eq_true, Bool.not_true, Bool.false_eq_true, if_false, bne_self_eq_false]
    by_cases hc : VR fl ∧ 0 ≤ mi ∧ mi ≤ 1799
    · have hfr : freeR fl mi = ((fr fl mi fl.length).2, true) := by unfold freeR; rw [if_pos hc]
      have hok := fr_ok fl mi fl.length (Nat.le_refl _)
      have hv := fr_valid (mi := mi) hc.1
      have hlen := hok.len
      rw [hfr]
      simp only [if_true, validRides_eq _ (show (fr fl mi fl.length).2.length ≤ 1000 by omega), hv, decide_true, Bool.not_true, Option.bind_some, Bool.false_eq_true, if_false]
      rw [free_loop (fl, mi) ((fr fl mi fl.length).2, true) (by show (fr fl mi fl.length).2.length ≤ 1000; omega) (fun k x hx => by
        obtain ⟨y, hy, _, _, q⟩ := hok.same k x hx
        exact ⟨y, hy, q⟩)]
      rfl
    · have hfr : freeR fl mi = ([], false) := by unfold freeR; rw [if_neg hc]
      rw [hfr]
      simp only [Bool.false_eq_true, if_false, Option.bind_some]
      rw [free_loop (fl, mi) ([], false) (by simp) (fun k x hx => by simp at hx)]
      rfl
  have hw : (tickR p l).2.1.length ≤ 1000 := by
    unfold tickR
    split
    · rename_i h
      obtain ⟨hR, hPl, _⟩ := PD_rdy h.1 h.2
      have h1 := K_len p.Week (PD p l)
      have := hR.len
      simp only; omega
    · simp
  have hcl : (capsR p l).1.length ≤ 1000 := by
    unfold capsR
    split
    · rename_i h
      have := caps_len p l h.2.2.1
      simp only; omega
    · simp
  simp only [rInts_refl _ (show (tickR p l).2.1.length ≤ 1000000 by omega), Option.bind_some, Bool.not_true, Bool.false_eq_true, if_false, iCaps_eq p l (by omega) (by omega), sCaps_eq p l (by omega) (by omega), beq_self_eq_true, rInts_refl _ (show (capsR p l).1.length ≤ 1000000 by omega)]
  by_cases hc : VP p ∧ VR l
  · have ht : tickR p l = (S p.Week (PD p l), K p.Week (PD p l), true) := by unfold tickR; rw [if_pos hc]
    have hcp : capsR p l = (caps p l, (caps p l).sum, true) := by unfold capsR; rw [if_pos hc]
    obtain ⟨hR, hPl, hpl⟩ := PD_rdy hc.1 hc.2
    have hSp := S_plain p.Week (PD p l)
    have hSk := K_cost hc.1.week.1 (PD p l) (fun q hq => (hR.cb q hq).1)
    have hkl := K_len p.Week (PD p l)
    have hRl := hR.len
    have hsum : (caps p l).sum ≤ (l.map (·.Fare)).sum := by
      rw [← sum_costs]; exact sum_map_min _ _
    have hcb := caps_bd hc.1 hc.2
    have hclen := caps_len p l hc.2.2.1
    have hW := hc.1.week
    have hkw : 0 ≤ ((K p.Week (PD p l)).length : Int) * p.Week ∧ ((K p.Week (PD p l)).length : Int) * p.Week ≤ 1000 * 10000 := by
      constructor
      · exact Int.mul_nonneg (by omega) hW.1
      · exact Int.mul_le_mul (by omega) hW.2 hW.1 (by omega)
    have ew : w64 (((K p.Week (PD p l)).length : Int) * p.Week) = ((K p.Week (PD p l)).length : Int) * p.Week := w64_id (by omega)
    have d1 : decide ((caps p l).sum < S p.Week (PD p l)) = false := by simp; omega
    have d2 : decide ((l.map (·.Fare)).sum < (caps p l).sum) = false := by simp; omega
    have d3 : decide (S p.Week (PD p l) < ((K p.Week (PD p l)).length : Int) * p.Week) = false := by simp; omega
    have hfe := fares_eq (p, l) hc.2
    rw [ht, hcp]
    simp only [beq_self_eq_true, Bool.not_true, Bool.false_eq_true, if_false, if_true, hfe, Option.bind_some, d1, d2, rSum_eq _ (show (caps p l).length ≤ 1000 by omega) (fun x hx => by have := hcb x hx; omega), bne_self_eq_false, ew, d3]
    rw [weeks_loop (S p.Week (PD p l), K p.Week (PD p l), true) (by show (K p.Week (PD p l)).length ≤ 1000; omega) (K_space p.Week (PD p l) hR.up) (fun x hx => by
      obtain ⟨q, hq, e⟩ := K_mem p.Week (PD p l) x hx
      have := hR.db q hq
      omega)]
    simp only [flb_go]
    exact tail
  · have ht : tickR p l = (0, [], false) := by unfold tickR; rw [if_neg hc]
    have hcp : capsR p l = ([], 0, false) := by unfold capsR; rw [if_neg hc]
    rw [ht, hcp]
    simp only [beq_self_eq_true, Bool.not_true, Bool.false_eq_true, if_false, flb_go, Option.bind_some]
    exact tail
end Go.Proofs.Ytmpgpfekekobfaa
