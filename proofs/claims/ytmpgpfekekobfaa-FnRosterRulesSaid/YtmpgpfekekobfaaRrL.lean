/- The plain law: what the models compute, no program in sight. -/
import Derived.Test.YtmpgpfekekobfaaRrM
import Derived.Test.YtmpgpfekekobfaaAbPm2
namespace Go.Proofs.Ytmpgpfekekobfaa
open Go Go.Ab
set_option linter.unusedVariables false
set_option linter.unusedSimpArgs false
/-! The cursor of the draws: it always answers. -/
def Cur (k : Nat) (c : l1Cur) : Prop := 0 ≤ c.at_ ∧ c.at_ ≤ k
theorem Cur.mono {k k' : Nat} {c : l1Cur} (h : Cur k c) (hk : k ≤ k') : Cur k' c := ⟨h.1, by have := h.2; omega⟩
theorem next_ok {k : Nat} {c : l1Cur} (h : Cur k c) (hk : k ≤ 4000000000) : ∃ r, s_l1Cur_next c = some r ∧ Cur (k + 1) r.2 ∧ 0 ≤ r.1 ∧ r.1 ≤ 255 := by
  obtain ⟨h0, h1⟩ := h
  have hw : w64 (c.at_ + 1) = c.at_ + 1 := w64_id (by omega)
  have hcur : ∀ s, Cur (k + 1) ⟨c.code_, w64 (c.at_ + 1), s⟩ := fun s => by rw [hw]; exact ⟨by show 0 ≤ c.at_ + 1; omega, by show c.at_ + 1 ≤ _; omega⟩
  unfold s_l1Cur_next
  have hv : ∃ v, (if (decide (c.at_ < (c.code_.length : Int))) = true then (idx c.code_ c.at_).bind fun e1 => some (w64 ((e1.toNat : Int))) else some 0) = some v ∧ 0 ≤ v ∧ v ≤ 255 := by
    by_cases hlt : c.at_ < c.code_.length
    · obtain ⟨x, hx, _, _⟩ := idx_lt h0 hlt
      have := x.toNat_lt
      refine ⟨(x.toNat : Int), ?_, by omega, by omega⟩
      simp only [hlt, decide_true, if_true, hx, Option.bind_some]
      rw [w64_id (by omega)]
    · exact ⟨0, by simp [hlt], by omega, by omega⟩
  obtain ⟨v, hv, hv0, hv1⟩ := hv
  rw [hv]
  simp only [Option.bind_some]
  split
  · exact ⟨_, rfl, hcur _, hv0, hv1⟩
  · rw [chk_of (by omega)]
    exact ⟨_, rfl, hcur _, and255 _⟩
theorem pick_ok {k : Nat} {c : l1Cur} (n : Int) (h : Cur k c) (hk : k ≤ 3000000000) : ∃ r, s_l1Cur_pick c n = some r ∧ Cur (k + 2) r.2 ∧ 0 ≤ r.1 ∧ (r.1 < n ∨ r.1 = 0) := by
  unfold s_l1Cur_pick
  by_cases hn : n ≤ 1
  · exact ⟨(0, c), by simp [hn], h.mono (by omega), by simp, .inr rfl⟩
  · obtain ⟨r, hr, hc, h0, h1⟩ := next_ok h (by omega)
    have hn' : decide (n ≤ 1) = false := by simpa using hn
    simp only [hn', Bool.false_eq_true, if_false, hr, Option.bind_some]
    have hne : chk (n ≠ 0) = some () := chk_of (by omega)
    by_cases h2 : 200 < n
    · obtain ⟨r', hr', hc', h0', h1'⟩ := next_ok hc (by omega)
      have e1 : w64 (r.1 * 256) = r.1 * 256 := w64_id (by omega)
      have e2 : w64 (r.1 * 256 + r'.1) = r.1 * 256 + r'.1 := w64_id (by omega)
      have h3 := tmod_rng (a := r.1 * 256 + r'.1) (b := n) (by omega) (by omega)
      simp only [h2, decide_true, if_true, hr', Option.bind_some, hne, e1, e2]
      exact ⟨_, rfl, hc'.mono (by omega), h3.1, .inl h3.2⟩
    · have h2' : decide (200 < n) = false := by simpa using h2
      have h3 := tmod_rng (a := r.1) (b := n) (by omega) (by omega)
      simp only [h2', Bool.false_eq_true, if_false, Option.bind_some, hne]
      exact ⟨_, rfl, hc.mono (by omega), h3.1, .inl h3.2⟩
theorem amongw_ok {k : Nat} {c : l1Cur} (l : List Int) (hl : l ≠ []) (h : Cur k c) (hk : k ≤ 3000000000) : ∃ r, s_l1Cur_among_w c l = some r ∧ Cur (k + 2) r.2 ∧ r.1 ∈ l := by
  unfold s_l1Cur_among_w
  obtain ⟨r, hr, hc, h0, h1⟩ := pick_ok (l.length : Int) h hk
  have hpos : 0 < l.length := List.length_pos_iff.2 hl
  obtain ⟨x, hx, _, hm⟩ := idx_lt (l := l) h0 (by omega)
  simp only [hr, Option.bind_some, hx]
  exact ⟨_, rfl, hc, hm⟩
theorem among_ok {k : Nat} {c : l1Cur} (l : List Int) (hl : l ≠ []) (h : Cur k c) (hk : k ≤ 3000000000) : ∃ r, s_l1Cur_among c l = some r ∧ Cur (k + 2) r.2 ∧ r.1 ∈ l := by
  have : s_l1Cur_among c l = s_l1Cur_among_w c l := rfl
  rw [this]; exact amongw_ok l hl h hk
theorem one_ok {k : Nat} {c : l1Cur} (n : Int) (h : Cur k c) (hk : k ≤ 3000000000) : ∃ r, s_l1Cur_one c n = some r ∧ Cur (k + 2) r.2 := by
  unfold s_l1Cur_one
  obtain ⟨r, hr, hc, _, _⟩ := pick_ok n h hk
  simp only [hr, Option.bind_some]
  exact ⟨_, rfl, hc⟩
theorem cur0 (code : List UInt8) : Cur 0 ⟨code, 0, ⟨0⟩⟩ := ⟨by show (0 : Int) ≤ 0; omega, by show (0 : Int) ≤ _; omega⟩
/-! Rosters: when they are valid, for the program and for the reference. -/
theorem within_eq (n lo hi : Int) : i_within n lo hi = some (decide (lo ≤ n ∧ n ≤ hi)) := by
  unfold i_within
  by_cases h : lo ≤ n <;> simp [h]
theorem l1In_eq (n lo hi : Int) : s_l1In n lo hi = some (decide (lo ≤ n ∧ n ≤ hi)) := by
  unfold s_l1In
  by_cases h : lo ≤ n <;> simp [h]
def SpanOK (s : Span) : Prop := (0 ≤ s.From ∧ s.From ≤ 1799) ∧ (0 ≤ s.To ∧ s.To ≤ 1799) ∧ s.From ≤ s.To
noncomputable instance (s : Span) : Decidable (SpanOK s) := Classical.propDecidable _
theorem isSpan_eq (s : Span) : i_isSpan s = some (decide (SpanOK s)) := by
  unfold i_isSpan i_IsValidTime
  simp only [within_eq, Option.bind_some]
  unfold SpanOK
  by_cases h1 : 0 ≤ s.From ∧ s.From ≤ 1799
  · by_cases h2 : 0 ≤ s.To ∧ s.To ≤ 1799
    · by_cases h3 : s.From ≤ s.To <;> simp [h1, h2, h3]
    · simp [h1, h2]
  · simp [h1]
theorem l4Span_eq (s : Span) : s_l4Span s = some (decide (SpanOK s)) := by
  unfold s_l4Span s_l4Time
  simp only [l1In_eq, Option.bind_some]
  unfold SpanOK
  by_cases h1 : 0 ≤ s.From ∧ s.From ≤ 1799
  · by_cases h2 : 0 ≤ s.To ∧ s.To ≤ 1799
    · by_cases h3 : s.From ≤ s.To <;> simp [h1, h2, h3]
    · simp [h1, h2]
  · simp [h1]
def SpansP (l : List Span) : Prop := ∀ (i : Nat) s, l[i]? = some s → SpanOK s
def RowP (sh : Nat) (p : List Int) : Prop := ∀ (j : Nat) e, p[j]? = some e → -1 ≤ e ∧ e ≤ (sh : Int) - 1
def PlanP (r : Roster) : Prop := ∃ e0, r.Plan[0]? = some e0 ∧ (1 ≤ e0.length ∧ e0.length ≤ 14) ∧ ∀ (i : Nat) p, r.Plan[i]? = some p → p.length = e0.length ∧ RowP r.Shifts.length p
def RulesP (r : RosterRules) : Prop := (0 ≤ r.MinRest ∧ r.MinRest ≤ 1440) ∧ (1 ≤ r.MaxRow ∧ r.MaxRow ≤ 14) ∧ 0 ≤ r.MaxWeek ∧ r.MaxWeek ≤ 10080
def GoodR (r : Roster) : Prop := (1 ≤ r.Shifts.length ∧ r.Shifts.length ≤ 8) ∧ SpansP r.Shifts ∧ RulesP r.Rules ∧ (1 ≤ r.Plan.length ∧ r.Plan.length ≤ 6) ∧ PlanP r
noncomputable instance (l : List Span) : Decidable (SpansP l) := Classical.propDecidable _
noncomputable instance (sh : Nat) (p : List Int) : Decidable (RowP sh p) := Classical.propDecidable _
noncomputable instance (r : Roster) : Decidable (GoodR r) := Classical.propDecidable _
def RB (r : Roster) : Prop := r.Shifts.length ≤ 1000 ∧ r.Plan.length ≤ 1000 ∧ ∀ p ∈ r.Plan, p.length ≤ 1000

theorem areSpans_eq (l : List Span) (h : l.length ≤ 8) : i_areSpans l = some (decide (SpansP l)) := by
  unfold i_areSpans
  have d : decide ((20 : Int) < (l.length : Int)) = false := by simp; omega
  simp only [d, Bool.false_eq_true, if_false]
  rw [all_val (hd := Classical.propDecidable _) l (fun _ s => SpanOK s) (fun i x hx => ?_) (by unfold i_areSpans_L1; simp)]
  · by_cases b : ∀ (i : Nat) s, l[i]? = some s → SpanOK s
    · rw [if_pos b]; have : SpansP l := b; simp [this]
    · rw [if_neg b]; have : ¬ SpansP l := b; simp [this]
  · have hi := (List.getElem?_eq_some_iff.1 hx).1
    unfold i_areSpans_L1
    have hlt : decide ((i : Int) < (l.length : Int)) = true := by simp; omega
    simp only [hlt, if_true, idx_nat, hx, Option.bind_some, isSpan_eq, w64_succ (n := i) (by omega)]
    by_cases b : SpanOK x
    · left; simp [b]
    · right; simp [b]

theorem valid_eq (r : Roster) (h : RB r) : i_IsValidRoster r = some (decide (GoodR r)) := by
  obtain ⟨h1, h2, h3⟩ := h
  unfold i_IsValidRoster
  simp only [within_eq, Option.bind_some]
  by_cases a1 : 1 ≤ r.Shifts.length ∧ r.Shifts.length ≤ 8
  · have d1 : decide ((1 : Int) ≤ (r.Shifts.length : Int) ∧ (r.Shifts.length : Int) ≤ 8) = true := by simp; omega
    have esh : w64 ((r.Shifts.length : Int) - 1) = (r.Shifts.length : Int) - 1 := w64_id (by omega)
    simp only [d1, Bool.not_true, Bool.false_eq_true, if_false, areSpans_eq r.Shifts a1.2, Option.bind_some]
    by_cases a2 : SpansP r.Shifts
    · simp only [a2, decide_true, Bool.not_true, Bool.false_eq_true, if_false]
      by_cases a3 : RulesP r.Rules
      · obtain ⟨q1, q2, q3⟩ := a3
        simp only [q1, q2, q3, and_self, decide_true, Bool.not_true, Bool.false_eq_true, if_false, Option.bind_some]
        by_cases a4 : 1 ≤ r.Plan.length ∧ r.Plan.length ≤ 6
        · have d4 : decide ((1 : Int) ≤ (r.Plan.length : Int) ∧ (r.Plan.length : Int) ≤ 6) = true := by simp; omega
          obtain ⟨e0, he0⟩ := get_ex (l := r.Plan) (i := 0) (by omega)
          have hidx0 : idx r.Plan 0 = some e0 := by rw [show (0 : Int) = ((0 : Nat) : Int) from rfl, idx_nat]; exact he0
          simp only [d4, Bool.not_true, Bool.false_eq_true, if_false, hidx0, Option.bind_some]
          by_cases a5 : 1 ≤ e0.length ∧ e0.length ≤ 14
          · have d5 : decide ((1 : Int) ≤ (e0.length : Int) ∧ (e0.length : Int) ≤ 14) = true := by simp; omega
            simp only [d5, Bool.not_true, Bool.false_eq_true, if_false]
            rw [all_val (hd := Classical.propDecidable _) r.Plan (fun _ p => p.length = e0.length ∧ RowP r.Shifts.length p) (fun i x hx => ?_) (by unfold i_IsValidRoster_L2; simp)]
            · by_cases b : ∀ (i : Nat) p, r.Plan[i]? = some p → p.length = e0.length ∧ RowP r.Shifts.length p
              · rw [if_pos b]
                have : GoodR r := ⟨a1, a2, ⟨q1, q2, q3⟩, a4, e0, he0, a5, b⟩
                simp [this]
              · rw [if_neg b]
                have : ¬ GoodR r := fun hg => b fun i p hp => by
                  obtain ⟨e0', he0', _, hb⟩ := hg.2.2.2.2
                  rw [he0] at he0'; cases he0'
                  exact hb i p hp
                simp [this]
            · have hi := (List.getElem?_eq_some_iff.1 hx).1
              have hxl := h3 x (List.mem_of_getElem? hx)
              unfold i_IsValidRoster_L2
              have hlt : decide ((i : Int) < (r.Plan.length : Int)) = true := by simp; omega
              simp only [hlt, if_true, idx_nat, hx, hidx0, Option.bind_some]
              by_cases b1 : x.length = e0.length
              · have d6 : ((x.length : Int) != (e0.length : Int)) = false := by simp [b1]
                simp only [d6, Bool.false_eq_true, if_false]
                rw [all_valR (hd := Classical.propDecidable _) (Lp.dn (.ret false)) x (fun _ e => -1 ≤ e ∧ e ≤ (r.Shifts.length : Int) - 1) (fun j y hy => ?_) (by unfold i_IsValidRoster_L1; simp)]
                · by_cases b2 : ∀ (j : Nat) e, x[j]? = some e → -1 ≤ e ∧ e ≤ (r.Shifts.length : Int) - 1
                  · rw [if_pos b2]
                    left
                    refine ⟨by rw [w64_succ (n := i) (by omega)], b1, b2⟩
                  · rw [if_neg b2]
                    right
                    exact ⟨rfl, fun hc => b2 hc.2⟩
                · have hj := (List.getElem?_eq_some_iff.1 hy).1
                  unfold i_IsValidRoster_L1
                  have hlt : decide ((j : Int) < (x.length : Int)) = true := by simp; omega
                  simp only [hlt, if_true, idx_nat, hy, Option.bind_some, within_eq, esh, w64_succ (n := j) (by omega)]
                  by_cases b : -1 ≤ y ∧ y ≤ (r.Shifts.length : Int) - 1
                  · left; simp [b]
                  · right; simp [b]
              · have d6 : ((x.length : Int) != (e0.length : Int)) = true := by simp; omega
                simp only [d6, if_true]
                right
                exact ⟨trivial, fun hc => b1 hc.1⟩
          · have d5 : decide ((1 : Int) ≤ (e0.length : Int) ∧ (e0.length : Int) ≤ 14) = false := by simp; omega
            have : ¬ GoodR r := fun hg => by
              obtain ⟨e0', he0', hl, _⟩ := hg.2.2.2.2
              rw [he0] at he0'; cases he0'
              exact a5 hl
            simp [d5, this]
        · have d4 : decide ((1 : Int) ≤ (r.Plan.length : Int) ∧ (r.Plan.length : Int) ≤ 6) = false := by simp; omega
          have : ¬ GoodR r := fun hg => a4 hg.2.2.2.1
          simp [d4, this]
      · have : ¬ GoodR r := fun hg => a3 hg.2.2.1
        have hf : (if (!decide (0 ≤ r.Rules.MinRest ∧ r.Rules.MinRest ≤ 1440)) = true then some true else if (!decide (1 ≤ r.Rules.MaxRow ∧ r.Rules.MaxRow ≤ 14)) = true then some true else some (!decide (0 ≤ r.Rules.MaxWeek ∧ r.Rules.MaxWeek ≤ 10080))) = some true := by
          by_cases c1 : 0 ≤ r.Rules.MinRest ∧ r.Rules.MinRest ≤ 1440
          · by_cases c2 : 1 ≤ r.Rules.MaxRow ∧ r.Rules.MaxRow ≤ 14
            · have c3 : ¬ (0 ≤ r.Rules.MaxWeek ∧ r.Rules.MaxWeek ≤ 10080) := fun c3 => a3 ⟨c1, c2, c3⟩
              simp only [c1, c2, c3, and_self, decide_true, decide_false, Bool.not_true, Bool.not_false, Bool.false_eq_true, if_false]
            · simp [c1, c2]
          · simp [c1]
        rw [hf]
        simp [this]
    · have : ¬ GoodR r := fun hg => a2 hg.2.1
      simp [a2, this]
  · have d1 : decide ((1 : Int) ≤ (r.Shifts.length : Int) ∧ (r.Shifts.length : Int) ≤ 8) = false := by simp; omega
    have : ¬ GoodR r := fun hg => a1 hg.1
    simp [d1, this]

theorem good_eq (r : Roster) (h : RB r) : s_l14Good r = some (decide (GoodR r)) := by
  obtain ⟨h1, h2, h3⟩ := h
  unfold s_l14Good
  simp only [l1In_eq, Option.bind_some]
  by_cases a1 : 1 ≤ r.Shifts.length ∧ r.Shifts.length ≤ 8
  · have d1 : decide ((1 : Int) ≤ (r.Shifts.length : Int) ∧ (r.Shifts.length : Int) ≤ 8) = true := by simp; omega
    have esh : w64 ((r.Shifts.length : Int) - 1) = (r.Shifts.length : Int) - 1 := w64_id (by omega)
    simp only [d1, Bool.not_true, Bool.false_eq_true, if_false]
    by_cases a4 : 1 ≤ r.Plan.length ∧ r.Plan.length ≤ 6
    · have d4 : decide ((1 : Int) ≤ (r.Plan.length : Int) ∧ (r.Plan.length : Int) ≤ 6) = true := by simp; omega
      obtain ⟨e0, he0⟩ := get_ex (l := r.Plan) (i := 0) (by omega)
      have hidx0 : idx r.Plan 0 = some e0 := by rw [show (0 : Int) = ((0 : Nat) : Int) from rfl, idx_nat]; exact he0
      simp only [d4, Bool.not_true, Option.bind_some, Bool.false_eq_true, if_false]
      rw [all_val (hd := Classical.propDecidable _) r.Shifts (fun _ s => SpanOK s) (fun i x hx => ?_) (by unfold s_l14Good_L1; simp)]
      · rw [all_val (hd := Classical.propDecidable _) r.Plan (fun _ p => (1 ≤ p.length ∧ p.length ≤ 14) ∧ p.length = e0.length ∧ RowP r.Shifts.length p) (fun i x hx => ?_) (by unfold s_l14Good_L3; simp)]
        · by_cases a2 : ∀ (i : Nat) s, r.Shifts[i]? = some s → SpanOK s
          · rw [if_pos a2]
            by_cases b : ∀ (i : Nat) p, r.Plan[i]? = some p → (1 ≤ p.length ∧ p.length ≤ 14) ∧ p.length = e0.length ∧ RowP r.Shifts.length p
            · rw [if_pos b]
              have hP : PlanP r := ⟨e0, he0, (b 0 e0 he0).1, fun i p hp => (b i p hp).2⟩
              by_cases c1 : 0 ≤ r.Rules.MinRest ∧ r.Rules.MinRest ≤ 1440
              · by_cases c2 : 1 ≤ r.Rules.MaxRow ∧ r.Rules.MaxRow ≤ 14
                · by_cases c3 : 0 ≤ r.Rules.MaxWeek ∧ r.Rules.MaxWeek ≤ 10080
                  · have : GoodR r := ⟨a1, a2, ⟨c1, c2, c3⟩, a4, hP⟩
                    simp [c1, c2, c3, this]
                  · have : ¬ GoodR r := fun hg => c3 hg.2.2.1.2.2
                    simp only [c1, c2, c3, and_self, decide_true, decide_false, if_true, Option.bind_some, this]
                · have : ¬ GoodR r := fun hg => c2 hg.2.2.1.2.1
                  simp [c1, c2, this]
              · have : ¬ GoodR r := fun hg => c1 hg.2.2.1.1
                simp [c1, this]
            · rw [if_neg b]
              have : ¬ GoodR r := fun hg => b fun i p hp => by
                obtain ⟨e0', he0', hl, hb⟩ := hg.2.2.2.2
                rw [he0] at he0'; cases he0'
                have := hb i p hp
                exact ⟨by rw [this.1]; exact hl, this⟩
              simp [this]
          · rw [if_neg a2]
            have : ¬ GoodR r := fun hg => a2 hg.2.1
            simp [this]
        · have hi := (List.getElem?_eq_some_iff.1 hx).1
          have hxl := h3 x (List.mem_of_getElem? hx)
          unfold s_l14Good_L3
          have hlt : decide ((i : Int) < (r.Plan.length : Int)) = true := by simp; omega
          simp only [hlt, if_true, idx_nat, hx, hidx0, Option.bind_some, l1In_eq]
          by_cases b0 : 1 ≤ x.length ∧ x.length ≤ 14
          · have d0 : decide ((1 : Int) ≤ (x.length : Int) ∧ (x.length : Int) ≤ 14) = true := by simp; omega
            simp only [d0, Bool.not_true, Bool.false_eq_true, if_false]
            by_cases b1 : x.length = e0.length
            · have d6 : ((x.length : Int) != (e0.length : Int)) = false := by simp [b1]
              simp only [d6, Bool.false_eq_true, if_false, Option.bind_some]
              rw [all_valR (hd := Classical.propDecidable _) (Lp.dn (.ret false)) x (fun _ e => -1 ≤ e ∧ e ≤ (r.Shifts.length : Int) - 1) (fun j y hy => ?_) (by unfold s_l14Good_L2; simp [idx_nat, hx])]
              · by_cases b2 : ∀ (j : Nat) e, x[j]? = some e → -1 ≤ e ∧ e ≤ (r.Shifts.length : Int) - 1
                · rw [if_pos b2]
                  left
                  refine ⟨by rw [w64_succ (n := i) (by omega)], b0, b1, b2⟩
                · rw [if_neg b2]
                  right
                  exact ⟨rfl, fun hc => b2 hc.2.2⟩
              · have hj := (List.getElem?_eq_some_iff.1 hy).1
                unfold s_l14Good_L2
                have hlt : decide ((j : Int) < (x.length : Int)) = true := by simp; omega
                simp only [hlt, if_true, idx_nat, hx, hy, Option.bind_some, l1In_eq, esh, w64_succ (n := j) (by omega)]
                by_cases b : -1 ≤ y ∧ y ≤ (r.Shifts.length : Int) - 1
                · left; simp [b]
                · right; simp [b]
            · have d6 : ((x.length : Int) != (e0.length : Int)) = true := by simp; omega
              simp only [d6, if_true, Option.bind_some]
              right
              exact ⟨trivial, fun hc => b1 hc.2.1⟩
          · have d0 : decide ((1 : Int) ≤ (x.length : Int) ∧ (x.length : Int) ≤ 14) = false := by simp; omega
            simp only [d0, Bool.not_false, if_true, Option.bind_some]
            right
            exact ⟨trivial, fun hc => b0 hc.1⟩
      · have hi := (List.getElem?_eq_some_iff.1 hx).1
        unfold s_l14Good_L1
        have hlt : decide ((i : Int) < (r.Shifts.length : Int)) = true := by simp; omega
        simp only [hlt, if_true, idx_nat, hx, Option.bind_some, l4Span_eq, w64_succ (n := i) (by omega)]
        by_cases b : SpanOK x
        · left; simp [b]
        · right; simp [b]
    · have d4 : decide ((1 : Int) ≤ (r.Plan.length : Int) ∧ (r.Plan.length : Int) ≤ 6) = false := by simp; omega
      have : ¬ GoodR r := fun hg => a4 hg.2.2.2.1
      simp [d4, this]
  · have d1 : decide ((1 : Int) ≤ (r.Shifts.length : Int) ∧ (r.Shifts.length : Int) ≤ 8) = false := by simp; omega
    have : ¬ GoodR r := fun hg => a1 hg.1
    simp [d1, this]
/-! A driver's weeks, rests and rows. -/
theorem least_eq (a b : Int) : s_l1Least a b = some (if a < b then a else b) := by
  unfold s_l1Least
  by_cases h : a < b <;> simp [h]
theorem most_eq (a b : Int) : s_l1Most a b = some (if b < a then a else b) := by
  unfold s_l1Most
  by_cases h : b < a <;> simp [h]
theorem length_eq : s_l14Length = i_minutesOn := rfl
theorem week1_eq (r : Roster) (d : Int) (e : List Int) (k : Int) : s_l14Week_L1 r d e k = i_busiestWeek_L1 r d e k := by
  funext x
  obtain ⟨v1, v2⟩ := x
  unfold s_l14Week_L1 i_busiestWeek_L1
  have hm : (if w64 (k + 7) < (e.length : Int) then w64 (k + 7) else (e.length : Int)) = (if (e.length : Int) < w64 (k + 7) then (e.length : Int) else w64 (k + 7)) := by
    by_cases h : w64 (k + 7) < (e.length : Int)
    · rw [if_pos h, if_neg (by omega)]
    · by_cases h2 : (e.length : Int) < w64 (k + 7)
      · rw [if_neg h, if_pos h2]
      · rw [if_neg h, if_neg h2]; omega
  simp only [least_eq, Option.bind_some, hm, length_eq]
theorem week_eq (r : Roster) (d : Int) : s_l14Week r d = i_busiestWeek r d := by
  unfold s_l14Week i_busiestWeek
  have : ∀ e, s_l14Week_L2 r d e = i_busiestWeek_L2 r d e := fun e => by
    funext x
    obtain ⟨n, s, k⟩ := x
    unfold s_l14Week_L2 i_busiestWeek_L2
    simp only [week1_eq]
  simp only [this]

theorem row_facts {r : Roster} (hg : GoodR r) {d : Nat} {p : List Int} (hp : r.Plan[d]? = some p) : (1 ≤ p.length ∧ p.length ≤ 14) ∧ ∀ (j : Nat) e, p[j]? = some e → -1 ≤ e ∧ e ≤ (r.Shifts.length : Int) - 1 := by
  obtain ⟨e0, he0, hl, hb⟩ := hg.2.2.2.2
  have := hb d p hp
  exact ⟨by rw [this.1]; exact hl, this.2⟩
theorem shift_of {r : Roster} (hg : GoodR r) {d : Nat} {p : List Int} (hp : r.Plan[d]? = some p) {j : Nat} {e : Int} (he : p[j]? = some e) (h0 : 0 ≤ e) : ∃ s, idx r.Shifts e = some s ∧ SpanOK s := by
  have := (row_facts hg hp).2 j e he
  obtain ⟨s, hs, hs2, _⟩ := idx_lt (l := r.Shifts) (i := e) h0 (by omega)
  exact ⟨s, hs, hg.2.1 _ s hs2⟩
theorem minutes_ok {r : Roster} (hg : GoodR r) {d : Nat} {p : List Int} (hp : r.Plan[d]? = some p) {j : Nat} (hj : j < p.length) : ∃ m, i_minutesOn r (d : Int) (j : Int) = some m := by
  obtain ⟨e, he⟩ := get_ex hj
  unfold i_minutesOn
  simp only [idx_nat, hp, he, Option.bind_some]
  by_cases h : e < 0
  · simp [h]
  · obtain ⟨s, hs, _⟩ := shift_of hg hp he (by omega)
    simp [h, hs]
theorem week_ok {r : Roster} (hg : GoodR r) {d : Nat} {p : List Int} (hp : r.Plan[d]? = some p) : ∃ w, i_busiestWeek r (d : Int) = some w := by
  unfold i_busiestWeek
  simp only [idx_nat, hp, Option.bind_some]
  obtain ⟨l1, l2⟩ := (row_facts hg hp).1
  have inner : ∀ k : Nat, k ≤ p.length → ∃ b, iter (i_busiestWeek_L1 r (d : Int) p (k : Int)) (0, (k : Int)) = some b := by
    intro k hk
    have w7 : w64 ((k : Int) + 7) = (k : Int) + 7 := w64_id (by omega)
    have h := iter_rule (step := i_busiestWeek_L1 r (d : Int) p (k : Int)) (fun m a => ∃ v : Nat, a.2 = (v : Int) ∧ m + v = k + 14) (fun _ => True) ?_ (k := 14) (a := (0, (k : Int))) ⟨k, rfl, by omega⟩
    · obtain ⟨b, hb, _⟩ := h; exact ⟨b, hb⟩
    rintro m ⟨s, v⟩ ⟨i, hv, hm⟩
    simp only at hv
    subst hv
    unfold i_busiestWeek_L1
    simp only [w7]
    by_cases hc : (i : Int) < (if (p.length : Int) < (k : Int) + 7 then (p.length : Int) else (k : Int) + 7)
    · left
      have hip : i < p.length ∧ i < k + 7 := by
        split at hc <;> omega
      obtain ⟨mm, hmm⟩ := minutes_ok hg hp hip.1
      refine ⟨_, m - 1, by simp only [hc, decide_true, if_true, hmm, Option.bind_some, w64_succ (n := i) (by omega)]; rfl, by omega, i + 1, rfl, by omega⟩
    · right
      exact ⟨_, by simp only [hc, decide_false, Bool.false_eq_true, if_false]; rfl, trivial⟩
  have h := iter_rule (step := i_busiestWeek_L2 r (d : Int) p) (fun m a => ∃ k : Nat, a.2.2 = (k : Int) ∧ m + k = 20 ∧ k ≤ p.length) (fun _ => True) ?_ (k := 20) (a := (0, -1, 0)) ⟨0, rfl, by omega, by omega⟩
  · obtain ⟨b, hb, _⟩ := h
    rw [hb]
    exact ⟨_, rfl⟩
  rintro m ⟨f, s, day⟩ ⟨k, hk, hm, hkl⟩
  simp only at hk
  subst hk
  unfold i_busiestWeek_L2
  have w7 : w64 ((k : Int) + 7) = (k : Int) + 7 := w64_id (by omega)
  simp only [w7]
  obtain ⟨b, hb⟩ := inner k hkl
  have hc : ∃ c : Bool, (if ((k : Int) == 0) = true then some true else some (decide ((k : Int) + 7 ≤ (p.length : Int)))) = some c ∧ (c = true → k + 1 ≤ p.length) := by
    by_cases h0 : k = 0
    · exact ⟨true, by simp [h0], fun _ => by omega⟩
    · have : ((k : Int) == 0) = false := by simp; omega
      refine ⟨decide ((k : Int) + 7 ≤ (p.length : Int)), by simp [this], fun h => ?_⟩
      have := of_decide_eq_true h
      omega
  obtain ⟨c, hc, hc2⟩ := hc
  rw [hc]
  simp only [Option.bind_some]
  cases c with
  | false => right; exact ⟨_, by simp; rfl, trivial⟩
  | true =>
    left
    have := hc2 rfl
    by_cases h2 : s < b
    · exact ⟨_, m - 1, by simp only [if_true, hb, Option.bind_some, h2, decide_true, w64_succ (n := k) (by omega)]; rfl, by omega, k + 1, rfl, by omega, this⟩
    · exact ⟨_, m - 1, by simp only [if_true, hb, Option.bind_some, h2, decide_false, Bool.false_eq_true, if_false, w64_succ (n := k) (by omega)]; rfl, by omega, k + 1, rfl, by omega, this⟩

/-- The two ways of remembering the last shift. -/
def Rel (r : Roster) (p : List Int) (a b : Int × Int × List Int) : Prop :=
  ∃ v : Nat, a.2.1 = (v : Int) ∧ b.2.1 = (v : Int) ∧ v ≤ p.length ∧ a.2.2 = b.2.2 ∧ a.2.2.length ≤ v ∧
    ((a.1 = -1 ∧ b.1 = -1000000) ∨ ∃ (s : Nat) (e : Int) (sp : Span), a.1 = (s : Int) ∧ s < v ∧ p[s]? = some e ∧ 0 ≤ e ∧ idx r.Shifts e = some sp ∧ SpanOK sp ∧ b.1 = 1440 * (s : Int) + sp.To)
theorem rest_step {r : Roster} (hg : GoodR r) {d : Nat} {p : List Int} (hp : r.Plan[d]? = some p) (a b : Int × Int × List Int) (hR : Rel r p a b) : (∃ a' b', i_brokenRests_L1 r (d : Int) p a = some (.nx a') ∧ s_l14Rests_L1 r (d : Int) b = some (.nx b') ∧ Rel r p a' b' ∧ a'.2.1 = a.2.1 + 1 ∧ a.2.1 < p.length) ∨
    ∃ x, i_brokenRests_L1 r (d : Int) p a = some (.dn x) ∧ s_l14Rests_L1 r (d : Int) b = some (.dn x) ∧ x.length ≤ 14 := by
  obtain ⟨s, va, day⟩ := a
  obtain ⟨t, vb, day'⟩ := b
  obtain ⟨v, h1, h2, h3, h4, h5, h6⟩ := hR
  simp only at h1 h2 h4 h5 h6
  subst h1; subst h2; subst h4
  obtain ⟨l1, l2⟩ := (row_facts hg hp).1
  obtain ⟨q1, q2, q3⟩ := hg.2.2.1
  unfold i_brokenRests_L1 s_l14Rests_L1
  simp only [idx_nat, hp, Option.bind_some]
  by_cases hv : v < p.length
  · left
    have hlt : decide ((v : Int) < (p.length : Int)) = true := by simp; omega
    obtain ⟨e, he⟩ := get_ex hv
    have hw := w64_succ (n := v) (by omega)
    simp only [hlt, if_true, he, Option.bind_some, hw]
    by_cases he0 : e < 0
    · refine ⟨(s, ((v + 1 : Nat) : Int), day), (t, ((v + 1 : Nat) : Int), day), by simp [he0], by simp [he0], ⟨v + 1, rfl, rfl, by omega, rfl, by show day.length ≤ v + 1; omega, ?_⟩, by show ((v + 1 : Nat) : Int) = (v : Int) + 1; omega, by show (v : Int) < _; omega⟩
      rcases h6 with h6 | ⟨s', e', sp, g1, g2, g3⟩
      · exact .inl h6
      · exact .inr ⟨s', e', sp, g1, by omega, g3⟩
    · obtain ⟨sp, hsp, hok⟩ := shift_of hg hp he (by omega)
      obtain ⟨o1, o2, o3⟩ := hok
      have hch : chk (day.length + ([(v : Int)] : List Int).length ≤ 4294967296) = some () := chk_of (by simp; omega)
      have e1 : w64 (1440 * (v : Int)) = 1440 * (v : Int) := w64_id (by omega)
      have e2 : w64 (1440 * (v : Int) + sp.From) = 1440 * (v : Int) + sp.From := w64_id (by omega)
      have e3 : w64 (1440 * (v : Int) + sp.To) = 1440 * (v : Int) + sp.To := w64_id (by omega)
      have fin : ∀ dd : List Int, dd.length ≤ v + 1 → Rel r p ((v : Int), ((v + 1 : Nat) : Int), dd) (1440 * (v : Int) + sp.To, ((v + 1 : Nat) : Int), dd) := fun dd hdd =>
        ⟨v + 1, rfl, rfl, by omega, rfl, hdd, .inr ⟨v, e, sp, rfl, by omega, he, by omega, hsp, ⟨o1, o2, o3⟩, rfl⟩⟩
      have hne : decide (e < 0) = false := by simpa using he0
      simp only [hne, Bool.false_eq_true, if_false, hsp, hch, Option.bind_some, e1, e2, e3]
      rcases h6 with ⟨rfl, rfl⟩ | ⟨s', e', sp', rfl, g2, g3, g4, g5, ⟨g6, g7, g8⟩, rfl⟩
      · have e4 : w64 (1440 * (v : Int) + sp.From - -1000000) = 1440 * (v : Int) + sp.From + 1000000 := by rw [w64_id (by omega)]; omega
        have c1 : decide ((0 : Int) ≤ -1) = false := by decide
        have c2 : decide (1440 * (v : Int) + sp.From + 1000000 < r.Rules.MinRest) = false := by simp; omega
        simp only [c1, e4, c2, Bool.false_eq_true, if_false, Option.bind_some]
        exact ⟨_, _, rfl, rfl, fin day (by omega), by show ((v + 1 : Nat) : Int) = (v : Int) + 1; omega, by show (v : Int) < _; omega⟩
      · have c1 : decide ((0 : Int) ≤ (s' : Int)) = true := by simp
        have f1 : w64 (1440 * (s' : Int)) = 1440 * (s' : Int) := w64_id (by omega)
        have f2 : w64 (1440 * (s' : Int) + sp'.To) = 1440 * (s' : Int) + sp'.To := w64_id (by omega)
        have f3 : w64 (1440 * (s' : Int) + sp'.To + r.Rules.MinRest) = 1440 * (s' : Int) + sp'.To + r.Rules.MinRest := w64_id (by omega)
        have f4 : w64 (1440 * (v : Int) + sp.From - (1440 * (s' : Int) + sp'.To)) = 1440 * (v : Int) + sp.From - (1440 * (s' : Int) + sp'.To) := w64_id (by omega)
        simp only [c1, if_true, idx_nat, g3, g5, Option.bind_some, f1, f2, f3, f4]
        by_cases hc : 1440 * (v : Int) + sp.From < 1440 * (s' : Int) + sp'.To + r.Rules.MinRest
        · have c2 : decide (1440 * (v : Int) + sp.From < 1440 * (s' : Int) + sp'.To + r.Rules.MinRest) = true := by simpa using hc
          have c3 : decide (1440 * (v : Int) + sp.From - (1440 * (s' : Int) + sp'.To) < r.Rules.MinRest) = true := by simp; omega
          simp only [c2, c3, if_true, Option.bind_some]
          exact ⟨_, _, rfl, rfl, fin (day ++ [(v : Int)]) (by simp; omega), by show ((v + 1 : Nat) : Int) = (v : Int) + 1; omega, by show (v : Int) < _; omega⟩
        · have c2 : decide (1440 * (v : Int) + sp.From < 1440 * (s' : Int) + sp'.To + r.Rules.MinRest) = false := by simpa using hc
          have c3 : decide (1440 * (v : Int) + sp.From - (1440 * (s' : Int) + sp'.To) < r.Rules.MinRest) = false := by simp; omega
          simp only [c2, c3, Bool.false_eq_true, if_false, Option.bind_some]
          exact ⟨_, _, rfl, rfl, fin day (by omega), by show ((v + 1 : Nat) : Int) = (v : Int) + 1; omega, by show (v : Int) < _; omega⟩
  · right
    have hlt : decide ((v : Int) < (p.length : Int)) = false := by simp; omega
    exact ⟨day, by simp only [hlt, Bool.false_eq_true, if_false], by simp only [hlt, Bool.false_eq_true, if_false], by omega⟩
theorem rests_ok {r : Roster} (hg : GoodR r) {d : Nat} {p : List Int} (hp : r.Plan[d]? = some p) : ∃ l, i_brokenRests r (d : Int) = some l ∧ s_l14Rests r (d : Int) = some l ∧ l.length ≤ 14 := by
  have h0 : Rel r p (-1, 0, []) (-1000000, 0, []) := ⟨0, rfl, rfl, by omega, rfl, by simp, .inl ⟨rfl, rfl⟩⟩
  have h := iter_rule (step := i_brokenRests_L1 r (d : Int) p) (fun m a => ((m : Int) + a.2.1 = 15 ∧ a.2.1 ≤ p.length) ∧ ∃ b, Rel r p a b) (fun x => x.length ≤ 14) ?_ (k := 15) (a := (-1, 0, [])) ⟨⟨by simp, by simp⟩, _, h0⟩
  · obtain ⟨l, hl, hll⟩ := h
    have hs := iter_sim (step := i_brokenRests_L1 r (d : Int) p) (step' := s_l14Rests_L1 r (d : Int)) (Rel r p) (fun a b hR => by
      rcases rest_step hg hp a b hR with ⟨a', b', h1, h2, h3, _⟩ | ⟨x, h1, h2, _⟩
      · exact .inl ⟨a', b', h1, h2, h3⟩
      · exact .inr ⟨x, h1, h2⟩) h0 hl
    refine ⟨l, ?_, ?_, hll⟩
    · unfold i_brokenRests
      simp only [idx_nat, hp, Option.bind_some, hl]
    · unfold s_l14Rests
      rw [hs]; rfl
  rintro m a ⟨⟨hm, hle⟩, b, hR⟩
  obtain ⟨l1, l2⟩ := (row_facts hg hp).1
  rcases rest_step hg hp a b hR with ⟨a', b', h1, _, h3, h4, h5⟩ | ⟨x, h1, _, h3⟩
  · exact .inl ⟨a', m - 1, h1, by omega, ⟨⟨by omega, by omega⟩, b', h3⟩⟩
  · exact .inr ⟨x, h1, h3⟩
theorem row_eq {r : Roster} {d : Nat} {p : List Int} (hp : r.Plan[d]? = some p) : s_l14Row r (d : Int) = i_longestRow r (d : Int) := by
  unfold s_l14Row i_longestRow
  simp only [idx_nat, hp, Option.bind_some]
  have : s_l14Row_L1 r (d : Int) = i_longestRow_L1 p := by
    funext x
    obtain ⟨a, b, c⟩ := x
    unfold s_l14Row_L1 i_longestRow_L1
    have hm : ∀ y : Int, (if y < a then a else y) = (if y > a then y else a) := fun y => by
      by_cases h1 : y < a
      · rw [if_pos h1, if_neg (by omega)]
      · by_cases h2 : y > a
        · rw [if_neg h1, if_pos h2]
        · rw [if_neg h1, if_neg h2]; omega
    simp only [idx_nat, hp, Option.bind_some, most_eq, hm, Option.bind_assoc]
  rw [this]
theorem row_ok {r : Roster} (hg : GoodR r) {d : Nat} {p : List Int} (hp : r.Plan[d]? = some p) : ∃ x, i_longestRow r (d : Int) = some x := by
  unfold i_longestRow
  simp only [idx_nat, hp, Option.bind_some]
  obtain ⟨l1, l2⟩ := (row_facts hg hp).1
  have h := iter_rule (step := i_longestRow_L1 p) (fun m a => ∃ v : Nat, a.2.2 = (v : Int) ∧ m + v = p.length) (fun _ => True) ?_ (k := p.length) (a := (0, 0, 0)) ⟨0, rfl, by omega⟩
  · obtain ⟨b, hb, _⟩ := h
    rw [hb]; exact ⟨_, rfl⟩
  rintro m ⟨a, b, c⟩ ⟨v, hv, hm⟩
  simp only at hv
  subst hv
  unfold i_longestRow_L1
  by_cases hlt : v < p.length
  · left
    have hd : decide ((v : Int) < (p.length : Int)) = true := by simp; omega
    obtain ⟨e, he⟩ := get_ex hlt
    by_cases h0 : e < 0
    · exact ⟨_, m - 1, by simp only [hd, if_true, idx_nat, he, Option.bind_some, h0, decide_true, w64_succ (n := v) (by omega)]; rfl, by omega, v + 1, rfl, by omega⟩
    · exact ⟨_, m - 1, by simp only [hd, if_true, idx_nat, he, Option.bind_some, h0, decide_false, Bool.false_eq_true, if_false, w64_succ (n := v) (by omega)]; rfl, by omega, v + 1, rfl, by omega⟩
  · right
    have hd : decide ((v : Int) < (p.length : Int)) = false := by simp; omega
    exact ⟨_, by simp only [hd, Bool.false_eq_true, if_false]; rfl, trivial⟩
/-- A driver's numbers, and whether the rules are kept. -/
theorem driver_ok {r : Roster} (hg : GoodR r) {d : Nat} {p : List Int} (hp : r.Plan[d]? = some p) : ∃ w rs x, i_busiestWeek r (d : Int) = some w ∧ i_brokenRests r (d : Int) = some rs ∧ i_longestRow r (d : Int) = some x ∧ rs.length ≤ 14 ∧
    i_keepsRules r (d : Int) = some (decide (rs.length = 0 ∧ x ≤ r.Rules.MaxRow ∧ w.2 ≤ r.Rules.MaxWeek)) ∧ s_l14Keeps r (d : Int) = some (decide (rs.length = 0 ∧ x ≤ r.Rules.MaxRow ∧ w.2 ≤ r.Rules.MaxWeek)) := by
  obtain ⟨w, hw⟩ := week_ok hg hp
  obtain ⟨rs, hr1, hr2, hr3⟩ := rests_ok hg hp
  obtain ⟨x, hx⟩ := row_ok hg hp
  have key : (if ((rs.length : Int) == 0) = true then if decide (x ≤ r.Rules.MaxRow) = true then some (decide (w.2 ≤ r.Rules.MaxWeek)) else some false else some false) = some (decide (rs.length = 0 ∧ x ≤ r.Rules.MaxRow ∧ w.2 ≤ r.Rules.MaxWeek)) := by
    by_cases h1 : rs.length = 0
    · have : ((rs.length : Int) == 0) = true := by rw [h1]; rfl
      by_cases h2 : x ≤ r.Rules.MaxRow <;> simp [h1, h2]
    · have : ((rs.length : Int) == 0) = false := beq_eq_false_iff_ne.2 (by omega)
      simp only [this, Bool.false_eq_true, if_false, h1, false_and, decide_false]
  refine ⟨w, rs, x, hw, hr1, hx, hr3, ?_, ?_⟩
  · unfold i_keepsRules
    simp only [hw, hr1, hx, Option.bind_some, key]
  · unfold s_l14Keeps
    simp only [week_eq, hw, hr2, row_eq hp, hx, Option.bind_some, key]
/-! Turned rosters; what is asked; the draws. -/
theorem cloneI_eq (l : List Int) (h : l.length ≤ 1000) : slices_Clone_int l = some l := by
  unfold slices_Clone_int
  rw [chk_of (by simp; omega)]; rfl
theorem cloneIF_eq (l : List Int) (h : l.length ≤ 1000) : slices_Clone_int_f l = some l := cloneI_eq l h
theorem cloneP_eq (l : List Span) (h : l.length ≤ 1000) : slices_Clone_Span l = some l := by
  unfold slices_Clone_Span
  rw [chk_of (by simp; omega)]; rfl
theorem own_eq (l : List Int) (h : l.length ≤ 1000) : s_l1Own_f l = some l := by
  unfold s_l1Own_f
  rw [chk_of (by simp; omega)]; rfl
theorem copyRoster_eq (r : Roster) (h : RB r) : i_copyRoster r = some r := by
  obtain ⟨h1, h2, h3⟩ := h
  unfold i_copyRoster i_copyLists
  rw [cloneP_eq _ h1, chk_of (by omega)]
  simp only [Option.bind_some]
  rw [fill_loop (fun x : List Int => x) r.Plan _ (by simp) (fun i a x y ha hy hx => ?_) (fun a ha => ?_)]
  · simp only [Option.bind_some, List.map_id']
  · have hi := (List.getElem?_eq_some_iff.1 hx).1
    have g1 := h3 x (List.mem_of_getElem? hx)
    unfold i_copyLists_L1
    have hlt : decide ((i : Int) < (r.Plan.length : Int)) = true := by simp; omega
    simp only [hlt, if_true, idx_nat, hx, hy, Option.bind_some, cloneI_eq x g1, w64_succ (n := i) (by omega), Int.toNat_natCast]
  · unfold i_copyLists_L1; simp
/-- The rows, turned. -/
def Turned (l : List (List Int)) (t : Nat) : List (List Int) := (List.range l.length).map fun i => l.getD ((i + t) % l.length) []
theorem turned_get {l : List (List Int)} {t i : Nat} {x : List Int} (h : (Turned l t)[i]? = some x) : i < l.length ∧ l[(i + t) % l.length]? = some x := by
  unfold Turned at h
  rw [List.getElem?_map] at h
  by_cases hi : i < l.length
  · rw [List.getElem?_range hi] at h
    simp only [Option.map_some, Option.some.injEq] at h
    have hm : (i + t) % l.length < l.length := Nat.mod_lt _ (by omega)
    rw [List.getD_eq_getElem?_getD, List.getElem?_eq_getElem hm] at h
    exact ⟨hi, by rw [List.getElem?_eq_getElem hm]; exact congrArg some h⟩
  · rw [List.getElem?_eq_none (by simp; omega)] at h
    cases h
theorem turned_len (l : List (List Int)) (t : Nat) : (Turned l t).length = l.length := by simp [Turned]
theorem turned_all (l : List (List Int)) : Turned l l.length = l := by
  apply List.ext_getElem?
  intro i
  by_cases hi : i < l.length
  · obtain ⟨x, hx⟩ := get_ex (l := Turned l l.length) (i := i) (by rw [turned_len]; exact hi)
    have := (turned_get hx).2
    rw [Nat.add_mod_right, Nat.mod_eq_of_lt hi] at this
    rw [hx, this]
  · rw [List.getElem?_eq_none (by rw [turned_len]; omega), List.getElem?_eq_none (by omega)]
theorem mod_eq (i t n : Nat) (h : i + t ≤ 4000000000) (hn : 0 < n) : (w64 ((i : Int) + (t : Int))).tmod (n : Int) = (((i + t) % n : Nat) : Int) := by
  rw [w64_id (by omega), Int.tmod_eq_emod_of_nonneg (by omega)]
  rw [← Int.natCast_add, ← Int.natCast_emod]
theorem iTurn_eq (r : Roster) (h : RB r) (turns : Int) : i_TurnRoster r turns = some (if GoodR r ∧ 0 ≤ turns ∧ turns ≤ 100 then ((⟨r.Shifts, r.Rules, Turned r.Plan turns.toNat⟩ : Roster), true) else ((⟨[], ⟨0, 0, 0⟩, []⟩ : Roster), false)) := by
  unfold i_TurnRoster
  simp only [valid_eq r h, within_eq, Option.bind_some]
  by_cases a1 : GoodR r
  · by_cases a2 : 0 ≤ turns ∧ turns ≤ 100
    · obtain ⟨h1, h2, h3⟩ := h
      simp only [a1, a2, and_self, decide_true, Bool.not_true, Bool.false_eq_true, if_false, if_true, Option.bind_some, copyRoster_eq r ⟨h1, h2, h3⟩]
      rw [fill_loop (fun x : List Int => x) (Turned r.Plan turns.toNat) r.Plan (by rw [turned_len]) (fun i a x y ha hy hx => ?_) (fun a ha => ?_)]
      · simp only [Option.bind_some, List.map_id']
      · obtain ⟨hi, hm⟩ := turned_get hx
        have g1 := h3 x (List.mem_of_getElem? hm)
        unfold i_TurnRoster_L1
        have hlt : decide ((i : Int) < (r.Plan.length : Int)) = true := by simp; omega
        have hc : chk ((r.Plan.length : Int) ≠ 0) = some () := chk_of (by omega)
        have ht : ((turns.toNat : Nat) : Int) = turns := by omega
        have he := mod_eq i turns.toNat r.Plan.length (by omega) (by omega)
        rw [ht] at he
        simp only [hlt, if_true, hc, he, idx_nat, hm, hy, Option.bind_some, cloneIF_eq x g1, w64_succ (n := i) (by omega), Int.toNat_natCast]
      · unfold i_TurnRoster_L1
        rw [turned_len]
        simp
    · have : ¬ (GoodR r ∧ 0 ≤ turns ∧ turns ≤ 100) := fun hh => a2 hh.2
      rw [if_neg this]
      simp [a1, a2]
  · have : ¬ (GoodR r ∧ 0 ≤ turns ∧ turns ≤ 100) := fun hh => a1 hh.1
    rw [if_neg this]
    simp [a1]
theorem sTurn_eq (r : Roster) (h : RB r) (turns : Int) : s_TurnRoster r turns = some (if GoodR r ∧ 0 ≤ turns ∧ turns ≤ 100 then ((⟨r.Shifts, r.Rules, Turned r.Plan turns.toNat⟩ : Roster), true) else ((⟨[], ⟨0, 0, 0⟩, []⟩ : Roster), false)) := by
  unfold s_TurnRoster
  simp only [good_eq r h, l1In_eq, Option.bind_some]
  by_cases a1 : GoodR r
  · by_cases a2 : 0 ≤ turns ∧ turns ≤ 100
    · obtain ⟨h1, h2, h3⟩ := h
      simp only [a1, a2, and_self, decide_true, Bool.not_true, Bool.false_eq_true, if_false, if_true, Option.bind_some]
      rw [chk_of (by simp; omega)]
      simp only [Option.bind_some]
      rw [app_loop (fun x : List Int => x) (Turned r.Plan turns.toNat) (fun i a x ha hx => ?_) (fun a ha => ?_)]
      · simp only [Option.bind_some, List.map_id', List.nil_append]
      · obtain ⟨hi, hm⟩ := turned_get hx
        have g1 := h3 x (List.mem_of_getElem? hm)
        unfold s_TurnRoster_L1
        have hlt : decide ((i : Int) < (r.Plan.length : Int)) = true := by simp; omega
        have hc : chk ((r.Plan.length : Int) ≠ 0) = some () := chk_of (by omega)
        have ht : ((turns.toNat : Nat) : Int) = turns := by omega
        have he := mod_eq i turns.toNat r.Plan.length (by omega) (by omega)
        rw [ht] at he
        have hch : chk (a.length + ([x] : List (List Int)).length ≤ 4294967296) = some () := chk_of (by simp; omega)
        simp only [hlt, if_true, hc, he, idx_nat, hm, Option.bind_some, own_eq x g1, hch, w64_succ (n := i) (by omega)]
      · unfold s_TurnRoster_L1
        rw [turned_len]
        simp
    · have : ¬ (GoodR r ∧ 0 ≤ turns ∧ turns ≤ 100) := fun hh => a2 hh.2
      rw [if_neg this]
      simp [a1, a2]
  · have : ¬ (GoodR r ∧ 0 ≤ turns ∧ turns ≤ 100) := fun hh => a1 hh.1
    rw [if_neg this]
    simp [a1]

theorem isDriver_eq (r : Roster) (d : Int) : i_isDriver r d = some (decide (0 ≤ d ∧ d < (r.Plan.length : Int))) := by
  unfold i_isDriver
  by_cases h : 0 ≤ d <;> simp [h]
/-- The broken rests, as both tell them. -/
theorem broken_both (r : Roster) (h : RB r) (d : Int) : ∃ x, i_BrokenRests r d = some x ∧ s_BrokenRests r d = some x ∧ x.1.length ≤ 14 := by
  unfold i_BrokenRests s_BrokenRests s_l14Asked
  have e1 : w64 ((r.Plan.length : Int) - 1) = (r.Plan.length : Int) - 1 := w64_id (by have := h.2.1; omega)
  simp only [valid_eq r h, good_eq r h, isDriver_eq, l1In_eq, e1, Option.bind_some]
  by_cases a1 : GoodR r
  · by_cases a2 : 0 ≤ d ∧ d < (r.Plan.length : Int)
    · have d2 : decide (0 ≤ d ∧ d ≤ (r.Plan.length : Int) - 1) = true := by simp; omega
      obtain ⟨p, hp⟩ := get_ex (l := r.Plan) (i := d.toNat) (by omega)
      obtain ⟨l, hl1, hl2, hl3⟩ := rests_ok a1 hp
      have ht : ((d.toNat : Nat) : Int) = d := by omega
      rw [ht] at hl1 hl2
      refine ⟨(l, true), ?_, ?_, hl3⟩
      · simp only [a1, a2, and_self, decide_true, Bool.not_true, Bool.false_eq_true, if_false, Option.bind_some, hl1]
      · simp only [a1, d2, decide_true, if_true, Bool.not_true, Bool.false_eq_true, if_false, Option.bind_some, hl2]
    · have d2 : decide (0 ≤ d ∧ d ≤ (r.Plan.length : Int) - 1) = false := by simp; omega
      exact ⟨([], false), by simp [a1, a2], by simp only [a1, d2, decide_true, if_true, Option.bind_some, Bool.not_false], by simp⟩
  · exact ⟨([], false), by simp [a1], by simp [a1], by simp⟩

/-! The draws -/
def DR (r : Roster) : Prop := r.Shifts.length ≤ 10 ∧ r.Plan.length ≤ 10 ∧ ∀ p ∈ r.Plan, p.length ≤ 20
theorem DR.rb {r : Roster} (h : DR r) : RB r := ⟨by have := h.1; omega, by have := h.2.1; omega, fun p hp => by have := h.2.2 p hp; omega⟩
theorem roster_ok {k : Nat} {c : l1Cur} (h : Cur k c) (hk : k ≤ 500000000) : ∃ r, s_l1Cur_roster c = some r ∧ Cur (k + 1000) r.2 ∧ DR r.1 := by
  unfold s_l1Cur_roster
  obtain ⟨r, hr, hc, _⟩ := amongw_ok [0, 480, 600, 660] (by simp) h (by omega)
  obtain ⟨r1, hr1, hc1, _⟩ := amongw_ok [2, 3, 5, 6, 14] (by simp) hc (by omega)
  obtain ⟨r2, hr2, hc2, _⟩ := amongw_ok [10080, 2400, 1500, 3000] (by simp) hc1 (by omega)
  obtain ⟨r3, hr3, hc3, h30, h31⟩ := pick_ok 4 hc2 (by omega)
  have e1 : w64 (1 + r3.1) = ((1 + r3.1.toNat : Nat) : Int) := by rw [w64_id (by omega)]; omega
  simp only [hr, hr1, hr2, hr3, Option.bind_some, e1]
  have loop : ∃ b, iter s_l1Cur_roster_L1 (((1 + r3.1.toNat : Nat) : Int), r3.2.code_, r3.2.at_, r3.2.seed_.v, []) = some b ∧ (Cur (k + 8 + 2 * 4) ⟨b.1, b.2.1, ⟨b.2.2.1⟩⟩ ∧ b.2.2.2.length ≤ 4) := by
    refine iter_rule (fun m a => a.1 = (m : Int) ∧ m + a.2.2.2.2.length ≤ 4 ∧ Cur (k + 8 + 2 * (4 - m)) ⟨a.2.1, a.2.2.1, ⟨a.2.2.2.1⟩⟩) _ ?_ (k := 1 + r3.1.toNat) ⟨rfl, by simp; omega, hc3.mono (by omega)⟩
    rintro m ⟨x, v, v1, v2, v3⟩ ⟨hx, hl, hcur⟩
    simp only at hx hl hcur
    subst hx
    unfold s_l1Cur_roster_L1
    cases m with
    | zero => right; exact ⟨_, by simp; rfl, hcur, by show v3.length ≤ 4; omega⟩
    | succ m =>
      left
      have hpos : decide ((0 : Int) < ((m + 1 : Nat) : Int)) = true := by simp
      have hsix : ([(⟨300, 780⟩ : Span), (⟨360, 840⟩ : Span), (⟨720, 1200⟩ : Span), (⟨960, 1440⟩ : Span), (⟨1200, 1700⟩ : Span), (⟨540, 540⟩ : Span)] : List Span).length = 6 := rfl
      obtain ⟨r5, hr5, hc5, h50, h51⟩ := pick_ok (([(⟨300, 780⟩ : Span), (⟨360, 840⟩ : Span), (⟨720, 1200⟩ : Span), (⟨960, 1440⟩ : Span), (⟨1200, 1700⟩ : Span), (⟨540, 540⟩ : Span)] : List Span).length : Int) hcur (by omega)
      obtain ⟨e, he, _⟩ := idx_lt (l := ([(⟨300, 780⟩ : Span), (⟨360, 840⟩ : Span), (⟨720, 1200⟩ : Span), (⟨960, 1440⟩ : Span), (⟨1200, 1700⟩ : Span), (⟨540, 540⟩ : Span)] : List Span)) (i := r5.1) h50 (by rw [hsix] at h51 ⊢; omega)
      have hch : chk (v3.length + ([e] : List Span).length ≤ 4294967296) = some () := chk_of (by simp; omega)
      refine ⟨_, m, by simp only [hpos, if_true, hr5, he, hch, Option.bind_some]; rfl, by omega, ?_, ?_, ?_⟩
      · exact w64_pred (by omega)
      · simp; omega
      · exact hc5.mono (by omega)
  obtain ⟨⟨v4, v5, v6, v7⟩, hb, hcb, hlb⟩ := loop
  simp only at hcb hlb
  rw [hb]
  simp only [Option.bind_some]
  obtain ⟨r6, hr6, hc6, h60, h61⟩ := pick_ok 4 hcb (by omega)
  obtain ⟨r7, hr7, hc7, h70, h71⟩ := pick_ok 9 hc6 (by omega)
  have e6 : w64 (1 + r6.1) = 1 + r6.1 := w64_id (by omega)
  have e7 : w64 (1 + r7.1) = 1 + r7.1 := w64_id (by omega)
  simp only [hr6, hr7, Option.bind_some]
  have loop2 : ∀ (q : Nat) (a : List UInt8) (b c : Int), Cur q ⟨a, b, ⟨c⟩⟩ → q ≤ 600000000 → ∃ o, iter (s_l1Cur_roster_L2 v7 r7) (0, a, b, c, []) = some o ∧ (Cur (q + 40) ⟨o.1, o.2.1, ⟨o.2.2.1⟩⟩ ∧ 1 ≤ o.2.2.2.length ∧ o.2.2.2.length ≤ 10) := by
    intro q a b c hq hq2
    refine iter_rule (fun m s => ∃ i : Nat, s.1 = (i : Int) ∧ m + i = 10 ∧ (i : Int) ≤ 1 + r7.1 ∧ s.2.2.2.2.length = i ∧ Cur (q + 4 * i) ⟨s.2.1, s.2.2.1, ⟨s.2.2.2.1⟩⟩) _ ?_ (k := 10) ⟨0, rfl, rfl, by omega, rfl, hq.mono (by omega)⟩
    rintro m ⟨s1, v12, v13, v14, d⟩ ⟨i, hi, hm, hi7, hl, hcur⟩
    simp only at hi hl hcur
    subst hi
    unfold s_l1Cur_roster_L2
    simp only [e7]
    by_cases hlt : (i : Int) < 1 + r7.1
    · left
      have hd : decide ((i : Int) < 1 + r7.1) = true := by simpa using hlt
      obtain ⟨r8, hr8, hc8⟩ := one_ok 2 hcur (by omega)
      obtain ⟨r9, hr9, hc9, _⟩ := pick_ok (v7.length : Int) hc8 (by omega)
      have hch : ∀ y : Int, chk (d.length + ([y] : List Int).length ≤ 4294967296) = some () := fun y => chk_of (by simp; omega)
      cases hb8 : r8.1 with
      | true =>
        refine ⟨_, m - 1, by simp only [hd, if_true, hr8, hb8, hr9, hch, Option.bind_some, w64_succ (n := i) (by omega)]; rfl, by omega, i + 1, rfl, by omega, by omega, ?_, ?_⟩
        · simp; omega
        · exact hc9.mono (by omega)
      | false =>
        refine ⟨_, m - 1, by simp only [hd, if_true, hr8, hb8, Bool.false_eq_true, if_false, hch, Option.bind_some, w64_succ (n := i) (by omega)]; rfl, by omega, i + 1, rfl, by omega, by omega, ?_, ?_⟩
        · simp; omega
        · exact hc8.mono (by omega)
    · right
      have hd : decide ((i : Int) < 1 + r7.1) = false := by simpa using hlt
      refine ⟨_, by simp only [hd, Bool.false_eq_true, if_false]; rfl, ?_, ?_, ?_⟩
      · exact hcur.mono (by omega)
      · show 1 ≤ d.length; omega
      · show d.length ≤ 10; omega
  have loop3 : ∃ o, iter (s_l1Cur_roster_L3 v7 r6 r7) (0, r7.2.code_, r7.2.at_, r7.2.seed_.v, []) = some o ∧ (Cur (k + 400) ⟨o.1, o.2.1, ⟨o.2.2.1⟩⟩ ∧ (o.2.2.2.length : Int) = 1 + r6.1 ∧ ∀ p ∈ o.2.2.2, 1 ≤ p.length ∧ p.length ≤ 10) := by
    refine iter_rule (fun m s => ∃ i : Nat, s.1 = (i : Int) ∧ m + i = 5 ∧ (i : Int) ≤ 1 + r6.1 ∧ s.2.2.2.2.length = i ∧ (∀ p ∈ s.2.2.2.2, 1 ≤ p.length ∧ p.length ≤ 10) ∧ Cur (k + 20 + 40 * i) ⟨s.2.1, s.2.2.1, ⟨s.2.2.2.1⟩⟩) _ ?_ (k := 5) ⟨0, rfl, rfl, by omega, rfl, by simp, hc7.mono (by omega)⟩
    rintro m ⟨s1, v8, v9, v10, v11⟩ ⟨i, hi, hm, hi6, hl, hall, hcur⟩
    simp only at hi hl hall hcur
    subst hi
    unfold s_l1Cur_roster_L3
    simp only [e6]
    by_cases hlt : (i : Int) < 1 + r6.1
    · left
      have hd : decide ((i : Int) < 1 + r6.1) = true := by simpa using hlt
      obtain ⟨⟨v19, v20, v21, d1⟩, hb2, hcb2, hl1, hl2⟩ := loop2 _ _ _ _ hcur (by omega)
      simp only at hcb2 hl1 hl2
      have hch : ∀ y : List Int, chk (v11.length + ([y] : List (List Int)).length ≤ 4294967296) = some () := fun y => chk_of (by simp; omega)
      refine ⟨_, m - 1, by simp only [hd, if_true, hb2, hch, Option.bind_some, w64_succ (n := i) (by omega)]; rfl, by omega, i + 1, rfl, by omega, by omega, ?_, fun p hp => ?_, ?_⟩
      · simp; omega
      · rcases List.mem_append.1 hp with hp | hp
        · exact hall p hp
        · simp at hp; subst hp; exact ⟨hl1, hl2⟩
      · exact hcb2.mono (by omega)
    · right
      have hd : decide ((i : Int) < 1 + r6.1) = false := by simpa using hlt
      refine ⟨_, by simp only [hd, Bool.false_eq_true, if_false]; rfl, ?_, ?_, hall⟩
      · exact hcur.mono (by omega)
      · show (v11.length : Int) = _; omega
  obtain ⟨⟨v22, v23, v24, v25⟩, hb3, hcb3, hl3, hall3⟩ := loop3
  simp only at hcb3 hl3 hall3
  rw [hb3]
  simp only [Option.bind_some]
  obtain ⟨r10, hr10, hc10, _⟩ := pick_ok 40 hcb3 (by omega)
  simp only [hr10, Option.bind_some]
  have fin : ∀ (v26 : List UInt8) (v27 v28 v29 v30 : Int) (v31 : List (List Int)), Cur (k + 900) ⟨v26, v27, ⟨v28⟩⟩ → v31.length = v25.length → (∀ p ∈ v31, p.length ≤ 20) →
      ∃ r', some ((⟨v7, (⟨v29, v30, r2.1⟩ : RosterRules), v31⟩ : Roster), (⟨v26, v27, (⟨v28⟩ : IK .u64)⟩ : l1Cur)) = some r' ∧ Cur (k + 1000) r'.2 ∧ DR r'.1 := by
    intro v26 v27 v28 v29 v30 v31 g1 g2 g3
    exact ⟨_, rfl, g1.mono (by omega), by show v7.length ≤ _; omega, by show v31.length ≤ _; omega, g3⟩
  have hall20 : ∀ p ∈ v25, p.length ≤ 20 := fun p hp => by have := hall3 p hp; omega
  split
  · obtain ⟨e4, he4, _, hm4⟩ := idx_lt (l := v25) (i := 0) (by omega) (by omega)
    have := hall3 e4 hm4
    have hch : chk (e4.length + ([-1] : List Int).length ≤ 4294967296) = some () := chk_of (by simp; omega)
    simp only [he4, hch, Option.bind_some]
    refine fin _ _ _ _ _ _ (hc10.mono (by omega)) (by simp) fun p hp => ?_
    rcases List.mem_or_eq_of_mem_set hp with hp | hp
    · exact hall20 p hp
    · subst hp; simp; omega
  split
  · have e8 : w64 (w64 (1 + r6.1) - 1) = r6.1 := by rw [e6, w64_id (by omega)]; omega
    obtain ⟨e8', he8, _, hm8⟩ := idx_lt (l := v25) (i := r6.1) (by omega) (by omega)
    have h8 := hall3 e8' hm8
    obtain ⟨r12, hr12, hc12, _⟩ := amongw_ok [-2, (v7.length : Int)] (by simp) hc10 (by omega)
    obtain ⟨e9, he9, _⟩ := idx_lt (l := e8') (i := 0) (by omega) (by omega)
    simp only [e8, he8, hr12, he9, Option.bind_some]
    refine fin _ _ _ _ _ _ (hc12.mono (by omega)) (by simp) fun p hp => ?_
    rcases List.mem_or_eq_of_mem_set hp with hp | hp
    · exact hall20 p hp
    · subst hp; simp; omega
  split
  · obtain ⟨r13, hr13, hc13, _⟩ := amongw_ok [-1, 1440, 1441] (by simp) hc10 (by omega)
    simp only [hr13, Option.bind_some]
    exact fin _ _ _ _ _ _ (hc13.mono (by omega)) rfl hall20
  split
  · obtain ⟨r14, hr14, hc14, _⟩ := amongw_ok [0, 15] (by simp) hc10 (by omega)
    simp only [hr14, Option.bind_some]
    exact fin _ _ _ _ _ _ (hc14.mono (by omega)) rfl hall20
  · simp only [Option.bind_some]
    exact fin _ _ _ _ _ _ (hc10.mono (by omega)) rfl hall20
theorem drawKeeps_ok (code : List UInt8) : ∃ r, s_DrawKeepsRules code = some r ∧ DR r := by
  unfold s_DrawKeepsRules s_DrawIsValidRoster
  obtain ⟨r, hr, _, hd⟩ := roster_ok (cur0 code) (by omega)
  simp only [hr, Option.bind_some]
  exact ⟨_, rfl, hd⟩
theorem drawTurn_ok (code : List UInt8) : ∃ r, s_DrawTurnRoster code = some r ∧ DR r.1 := by
  unfold s_DrawTurnRoster
  obtain ⟨r, hr, hc, hd⟩ := roster_ok (cur0 code) (by omega)
  obtain ⟨r3, hr3, hc3, h0, h1⟩ := pick_ok 24 hc (by omega)
  have e1 : r3.1.tdiv 11 = r3.1 / 11 := Int.tdiv_eq_ediv_of_nonneg h0
  have e2 : w64 (r3.1.tdiv 11) = r3.1 / 11 := by rw [e1]; exact w64_id (by omega)
  have e3 : w64 (5 + r3.1 / 11) = 5 + r3.1 / 11 := w64_id (by omega)
  simp only [hr, hr3, Option.bind_some, e2, e3]
  rw [chk_of (by omega), chk_of (by simp; omega)]
  simp only [Option.bind_some]
  obtain ⟨r4, hr4, _⟩ := among_ok (List.drop (0 : Int).toNat (List.take (5 + r3.1 / 11).toNat [0, 1, 2, 3, 100, -1, 101])) (by
    have : 0 < (List.drop (0 : Int).toNat (List.take (5 + r3.1 / 11).toNat ([0, 1, 2, 3, 100, -1, 101] : List Int))).length := by simp; omega
    exact List.length_pos_iff.1 this) hc3 (by omega)
  rw [hr4]
  exact ⟨_, rfl, hd⟩
theorem drawBroken_ok (code : List UInt8) : ∃ r, s_DrawBrokenRests code = some r ∧ DR r.1 := by
  unfold s_DrawBrokenRests s_DrawWorkedMinutes
  obtain ⟨r, hr, hc, hd⟩ := roster_ok (cur0 code) (by omega)
  obtain ⟨r3, hr3, hc3, _⟩ := pick_ok (w64 ((r.1.Plan.length : Int) + 1)) hc (by omega)
  obtain ⟨r4, hr4, _⟩ := pick_ok 12 hc3 (by omega)
  simp only [hr, hr3, hr4, Option.bind_some]
  rw [chk_of (by omega)]
  exact ⟨_, rfl, hd⟩
/-! Comparisons; whether rules are kept; the law. -/
theorem rInts_refl (a : List Int) (h : a.length ≤ 1000) : v_rInts a a = some true := by
  unfold v_rInts
  simp only [bne_self_eq_false, Bool.false_eq_true, if_false]
  rw [all_val (hd := Classical.propDecidable _) a (fun _ _ => True) (fun i x hx => ?_) (by unfold v_rInts_L1; simp)]
  · rw [if_pos (fun _ _ _ => trivial)]
  · have hi := (List.getElem?_eq_some_iff.1 hx).1
    unfold v_rInts_L1
    have hlt : decide ((i : Int) < (a.length : Int)) = true := by simp; omega
    left
    simp only [hlt, if_true, idx_nat, hx, Option.bind_some, bne_self_eq_false, Bool.false_eq_true, if_false, w64_succ (n := i) (by omega), and_self]
theorem rTable_refl (a : List (List Int)) (h : a.length ≤ 1000) (h2 : ∀ p ∈ a, p.length ≤ 1000) : v_rTable a a = some true := by
  unfold v_rTable
  simp only [bne_self_eq_false, Bool.false_eq_true, if_false]
  rw [all_val (hd := Classical.propDecidable _) a (fun _ _ => True) (fun i x hx => ?_) (by unfold v_rTable_L1; simp)]
  · rw [if_pos (fun _ _ _ => trivial)]
  · have hi := (List.getElem?_eq_some_iff.1 hx).1
    unfold v_rTable_L1
    have hlt : decide ((i : Int) < (a.length : Int)) = true := by simp; omega
    left
    simp only [hlt, if_true, idx_nat, hx, Option.bind_some, rInts_refl x (h2 x (List.mem_of_getElem? hx)), Bool.not_true, Bool.false_eq_true, if_false, w64_succ (n := i) (by omega), and_self]
/-- Whether a driver keeps the rules. -/
def Keeps (r : Roster) (d : Nat) : Prop := i_keepsRules r (d : Int) = some true
noncomputable instance (r : Roster) (d : Nat) : Decidable (Keeps r d) := Classical.propDecidable _
theorem keeps_both {r : Roster} (hg : GoodR r) {d : Nat} {p : List Int} (hp : r.Plan[d]? = some p) : i_keepsRules r (d : Int) = some (decide (Keeps r d)) ∧ s_l14Keeps r (d : Int) = some (decide (Keeps r d)) := by
  obtain ⟨w, rs, x, _, _, _, _, h5, h6⟩ := driver_ok hg hp
  by_cases hk : rs.length = 0 ∧ x ≤ r.Rules.MaxRow ∧ w.2 ≤ r.Rules.MaxWeek
  · have : Keeps r d := by unfold Keeps; rw [h5]; simp [hk]
    rw [h5, h6]; simp [hk, this]
  · have : ¬ Keeps r d := by
      unfold Keeps; rw [h5]; simp only [hk, decide_false]; simp
    rw [h5, h6]; simp only [hk, this, decide_false, and_self]
def AllKeep (r : Roster) : Prop := ∀ (d : Nat) (p : List Int), r.Plan[d]? = some p → Keeps r d
noncomputable instance (r : Roster) : Decidable (AllKeep r) := Classical.propDecidable _
theorem iKeeps_eq (r : Roster) (h : RB r) : i_KeepsRules r = some (if GoodR r then (decide (AllKeep r), true) else (false, false)) := by
  unfold i_KeepsRules
  simp only [valid_eq r h, Option.bind_some]
  by_cases hg : GoodR r
  · have hpl := hg.2.2.2.1
    simp only [hg, decide_true, Bool.not_true, Bool.false_eq_true, if_false, if_true]
    unfold i_allKeepRules
    rw [all_val (hd := Classical.propDecidable _) r.Plan (fun d _ => Keeps r d) (fun i x hx => ?_) (by unfold i_allKeepRules_L1; simp)]
    · by_cases ha : AllKeep r
      · rw [if_pos (show ∀ (d : Nat) (p : List Int), r.Plan[d]? = some p → Keeps r d from ha)]
        simp [ha]
      · rw [if_neg (show ¬ ∀ (d : Nat) (p : List Int), r.Plan[d]? = some p → Keeps r d from ha)]
        simp [ha]
    · have hi := (List.getElem?_eq_some_iff.1 hx).1
      have hk := (keeps_both hg hx).1
      unfold i_allKeepRules_L1
      have hlt : decide ((i : Int) < (r.Plan.length : Int)) = true := by simp; omega
      by_cases hc : Keeps r i
      · left
        refine ⟨?_, hc⟩
        simp only [hlt, if_true, hk, hc, decide_true, Option.bind_some, Bool.not_true, Bool.false_eq_true, if_false, w64_succ (n := i) (by omega)]
      · right
        refine ⟨?_, hc⟩
        simp only [hlt, if_true, hk, hc, decide_false, Option.bind_some, Bool.not_false]
  · simp [hg]
theorem sKeeps_eq (r : Roster) (h : RB r) : s_KeepsRules r = some (if GoodR r then (decide (AllKeep r), true) else (false, false)) := by
  unfold s_KeepsRules
  simp only [good_eq r h, Option.bind_some]
  by_cases hg : GoodR r
  · have hpl := hg.2.2.2.1
    simp only [hg, decide_true, Bool.not_true, Bool.false_eq_true, if_false, if_true]
    rw [all_valR (hd := Classical.propDecidable _) (false, true) r.Plan (fun d _ => Keeps r d) (fun i x hx => ?_) (by unfold s_KeepsRules_L1; simp)]
    · by_cases ha : AllKeep r
      · rw [if_pos (show ∀ (d : Nat) (p : List Int), r.Plan[d]? = some p → Keeps r d from ha)]
        simp [ha]
      · rw [if_neg (show ¬ ∀ (d : Nat) (p : List Int), r.Plan[d]? = some p → Keeps r d from ha)]
        simp [ha]
    · have hi := (List.getElem?_eq_some_iff.1 hx).1
      have hk := (keeps_both hg hx).2
      unfold s_KeepsRules_L1
      have hlt : decide ((i : Int) < (r.Plan.length : Int)) = true := by simp; omega
      by_cases hc : Keeps r i
      · left
        refine ⟨?_, hc⟩
        simp only [hlt, if_true, hk, hc, decide_true, Option.bind_some, Bool.not_true, Bool.false_eq_true, if_false, w64_succ (n := i) (by omega)]
      · right
        refine ⟨?_, hc⟩
        simp only [hlt, if_true, hk, hc, decide_false, Option.bind_some, Bool.not_false]
  · simp [hg]
/-- The law's own loop: what three numbers say of each driver. -/
theorem lawLoop {r : Roster} (h : RB r) (hg : GoodR r) : iter (v_FnRosterRules_L1 r) (true, 0) = some (.go (decide (AllKeep r))) := by
  have hpl := hg.2.2.2.1
  have hr := iter_rule (step := v_FnRosterRules_L1 r) (fun m a => ∃ i : Nat, a.2 = (i : Int) ∧ m + i = r.Plan.length ∧ (a.1 = true ↔ ∀ (d : Nat) (p : List Int), d < i → r.Plan[d]? = some p → Keeps r d)) (fun b => b = .go (decide (AllKeep r))) ?_ (k := r.Plan.length) (a := (true, 0)) ⟨0, rfl, by omega, by simp⟩
  · obtain ⟨b, hb, rfl⟩ := hr
    exact hb
  rintro m ⟨ok, v⟩ ⟨i, hv, hm, hok⟩
  simp only at hv hok
  subst hv
  unfold v_FnRosterRules_L1
  by_cases hlt : i < r.Plan.length
  · left
    have hd : decide ((i : Int) < (r.Plan.length : Int)) = true := by simp; omega
    obtain ⟨p, hp⟩ := get_ex hlt
    obtain ⟨w, rs, x, h1, h2, h3, h4, h5, _⟩ := driver_ok hg hp
    have hdr : (0 : Int) ≤ (i : Int) ∧ (i : Int) < (r.Plan.length : Int) := by omega
    have e1 : i_BrokenRests r (i : Int) = some (rs, true) := by
      unfold i_BrokenRests
      simp only [valid_eq r h, isDriver_eq, hg, hdr, and_self, decide_true, Option.bind_some, Bool.not_true, Bool.false_eq_true, if_false, h2]
    have e2 : i_LongestRow r (i : Int) = some (x, true) := by
      unfold i_LongestRow
      simp only [valid_eq r h, isDriver_eq, hg, hdr, and_self, decide_true, Option.bind_some, Bool.not_true, Bool.false_eq_true, if_false, h3]
    have e3 : i_BusiestWeek r (i : Int) = some (w.1, w.2, true) := by
      unfold i_BusiestWeek
      simp only [valid_eq r h, isDriver_eq, hg, hdr, and_self, decide_true, Option.bind_some, Bool.not_true, Bool.false_eq_true, if_false, h1]
    have hk : Keeps r i ↔ (rs.length = 0 ∧ x ≤ r.Rules.MaxRow ∧ w.2 ≤ r.Rules.MaxWeek) := by
      unfold Keeps; rw [h5]; simp
    have next : ∀ b : Bool, (b = true ↔ (ok = true ∧ Keeps r i)) → (b = true ↔ ∀ (d : Nat) (p : List Int), d < i + 1 → r.Plan[d]? = some p → Keeps r d) := by
      intro b hb
      rw [hb, hok]
      constructor
      · rintro ⟨g1, g2⟩ d q hd hq
        by_cases hdi : d < i
        · exact g1 d q hdi hq
        · have : d = i := by omega
          subst this; exact g2
      · intro g
        exact ⟨fun d q hd hq => g d q (by omega) hq, g i p (by omega) hp⟩
    have hw := w64_succ (n := i) (by omega)
    simp only [hd, if_true, e1, e2, e3, Option.bind_some, Bool.not_true, Bool.false_eq_true, if_false, hw]
    refine ⟨(decide (ok = true ∧ Keeps r i), ((i + 1 : Nat) : Int)), m - 1, ?_, by omega, i + 1, rfl, by omega, next _ (by simp)⟩
    cases ok with
    | false => simp
    | true =>
      by_cases c1 : rs.length = 0
      · have b1 : ((rs.length : Int) == 0) = true := by rw [c1]; rfl
        by_cases c2 : x ≤ r.Rules.MaxRow
        · by_cases c3 : w.2 ≤ r.Rules.MaxWeek <;> simp [b1, c2, c3, hk, c1]
        · simp [b1, c2, hk]
      · have b1 : ((rs.length : Int) == 0) = false := beq_eq_false_iff_ne.2 (by omega)
        have hnk : ¬ Keeps r i := fun hh => c1 (hk.1 hh).1
        simp only [b1, if_true, Bool.false_eq_true, if_false, hnk, and_false, decide_false]
  · right
    have hd : decide ((i : Int) < (r.Plan.length : Int)) = false := by simp; omega
    refine ⟨_, by simp only [hd, Bool.false_eq_true, if_false]; rfl, ?_⟩
    congr 1
    have : (ok = true ↔ AllKeep r) := by
      rw [hok]
      constructor
      · intro g d q hq
        exact g d q (by have := (List.getElem?_eq_some_iff.1 hq).1; omega) hq
      · intro g d q _ hq
        exact g d q hq
    by_cases ha : AllKeep r
    · simp [ha, this.2 ha]
    · have : ok = false := by
        cases ok with
        | false => rfl
        | true => exact absurd (this.1 rfl) ha
      simp [ha, this]
theorem rosterRules_true (code : List UInt8) : v_FnRosterRules code = some true := by
  unfold v_FnRosterRules v_rBig
  simp only [Option.bind_some]
  split
  · rfl
  · obtain ⟨r1, hr1, hb1⟩ := drawKeeps_ok code
    have hrb := hb1.rb
    obtain ⟨r12, hr12, hb12⟩ := drawTurn_ok code
    obtain ⟨r15, hr15, hb15⟩ := drawBroken_ok code
    obtain ⟨br, hbr1, hbr2, hbr3⟩ := broken_both r15.1 hb15.rb r15.2
    have eta : (⟨r1.Shifts, r1.Rules, r1.Plan⟩ : Roster) = r1 := rfl
    simp only [hr1, Option.bind_some, eta, iKeeps_eq r1 hrb, sKeeps_eq r1 hrb, beq_self_eq_true, Bool.not_true, Bool.false_eq_true, if_false]
    have tb : ∀ (l : List (List Int)) (t : Nat), l.length ≤ 1000 → (∀ p ∈ l, p.length ≤ 1000) → v_rTable (Turned l t) (Turned l t) = some true := by
      intro l t h1 h2
      apply rTable_refl
      · rw [turned_len]; exact h1
      · intro p hp
        obtain ⟨i, hi⟩ := List.getElem?_of_mem hp
        exact h2 p (List.mem_of_getElem? (turned_get hi).2)
    have first : flb (if (if GoodR r1 then (decide (AllKeep r1), true) else (false, false)).2 = true then
        flb (iter (v_FnRosterRules_L1 r1) (true, 0)) fun (i1 : Bool) =>
        (i_TurnRoster r1 (r1.Plan.length : Int)).bind fun r9 =>
        (if (!(i1 == (if GoodR r1 then (decide (AllKeep r1), true) else (false, false)).1)) = true then some true else if (!r9.2) = true then some true else (v_rTable r9.1.Plan r1.Plan).bind fun r10 =>
        some (!r10)).bind fun (v2 : Bool) =>
        if v2 = true then
          some (.ret false)
        else
          some (.go ())
      else
        some (.go ())) = fun (k : Unit → Option Bool) => k () := by
      funext k
      by_cases hg : GoodR r1
      · have hpl := hg.2.2.2.1
        have ht : GoodR r1 ∧ (0 : Int) ≤ (r1.Plan.length : Int) ∧ (r1.Plan.length : Int) ≤ 100 := ⟨hg, by omega, by omega⟩
        have ee := iTurn_eq r1 hrb (r1.Plan.length : Int)
        rw [if_pos ht, Int.toNat_natCast, turned_all] at ee
        simp only [hg, if_true, lawLoop hrb hg, ee, rTable_refl _ hrb.2.1 hrb.2.2, flb, Option.bind_some, beq_self_eq_true, Bool.not_true, Bool.false_eq_true, if_false]
      · simp [hg, flb]
    rw [first]
    have hn : ∀ k, (⟨r12.1.Shifts, r12.1.Rules, r12.1.Plan⟩ : Roster) = k ↔ r12.1 = k := fun _ => Iff.rfl
    simp only [hr12, hr15, iTurn_eq _ hb12.rb, sTurn_eq _ hb12.rb, hbr1, hbr2, Option.bind_some, beq_self_eq_true, if_true, rInts_refl _ (show br.1.length ≤ 1000 by omega)]
    by_cases hc : GoodR r12.1 ∧ 0 ≤ r12.2 ∧ r12.2 ≤ 100
    · simp only [hc, and_self, if_true, tb _ _ hb12.rb.2.1 hb12.rb.2.2, Option.bind_some]
    · simp only [hc, if_false, rTable_refl [] (by simp) (by simp), Option.bind_some, if_true]
end Go.Proofs.Ytmpgpfekekobfaa
