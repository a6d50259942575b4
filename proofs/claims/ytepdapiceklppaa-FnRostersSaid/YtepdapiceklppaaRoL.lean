/- The plain law: what the models compute, no program in sight. -/
import Derived.Test.YtepdapiceklppaaRoM
import Derived.Test.YtepdapiceklppaaAbTot
namespace Go.Proofs.Ytepdapiceklppaa
open Go Go.Ab
set_option linter.unusedVariables false
set_option linter.unusedSimpArgs false
/-! The cursor of the draws: it always answers. -/
def Cur (k : Nat) (c : l1Cur) : Prop := 0 ≤ c.at_ ∧ c.at_ ≤ k
theorem Cur.mono {k k' : Nat} {c : l1Cur} (h : Cur k c) (hk : k ≤ k') : Cur k' c := ⟨h.1, by have := h.2; omega⟩
theorem next_ok {k : Nat} {c : l1Cur} (h : Cur k c) (hk : k ≤ 4000000000) : ∃ r, s_l1Cur_next c = some r ∧ Cur (k + 1) r.2 ∧ 0 ≤ r.1 ∧ r.1 ≤ 255 := by
  obtain ⟨h0, h1⟩ := h
  have hw : w64 (c.at_ + 1) = c.at_ + 1 := w64_id (by omega)
  have hcur : ∀ s, Cur (k + 1) ⟨c.code_, w64 (c.at_ + 1), s⟩ := fun s => by rw [hw]; exact ⟨by show 0 ≤ c.at_ + 1; omega, by show c.at_ + 1 ≤ _; omega⟩
  unfold s_l1Cur_next
  have hv : ∃ v, (if (decide (c.at_ < (c.code_.length : Int))) = true then (idx c.code_ c.at_).bind fun e1 => some (w64 ((e1.toNat : Int))) else some 0) = some v ∧ 0 ≤ v ∧ v ≤ 255 := by
    by_cases hlt : c.at_ < c.code_.length
    · obtain ⟨x, hx, _, _⟩ := idx_lt h0 hlt
      have := x.toNat_lt
      refine ⟨(x.toNat : Int), ?_, by omega, by omega⟩
      simp only [hlt, decide_true, if_true, hx, Option.bind_some]
      rw [w64_id (by omega)]
    · exact ⟨0, by simp [hlt], by omega, by omega⟩
  obtain ⟨v, hv, hv0, hv1⟩ := hv
  rw [hv]
  simp only [Option.bind_some]
  split
  · exact ⟨_, rfl, hcur _, hv0, hv1⟩
  · rw [chk_of (by omega)]
    exact ⟨_, rfl, hcur _, and255 _⟩
theorem pick_ok {k : Nat} {c : l1Cur} (n : Int) (h : Cur k c) (hk : k ≤ 3000000000) : ∃ r, s_l1Cur_pick c n = some r ∧ Cur (k + 2) r.2 ∧ 0 ≤ r.1 ∧ (r.1 < n ∨ r.1 = 0) := by
  unfold s_l1Cur_pick
  by_cases hn : n ≤ 1
  · exact ⟨(0, c), by simp [hn], h.mono (by omega), by simp, .inr rfl⟩
  · obtain ⟨r, hr, hc, h0, h1⟩ := next_ok h (by omega)
    have hn' : decide (n ≤ 1) = false := by simpa using hn
    simp only [hn', Bool.false_eq_true, if_false, hr, Option.bind_some]
    have hne : chk (n ≠ 0) = some () := chk_of (by omega)
    by_cases h2 : 200 < n
    · obtain ⟨r', hr', hc', h0', h1'⟩ := next_ok hc (by omega)
      have e1 : w64 (r.1 * 256) = r.1 * 256 := w64_id (by omega)
      have e2 : w64 (r.1 * 256 + r'.1) = r.1 * 256 + r'.1 := w64_id (by omega)
      have h3 := tmod_rng (a := r.1 * 256 + r'.1) (b := n) (by omega) (by omega)
      simp only [h2, decide_true, if_true, hr', Option.bind_some, hne, e1, e2]
      exact ⟨_, rfl, hc'.mono (by omega), h3.1, .inl h3.2⟩
    · have h2' : decide (200 < n) = false := by simpa using h2
      have h3 := tmod_rng (a := r.1) (b := n) (by omega) (by omega)
      simp only [h2', Bool.false_eq_true, if_false, Option.bind_some, hne]
      exact ⟨_, rfl, hc.mono (by omega), h3.1, .inl h3.2⟩
theorem amongw_ok {k : Nat} {c : l1Cur} (l : List Int) (hl : l ≠ []) (h : Cur k c) (hk : k ≤ 3000000000) : ∃ r, s_l1Cur_among_w c l = some r ∧ Cur (k + 2) r.2 ∧ r.1 ∈ l := by
  unfold s_l1Cur_among_w
  obtain ⟨r, hr, hc, h0, h1⟩ := pick_ok (l.length : Int) h hk
  have hpos : 0 < l.length := List.length_pos_iff.2 hl
  obtain ⟨x, hx, _, hm⟩ := idx_lt (l := l) h0 (by omega)
  simp only [hr, Option.bind_some, hx]
  exact ⟨_, rfl, hc, hm⟩
theorem among_ok {k : Nat} {c : l1Cur} (l : List Int) (hl : l ≠ []) (h : Cur k c) (hk : k ≤ 3000000000) : ∃ r, s_l1Cur_among c l = some r ∧ Cur (k + 2) r.2 ∧ r.1 ∈ l := by
  have : s_l1Cur_among c l = s_l1Cur_among_w c l := rfl
  rw [this]; exact amongw_ok l hl h hk
theorem one_ok {k : Nat} {c : l1Cur} (n : Int) (h : Cur k c) (hk : k ≤ 3000000000) : ∃ r, s_l1Cur_one c n = some r ∧ Cur (k + 2) r.2 := by
  unfold s_l1Cur_one
  obtain ⟨r, hr, hc, _, _⟩ := pick_ok n h hk
  simp only [hr, Option.bind_some]
  exact ⟨_, rfl, hc⟩
theorem cur0 (code : List UInt8) : Cur 0 ⟨code, 0, ⟨0⟩⟩ := ⟨by show (0 : Int) ≤ 0; omega, by show (0 : Int) ≤ _; omega⟩
/-! Rosters: when they are valid, for the program and for the reference. -/
theorem within_eq (n lo hi : Int) : i_within n lo hi = some (decide (lo ≤ n ∧ n ≤ hi)) := by
  unfold i_within
  by_cases h : lo ≤ n <;> simp [h]
theorem l1In_eq (n lo hi : Int) : s_l1In n lo hi = some (decide (lo ≤ n ∧ n ≤ hi)) := by
  unfold s_l1In
  by_cases h : lo ≤ n <;> simp [h]
def SpanOK (s : Span) : Prop := (0 ≤ s.From ∧ s.From ≤ 1799) ∧ (0 ≤ s.To ∧ s.To ≤ 1799) ∧ s.From ≤ s.To
noncomputable instance (s : Span) : Decidable (SpanOK s) := Classical.propDecidable _
theorem isSpan_eq (s : Span) : i_isSpan s = some (decide (SpanOK s)) := by
  unfold i_isSpan i_IsValidTime
  simp only [within_eq, Option.bind_some]
  unfold SpanOK
  by_cases h1 : 0 ≤ s.From ∧ s.From ≤ 1799
  · by_cases h2 : 0 ≤ s.To ∧ s.To ≤ 1799
    · by_cases h3 : s.From ≤ s.To <;> simp [h1, h2, h3]
    · simp [h1, h2]
  · simp [h1]
theorem l4Span_eq (s : Span) : s_l4Span s = some (decide (SpanOK s)) := by
  unfold s_l4Span s_l4Time
  simp only [l1In_eq, Option.bind_some]
  unfold SpanOK
  by_cases h1 : 0 ≤ s.From ∧ s.From ≤ 1799
  · by_cases h2 : 0 ≤ s.To ∧ s.To ≤ 1799
    · by_cases h3 : s.From ≤ s.To <;> simp [h1, h2, h3]
    · simp [h1, h2]
  · simp [h1]
def SpansP (l : List Span) : Prop := ∀ (i : Nat) s, l[i]? = some s → SpanOK s
def RowP (sh : Nat) (p : List Int) : Prop := ∀ (j : Nat) e, p[j]? = some e → -1 ≤ e ∧ e ≤ (sh : Int) - 1
def PlanP (r : Roster) : Prop := ∃ e0, r.Plan[0]? = some e0 ∧ (1 ≤ e0.length ∧ e0.length ≤ 14) ∧ ∀ (i : Nat) p, r.Plan[i]? = some p → p.length = e0.length ∧ RowP r.Shifts.length p
def RulesP (r : RosterRules) : Prop := (0 ≤ r.MinRest ∧ r.MinRest ≤ 1440) ∧ (1 ≤ r.MaxRow ∧ r.MaxRow ≤ 14) ∧ 0 ≤ r.MaxWeek ∧ r.MaxWeek ≤ 10080
def GoodR (r : Roster) : Prop := (1 ≤ r.Shifts.length ∧ r.Shifts.length ≤ 8) ∧ SpansP r.Shifts ∧ RulesP r.Rules ∧ (1 ≤ r.Plan.length ∧ r.Plan.length ≤ 6) ∧ PlanP r
noncomputable instance (l : List Span) : Decidable (SpansP l) := Classical.propDecidable _
noncomputable instance (sh : Nat) (p : List Int) : Decidable (RowP sh p) := Classical.propDecidable _
noncomputable instance (r : Roster) : Decidable (GoodR r) := Classical.propDecidable _
def RB (r : Roster) : Prop := r.Shifts.length ≤ 1000 ∧ r.Plan.length ≤ 1000 ∧ ∀ p ∈ r.Plan, p.length ≤ 1000

theorem areSpans_eq (l : List Span) (h : l.length ≤ 8) : i_areSpans l = some (decide (SpansP l)) := by
  unfold i_areSpans
  have d : decide ((20 : Int) < (l.length : Int)) = false := by simp; omega
  simp only [d, Bool.false_eq_true, if_false]
  rw [all_val (hd := Classical.propDecidable _) l (fun _ s => SpanOK s) (fun i x hx => ?_) (by unfold i_areSpans_L1; simp)]
  · by_cases b : ∀ (i : Nat) s, l[i]? = some s → SpanOK s
    · rw [if_pos b]; have : SpansP l := b; simp [this]
    · rw [if_neg b]; have : ¬ SpansP l := b; simp [this]
  · have hi := (List.getElem?_eq_some_iff.1 hx).1
    unfold i_areSpans_L1
    have hlt : decide ((i : Int) < (l.length : Int)) = true := by simp; omega
    simp only [hlt, if_true, idx_nat, hx, Option.bind_some, isSpan_eq, w64_succ (n := i) (by omega)]
    by_cases b : SpanOK x
    · left; simp [b]
    · right; simp [b]

theorem valid_eq (r : Roster) (h : RB r) : i_IsValidRoster r = some (decide (GoodR r)) := by
  obtain ⟨h1, h2, h3⟩ := h
  unfold i_IsValidRoster
  simp only [within_eq, Option.bind_some]
  by_cases a1 : 1 ≤ r.Shifts.length ∧ r.Shifts.length ≤ 8
  · have d1 : decide ((1 : Int) ≤ (r.Shifts.length : Int) ∧ (r.Shifts.length : Int) ≤ 8) = true := by simp; omega
    have esh : w64 ((r.Shifts.length : Int) - 1) = (r.Shifts.length : Int) - 1 := w64_id (by omega)
    simp only [d1, Bool.not_true, Bool.false_eq_true, if_false, areSpans_eq r.Shifts a1.2, Option.bind_some]
    by_cases a2 : SpansP r.Shifts
    · simp only [a2, decide_true, Bool.not_true, Bool.false_eq_true, if_false]
      by_cases a3 : RulesP r.Rules
      · obtain ⟨q1, q2, q3⟩ := a3
        simp only [q1, q2, q3, and_self, decide_true, Bool.not_true, Bool.false_eq_true, if_false, Option.bind_some]
        by_cases a4 : 1 ≤ r.Plan.length ∧ r.Plan.length ≤ 6
        · have d4 : decide ((1 : Int) ≤ (r.Plan.length : Int) ∧ (r.Plan.length : Int) ≤ 6) = true := by simp; omega
          obtain ⟨e0, he0⟩ := get_ex (l := r.Plan) (i := 0) (by omega)
          have hidx0 : idx r.Plan 0 = some e0 := by rw [show (0 : Int) = ((0 : Nat) : Int) from rfl, idx_nat]; exact he0
          simp only [d4, Bool.not_true, Bool.false_eq_true, if_false, hidx0, Option.bind_some]
          by_cases a5 : 1 ≤ e0.length ∧ e0.length ≤ 14
          · have d5 : decide ((1 : Int) ≤ (e0.length : Int) ∧ (e0.length : Int) ≤ 14) = true := by simp; omega
            simp only [d5, Bool.not_true, Bool.false_eq_true, if_false]
            rw [all_val (hd := Classical.propDecidable _) r.Plan (fun _ p => p.length = e0.length ∧ RowP r.Shifts.length p) (fun i x hx => ?_) (by unfold i_IsValidRoster_L2; simp)]
            · by_cases b : ∀ (i : Nat) p, r.Plan[i]? = some p → p.length = e0.length ∧ RowP r.Shifts.length p
              · rw [if_pos b]
                have : GoodR r := ⟨a1, a2, ⟨q1, q2, q3⟩, a4, e0, he0, a5, b⟩
                simp [this]
              · rw [if_neg b]
                have : ¬ GoodR r := fun hg => b fun i p hp => by
                  obtain ⟨e0', he0', _, hb⟩ := hg.2.2.2.2
                  rw [he0] at he0'; cases he0'
                  exact hb i p hp
                simp [this]
            · have hi := (List.getElem?_eq_some_iff.1 hx).1
              have hxl := h3 x (List.mem_of_getElem? hx)
              unfold i_IsValidRoster_L2
              have hlt : decide ((i : Int) < (r.Plan.length : Int)) = true := by simp; omega
              simp only [hlt, if_true, idx_nat, hx, hidx0, Option.bind_some]
              by_cases b1 : x.length = e0.length
              · have d6 : ((x.length : Int) != (e0.length : Int)) = false := by simp [b1]
                simp only [d6, Bool.false_eq_true, if_false]
                rw [all_valR (hd := Classical.propDecidable _) (Lp.dn (.ret false)) x (fun _ e => -1 ≤ e ∧ e ≤ (r.Shifts.length : Int) - 1) (fun j y hy => ?_) (by unfold i_IsValidRoster_L1; simp)]
                · by_cases b2 : ∀ (j : Nat) e, x[j]? = some e → -1 ≤ e ∧ e ≤ (r.Shifts.length : Int) - 1
                  · rw [if_pos b2]
                    left
                    refine ⟨by rw [w64_succ (n := i) (by omega)], b1, b2⟩
                  · rw [if_neg b2]
                    right
                    exact ⟨rfl, fun hc => b2 hc.2⟩
                · have hj := (List.getElem?_eq_some_iff.1 hy).1
                  unfold i_IsValidRoster_L1
                  have hlt : decide ((j : Int) < (x.length : Int)) = true := by simp; omega
                  simp only [hlt, if_true, idx_nat, hy, Option.bind_some, within_eq, esh, w64_succ (n := j) (by omega)]
                  by_cases b : -1 ≤ y ∧ y ≤ (r.Shifts.length : Int) - 1
                  · left; simp [b]
                  · right; simp [b]
              · have d6 : ((x.length : Int) != (e0.length : Int)) = true := by simp; omega
                simp only [d6, if_true]
                right
                exact ⟨trivial, fun hc => b1 hc.1⟩
          · have d5 : decide ((1 : Int) ≤ (e0.length : Int) ∧ (e0.length : Int) ≤ 14) = false := by simp; omega
            have : ¬ GoodR r := fun hg => by
              obtain ⟨e0', he0', hl, _⟩ := hg.2.2.2.2
              rw [he0] at he0'; cases he0'
              exact a5 hl
            simp [d5, this]
        · have d4 : decide ((1 : Int) ≤ (r.Plan.length : Int) ∧ (r.Plan.length : Int) ≤ 6) = false := by simp; omega
          have : ¬ GoodR r := fun hg => a4 hg.2.2.2.1
          simp [d4, this]
      · have : ¬ GoodR r := fun hg => a3 hg.2.2.1
        have hf : (if (!decide (0 ≤ r.Rules.MinRest ∧ r.Rules.MinRest ≤ 1440)) = true then some true else if (!decide (1 ≤ r.Rules.MaxRow ∧ r.Rules.MaxRow ≤ 14)) = true then some true else some (!decide (0 ≤ r.Rules.MaxWeek ∧ r.Rules.MaxWeek ≤ 10080))) = some true := by
          by_cases c1 : 0 ≤ r.Rules.MinRest ∧ r.Rules.MinRest ≤ 1440
          · by_cases c2 : 1 ≤ r.Rules.MaxRow ∧ r.Rules.MaxRow ≤ 14
            · have c3 : ¬ (0 ≤ r.Rules.MaxWeek ∧ r.Rules.MaxWeek ≤ 10080) := fun c3 => a3 ⟨c1, c2, c3⟩
              simp only [c1, c2, c3, and_self, decide_true, decide_false, Bool.not_true, Bool.not_false, Bool.false_eq_true, if_false]
            · simp [c1, c2]
          · simp [c1]
        rw [hf]
        simp [this]
    · have : ¬ GoodR r := fun hg => a2 hg.2.1
      simp [a2, this]
  · have d1 : decide ((1 : Int) ≤ (r.Shifts.length : Int) ∧ (r.Shifts.length : Int) ≤ 8) = false := by simp; omega
    have : ¬ GoodR r := fun hg => a1 hg.1
    simp [d1, this]

theorem good_eq (r : Roster) (h : RB r) : s_l14Good r = some (decide (GoodR r)) := by
  obtain ⟨h1, h2, h3⟩ := h
  unfold s_l14Good
  simp only [l1In_eq, Option.bind_some]
  by_cases a1 : 1 ≤ r.Shifts.length ∧ r.Shifts.length ≤ 8
  · have d1 : decide ((1 : Int) ≤ (r.Shifts.length : Int) ∧ (r.Shifts.length : Int) ≤ 8) = true := by simp; omega
    have esh : w64 ((r.Shifts.length : Int) - 1) = (r.Shifts.length : Int) - 1 := w64_id (by omega)
    simp only [d1, Bool.not_true, Bool.false_eq_true, if_false]
    by_cases a4 : 1 ≤ r.Plan.length ∧ r.Plan.length ≤ 6
    · have d4 : decide ((1 : Int) ≤ (r.Plan.length : Int) ∧ (r.Plan.length : Int) ≤ 6) = true := by simp; omega
      obtain ⟨e0, he0⟩ := get_ex (l := r.Plan) (i := 0) (by omega)
      have hidx0 : idx r.Plan 0 = some e0 := by rw [show (0 : Int) = ((0 : Nat) : Int) from rfl, idx_nat]; exact he0
      simp only [d4, Bool.not_true, Option.bind_some, Bool.false_eq_true, if_false]
      rw [all_val (hd := Classical.propDecidable _) r.Shifts (fun _ s => SpanOK s) (fun i x hx => ?_) (by unfold s_l14Good_L1; simp)]
      · rw [all_val (hd := Classical.propDecidable _) r.Plan (fun _ p => (1 ≤ p.length ∧ p.length ≤ 14) ∧ p.length = e0.length ∧ RowP r.Shifts.length p) (fun i x hx => ?_) (by unfold s_l14Good_L3; simp)]
        · by_cases a2 : ∀ (i : Nat) s, r.Shifts[i]? = some s → SpanOK s
          · rw [if_pos a2]
            by_cases b : ∀ (i : Nat) p, r.Plan[i]? = some p → (1 ≤ p.length ∧ p.length ≤ 14) ∧ p.length = e0.length ∧ RowP r.Shifts.length p
            · rw [if_pos b]
              have hP : PlanP r := ⟨e0, he0, (b 0 e0 he0).1, fun i p hp => (b i p hp).2⟩
              by_cases c1 : 0 ≤ r.Rules.MinRest ∧ r.Rules.MinRest ≤ 1440
              · by_cases c2 : 1 ≤ r.Rules.MaxRow ∧ r.Rules.MaxRow ≤ 14
                · by_cases c3 : 0 ≤ r.Rules.MaxWeek ∧ r.Rules.MaxWeek ≤ 10080
                  · have : GoodR r := ⟨a1, a2, ⟨c1, c2, c3⟩, a4, hP⟩
                    simp [c1, c2, c3, this]
                  · have : ¬ GoodR r := fun hg => c3 hg.2.2.1.2.2
                    simp only [c1, c2, c3, and_self, decide_true, decide_false, if_true, Option.bind_some, this]
                · have : ¬ GoodR r := fun hg => c2 hg.2.2.1.2.1
                  simp [c1, c2, this]
              · have : ¬ GoodR r := fun hg => c1 hg.2.2.1.1
                simp [c1, this]
            · rw [if_neg b]
              have : ¬ GoodR r := fun hg => b fun i p hp => by
                obtain ⟨e0', he0', hl, hb⟩ := hg.2.2.2.2
                rw [he0] at he0'; cases he0'
                have := hb i p hp
                exact ⟨by rw [this.1]; exact hl, this⟩
              simp [this]
          · rw [if_neg a2]
            have : ¬ GoodR r := fun hg => a2 hg.2.1
            simp [this]
        · have hi := (List.getElem?_eq_some_iff.1 hx).1
          have hxl := h3 x (List.mem_of_getElem? hx)
          unfold s_l14Good_L3
          have hlt : decide ((i : Int) < (r.Plan.length : Int)) = true := by simp; omega
          simp only [hlt, if_true, idx_nat, hx, hidx0, Option.bind_some, l1In_eq]
          by_cases b0 : 1 ≤ x.length ∧ x.length ≤ 14
          · have d0 : decide ((1 : Int) ≤ (x.length : Int) ∧ (x.length : Int) ≤ 14) = true := by simp; omega
            simp only [d0, Bool.not_true, Bool.false_eq_true, if_false]
            by_cases b1 : x.length = e0.length
            · have d6 : ((x.length : Int) != (e0.length : Int)) = false := by simp [b1]
              simp only [d6, Bool.false_eq_true, if_false, Option.bind_some]
              rw [all_valR (hd := Classical.propDecidable _) (Lp.dn (.ret false)) x (fun _ e => -1 ≤ e ∧ e ≤ (r.Shifts.length : Int) - 1) (fun j y hy => ?_) (by unfold s_l14Good_L2; simp [idx_nat, hx])]
              · by_cases b2 : ∀ (j : Nat) e, x[j]? = some e → -1 ≤ e ∧ e ≤ (r.Shifts.length : Int) - 1
                · rw [if_pos b2]
                  left
                  refine ⟨by rw [w64_succ (n := i) (by omega)], b0, b1, b2⟩
                · rw [if_neg b2]
                  right
                  exact ⟨rfl, fun hc => b2 hc.2.2⟩
              · have hj := (List.getElem?_eq_some_iff.1 hy).1
                unfold s_l14Good_L2
                have hlt : decide ((j : Int) < (x.length : Int)) = true := by simp; omega
                simp only [hlt, if_true, idx_nat, hx, hy, Option.bind_some, l1In_eq, esh, w64_succ (n := j) (by omega)]
                by_cases b : -1 ≤ y ∧ y ≤ (r.Shifts.length : Int) - 1
                · left; simp [b]
                · right; simp [b]
            · have d6 : ((x.length : Int) != (e0.length : Int)) = true := by simp; omega
              simp only [d6, if_true, Option.bind_some]
              right
              exact ⟨trivial, fun hc => b1 hc.2.1⟩
          · have d0 : decide ((1 : Int) ≤ (x.length : Int) ∧ (x.length : Int) ≤ 14) = false := by simp; omega
            simp only [d0, Bool.not_false, if_true, Option.bind_some]
            right
            exact ⟨trivial, fun hc => b0 hc.1⟩
      · have hi := (List.getElem?_eq_some_iff.1 hx).1
        unfold s_l14Good_L1
        have hlt : decide ((i : Int) < (r.Shifts.length : Int)) = true := by simp; omega
        simp only [hlt, if_true, idx_nat, hx, Option.bind_some, l4Span_eq, w64_succ (n := i) (by omega)]
        by_cases b : SpanOK x
        · left; simp [b]
        · right; simp [b]
    · have d4 : decide ((1 : Int) ≤ (r.Plan.length : Int) ∧ (r.Plan.length : Int) ≤ 6) = false := by simp; omega
      have : ¬ GoodR r := fun hg => a4 hg.2.2.2.1
      simp [d4, this]
  · have d1 : decide ((1 : Int) ≤ (r.Shifts.length : Int) ∧ (r.Shifts.length : Int) ≤ 8) = false := by simp; omega
    have : ¬ GoodR r := fun hg => a1 hg.1
    simp [d1, this]
/-! A driver's weeks, rests and rows. -/
theorem least_eq (a b : Int) : s_l1Least a b = some (if a < b then a else b) := by
  unfold s_l1Least
  by_cases h : a < b <;> simp [h]
theorem most_eq (a b : Int) : s_l1Most a b = some (if b < a then a else b) := by
  unfold s_l1Most
  by_cases h : b < a <;> simp [h]
theorem length_eq : s_l14Length = i_minutesOn := rfl
theorem week1_eq (r : Roster) (d : Int) (e : List Int) (k : Int) : s_l14Week_L1 r d e k = i_busiestWeek_L1 r d e k := by
  funext x
  obtain ⟨v1, v2⟩ := x
  unfold s_l14Week_L1 i_busiestWeek_L1
  have hm : (if w64 (k + 7) < (e.length : Int) then w64 (k + 7) else (e.length : Int)) = (if (e.length : Int) < w64 (k + 7) then (e.length : Int) else w64 (k + 7)) := by
    by_cases h : w64 (k + 7) < (e.length : Int)
    · rw [if_pos h, if_neg (by omega)]
    · by_cases h2 : (e.length : Int) < w64 (k + 7)
      · rw [if_neg h, if_pos h2]
      · rw [if_neg h, if_neg h2]; omega
  simp only [least_eq, Option.bind_some, hm, length_eq]
theorem week_eq (r : Roster) (d : Int) : s_l14Week r d = i_busiestWeek r d := by
  unfold s_l14Week i_busiestWeek
  have : ∀ e, s_l14Week_L2 r d e = i_busiestWeek_L2 r d e := fun e => by
    funext x
    obtain ⟨n, s, k⟩ := x
    unfold s_l14Week_L2 i_busiestWeek_L2
    simp only [week1_eq]
  simp only [this]

theorem row_facts {r : Roster} (hg : GoodR r) {d : Nat} {p : List Int} (hp : r.Plan[d]? = some p) : (1 ≤ p.length ∧ p.length ≤ 14) ∧ ∀ (j : Nat) e, p[j]? = some e → -1 ≤ e ∧ e ≤ (r.Shifts.length : Int) - 1 := by
  obtain ⟨e0, he0, hl, hb⟩ := hg.2.2.2.2
  have := hb d p hp
  exact ⟨by rw [this.1]; exact hl, this.2⟩
theorem shift_of {r : Roster} (hg : GoodR r) {d : Nat} {p : List Int} (hp : r.Plan[d]? = some p) {j : Nat} {e : Int} (he : p[j]? = some e) (h0 : 0 ≤ e) : ∃ s, idx r.Shifts e = some s ∧ SpanOK s := by
  have := (row_facts hg hp).2 j e he
  obtain ⟨s, hs, hs2, _⟩ := idx_lt (l := r.Shifts) (i := e) h0 (by omega)
  exact ⟨s, hs, hg.2.1 _ s hs2⟩
theorem minutes_ok {r : Roster} (hg : GoodR r) {d : Nat} {p : List Int} (hp : r.Plan[d]? = some p) {j : Nat} (hj : j < p.length) : ∃ m, i_minutesOn r (d : Int) (j : Int) = some m := by
  obtain ⟨e, he⟩ := get_ex hj
  unfold i_minutesOn
  simp only [idx_nat, hp, he, Option.bind_some]
  by_cases h : e < 0
  · simp [h]
  · obtain ⟨s, hs, _⟩ := shift_of hg hp he (by omega)
    simp [h, hs]
theorem week_ok {r : Roster} (hg : GoodR r) {d : Nat} {p : List Int} (hp : r.Plan[d]? = some p) : ∃ w, i_busiestWeek r (d : Int) = some w := by
  unfold i_busiestWeek
  simp only [idx_nat, hp, Option.bind_some]
  obtain ⟨l1, l2⟩ := (row_facts hg hp).1
  have inner : ∀ k : Nat, k ≤ p.length → ∃ b, iter (i_busiestWeek_L1 r (d : Int) p (k : Int)) (0, (k : Int)) = some b := by
    intro k hk
    have w7 : w64 ((k : Int) + 7) = (k : Int) + 7 := w64_id (by omega)
    have h := iter_rule (step := i_busiestWeek_L1 r (d : Int) p (k : Int)) (fun m a => ∃ v : Nat, a.2 = (v : Int) ∧ m + v = k + 14) (fun _ => True) ?_ (k := 14) (a := (0, (k : Int))) ⟨k, rfl, by omega⟩
    · obtain ⟨b, hb, _⟩ := h; exact ⟨b, hb⟩
    rintro m ⟨s, v⟩ ⟨i, hv, hm⟩
    simp only at hv
    subst hv
    unfold i_busiestWeek_L1
    simp only [w7]
    by_cases hc : (i : Int) < (if (p.length : Int) < (k : Int) + 7 then (p.length : Int) else (k : Int) + 7)
    · left
      have hip : i < p.length ∧ i < k + 7 := by
        split at hc <;> omega
      obtain ⟨mm, hmm⟩ := minutes_ok hg hp hip.1
      refine ⟨_, m - 1, by simp only [hc, decide_true, if_true, hmm, Option.bind_some, w64_succ (n := i) (by omega)]; rfl, by omega, i + 1, rfl, by omega⟩
    · right
      exact ⟨_, by simp only [hc, decide_false, Bool.false_eq_true, if_false]; rfl, trivial⟩
  have h := iter_rule (step := i_busiestWeek_L2 r (d : Int) p) (fun m a => ∃ k : Nat, a.2.2 = (k : Int) ∧ m + k = 20 ∧ k ≤ p.length) (fun _ => True) ?_ (k := 20) (a := (0, -1, 0)) ⟨0, rfl, by omega, by omega⟩
  · obtain ⟨b, hb, _⟩ := h
    rw [hb]
    exact ⟨_, rfl⟩
  rintro m ⟨f, s, day⟩ ⟨k, hk, hm, hkl⟩
  simp only at hk
  subst hk
  unfold i_busiestWeek_L2
  have w7 : w64 ((k : Int) + 7) = (k : Int) + 7 := w64_id (by omega)
  simp only [w7]
  obtain ⟨b, hb⟩ := inner k hkl
  have hc : ∃ c : Bool, (if ((k : Int) == 0) = true then some true else some (decide ((k : Int) + 7 ≤ (p.length : Int)))) = some c ∧ (c = true → k + 1 ≤ p.length) := by
    by_cases h0 : k = 0
    · exact ⟨true, by simp [h0], fun _ => by omega⟩
    · have : ((k : Int) == 0) = false := by simp; omega
      refine ⟨decide ((k : Int) + 7 ≤ (p.length : Int)), by simp [this], fun h => ?_⟩
      have := of_decide_eq_true h
      omega
  obtain ⟨c, hc, hc2⟩ := hc
  rw [hc]
  simp only [Option.bind_some]
  cases c with
  | false => right; exact ⟨_, by simp; rfl, trivial⟩
  | true =>
    left
    have := hc2 rfl
    by_cases h2 : s < b
    · exact ⟨_, m - 1, by simp only [if_true, hb, Option.bind_some, h2, decide_true, w64_succ (n := k) (by omega)]; rfl, by omega, k + 1, rfl, by omega, this⟩
    · exact ⟨_, m - 1, by simp only [if_true, hb, Option.bind_some, h2, decide_false, Bool.false_eq_true, if_false, w64_succ (n := k) (by omega)]; rfl, by omega, k + 1, rfl, by omega, this⟩

/-- The two ways of remembering the last shift. -/
def Rel (r : Roster) (p : List Int) (a b : Int × Int × List Int) : Prop :=
  ∃ v : Nat, a.2.1 = (v : Int) ∧ b.2.1 = (v : Int) ∧ v ≤ p.length ∧ a.2.2 = b.2.2 ∧ a.2.2.length ≤ v ∧
    ((a.1 = -1 ∧ b.1 = -1000000) ∨ ∃ (s : Nat) (e : Int) (sp : Span), a.1 = (s : Int) ∧ s < v ∧ p[s]? = some e ∧ 0 ≤ e ∧ idx r.Shifts e = some sp ∧ SpanOK sp ∧ b.1 = 1440 * (s : Int) + sp.To)
theorem rest_step {r : Roster} (hg : GoodR r) {d : Nat} {p : List Int} (hp : r.Plan[d]? = some p) (a b : Int × Int × List Int) (hR : Rel r p a b) : (∃ a' b', i_brokenRests_L1 r (d : Int) p a = some (.nx a') ∧ s_l14Rests_L1 r (d : Int) b = some (.nx b') ∧ Rel r p a' b' ∧ a'.2.1 = a.2.1 + 1 ∧ a.2.1 < p.length) ∨
    ∃ x, i_brokenRests_L1 r (d : Int) p a = some (.dn x) ∧ s_l14Rests_L1 r (d : Int) b = some (.dn x) ∧ x.length ≤ 14 := by
  obtain ⟨s, va, day⟩ := a
  obtain ⟨t, vb, day'⟩ := b
  obtain ⟨v, h1, h2, h3, h4, h5, h6⟩ := hR
  simp only at h1 h2 h4 h5 h6
  subst h1; subst h2; subst h4
  obtain ⟨l1, l2⟩ := (row_facts hg hp).1
  obtain ⟨q1, q2, q3⟩ := hg.2.2.1
  unfold i_brokenRests_L1 s_l14Rests_L1
  simp only [idx_nat, hp, Option.bind_some]
  by_cases hv : v < p.length
  · left
    have hlt : decide ((v : Int) < (p.length : Int)) = true := by simp; omega
    obtain ⟨e, he⟩ := get_ex hv
    have hw := w64_succ (n := v) (by omega)
    simp only [hlt, if_true, he, Option.bind_some, hw]
    by_cases he0 : e < 0
    · refine ⟨(s, ((v + 1 : Nat) : Int), day), (t, ((v + 1 : Nat) : Int), day), by simp [he0], by simp [he0], ⟨v + 1, rfl, rfl, by omega, rfl, by show day.length ≤ v + 1; omega, ?_⟩, by show ((v + 1 : Nat) : Int) = (v : Int) + 1; omega, by show (v : Int) < _; omega⟩
      rcases h6 with h6 | ⟨s', e', sp, g1, g2, g3⟩
      · exact .inl h6
      · exact .inr ⟨s', e', sp, g1, by omega, g3⟩
    · obtain ⟨sp, hsp, hok⟩ := shift_of hg hp he (by omega)
      obtain ⟨o1, o2, o3⟩ := hok
      have hch : chk (day.length + ([(v : Int)] : List Int).length ≤ 4294967296) = some () := chk_of (by simp; omega)
      have e1 : w64 (1440 * (v : Int)) = 1440 * (v : Int) := w64_id (by omega)
      have e2 : w64 (1440 * (v : Int) + sp.From) = 1440 * (v : Int) + sp.From := w64_id (by omega)
      have e3 : w64 (1440 * (v : Int) + sp.To) = 1440 * (v : Int) + sp.To := w64_id (by omega)
      have fin : ∀ dd : List Int, dd.length ≤ v + 1 → Rel r p ((v : Int), ((v + 1 : Nat) : Int), dd) (1440 * (v : Int) + sp.To, ((v + 1 : Nat) : Int), dd) := fun dd hdd =>
        ⟨v + 1, rfl, rfl, by omega, rfl, hdd, .inr ⟨v, e, sp, rfl, by omega, he, by omega, hsp, ⟨o1, o2, o3⟩, rfl⟩⟩
      have hne : decide (e < 0) = false := by simpa using he0
      simp only [hne, Bool.false_eq_true, if_false, hsp, hch, Option.bind_some, e1, e2, e3]
      rcases h6 with ⟨rfl, rfl⟩ | ⟨s', e', sp', rfl, g2, g3, g4, g5, ⟨g6, g7, g8⟩, rfl⟩
      · have e4 : w64 (1440 * (v : Int) + sp.From - -1000000) = 1440 * (v : Int) + sp.From + 1000000 := by rw [w64_id (by omega)]; omega
        have c1 : decide ((0 : Int) ≤ -1) = false := by decide
        have c2 : decide (1440 * (v : Int) + sp.From + 1000000 < r.Rules.MinRest) = false := by simp; omega
        simp only [c1, e4, c2, Bool.false_eq_true, if_false, Option.bind_some]
        exact ⟨_, _, rfl, rfl, fin day (by omega), by show ((v + 1 : Nat) : Int) = (v : Int) + 1; omega, by show (v : Int) < _; omega⟩
      · have c1 : decide ((0 : Int) ≤ (s' : Int)) = true := by simp
        have f1 : w64 (1440 * (s' : Int)) = 1440 * (s' : Int) := w64_id (by omega)
        have f2 : w64 (1440 * (s' : Int) + sp'.To) = 1440 * (s' : Int) + sp'.To := w64_id (by omega)
        have f3 : w64 (1440 * (s' : Int) + sp'.To + r.Rules.MinRest) = 1440 * (s' : Int) + sp'.To + r.Rules.MinRest := w64_id (by omega)
        have f4 : w64 (1440 * (v : Int) + sp.From - (1440 * (s' : Int) + sp'.To)) = 1440 * (v : Int) + sp.From - (1440 * (s' : Int) + sp'.To) := w64_id (by omega)
        simp only [c1, if_true, idx_nat, g3, g5, Option.bind_some, f1, f2, f3, f4]
        by_cases hc : 1440 * (v : Int) + sp.From < 1440 * (s' : Int) + sp'.To + r.Rules.MinRest
        · have c2 : decide (1440 * (v : Int) + sp.From < 1440 * (s' : Int) + sp'.To + r.Rules.MinRest) = true := by simpa using hc
          have c3 : decide (1440 * (v : Int) + sp.From - (1440 * (s' : Int) + sp'.To) < r.Rules.MinRest) = true := by simp; omega
          simp only [c2, c3, if_true, Option.bind_some]
          exact ⟨_, _, rfl, rfl, fin (day ++ [(v : Int)]) (by simp; omega), by show ((v + 1 : Nat) : Int) = (v : Int) + 1; omega, by show (v : Int) < _; omega⟩
        · have c2 : decide (1440 * (v : Int) + sp.From < 1440 * (s' : Int) + sp'.To + r.Rules.MinRest) = false := by simpa using hc
          have c3 : decide (1440 * (v : Int) + sp.From - (1440 * (s' : Int) + sp'.To) < r.Rules.MinRest) = false := by simp; omega
          simp only [c2, c3, Bool.false_eq_true, if_false, Option.bind_some]
          exact ⟨_, _, rfl, rfl, fin day (by omega), by show ((v + 1 : Nat) : Int) = (v : Int) + 1; omega, by show (v : Int) < _; omega⟩
  · right
    have hlt : decide ((v : Int) < (p.length : Int)) = false := by simp; omega
    exact ⟨day, by simp only [hlt, Bool.false_eq_true, if_false], by simp only [hlt, Bool.false_eq_true, if_false], by omega⟩
theorem rests_ok {r : Roster} (hg : GoodR r) {d : Nat} {p : List Int} (hp : r.Plan[d]? = some p) : ∃ l, i_brokenRests r (d : Int) = some l ∧ s_l14Rests r (d : Int) = some l ∧ l.length ≤ 14 := by
  have h0 : Rel r p (-1, 0, []) (-1000000, 0, []) := ⟨0, rfl, rfl, by omega, rfl, by simp, .inl ⟨rfl, rfl⟩⟩
  have h := iter_rule (step := i_brokenRests_L1 r (d : Int) p) (fun m a => ((m : Int) + a.2.1 = 15 ∧ a.2.1 ≤ p.length) ∧ ∃ b, Rel r p a b) (fun x => x.length ≤ 14) ?_ (k := 15) (a := (-1, 0, [])) ⟨⟨by simp, by simp⟩, _, h0⟩
  · obtain ⟨l, hl, hll⟩ := h
    have hs := iter_sim (step := i_brokenRests_L1 r (d : Int) p) (step' := s_l14Rests_L1 r (d : Int)) (Rel r p) (fun a b hR => by
      rcases rest_step hg hp a b hR with ⟨a', b', h1, h2, h3, _⟩ | ⟨x, h1, h2, _⟩
      · exact .inl ⟨a', b', h1, h2, h3⟩
      · exact .inr ⟨x, h1, h2⟩) h0 hl
    refine ⟨l, ?_, ?_, hll⟩
    · unfold i_brokenRests
      simp only [idx_nat, hp, Option.bind_some, hl]
    · unfold s_l14Rests
      rw [hs]; rfl
  rintro m a ⟨⟨hm, hle⟩, b, hR⟩
  obtain ⟨l1, l2⟩ := (row_facts hg hp).1
  rcases rest_step hg hp a b hR with ⟨a', b', h1, _, h3, h4, h5⟩ | ⟨x, h1, _, h3⟩
  · exact .inl ⟨a', m - 1, h1, by omega, ⟨⟨by omega, by omega⟩, b', h3⟩⟩
  · exact .inr ⟨x, h1, h3⟩
theorem row_eq {r : Roster} {d : Nat} {p : List Int} (hp : r.Plan[d]? = some p) : s_l14Row r (d : Int) = i_longestRow r (d : Int) := by
  unfold s_l14Row i_longestRow
  simp only [idx_nat, hp, Option.bind_some]
  have : s_l14Row_L1 r (d : Int) = i_longestRow_L1 p := by
    funext x
    obtain ⟨a, b, c⟩ := x
    unfold s_l14Row_L1 i_longestRow_L1
    have hm : ∀ y : Int, (if y < a then a else y) = (if y > a then y else a) := fun y => by
      by_cases h1 : y < a
      · rw [if_pos h1, if_neg (by omega)]
      · by_cases h2 : y > a
        · rw [if_neg h1, if_pos h2]
        · rw [if_neg h1, if_neg h2]; omega
    simp only [idx_nat, hp, Option.bind_some, most_eq, hm, Option.bind_assoc]
  rw [this]
theorem row_ok {r : Roster} (hg : GoodR r) {d : Nat} {p : List Int} (hp : r.Plan[d]? = some p) : ∃ x, i_longestRow r (d : Int) = some x := by
  unfold i_longestRow
  simp only [idx_nat, hp, Option.bind_some]
  obtain ⟨l1, l2⟩ := (row_facts hg hp).1
  have h := iter_rule (step := i_longestRow_L1 p) (fun m a => ∃ v : Nat, a.2.2 = (v : Int) ∧ m + v = p.length) (fun _ => True) ?_ (k := p.length) (a := (0, 0, 0)) ⟨0, rfl, by omega⟩
  · obtain ⟨b, hb, _⟩ := h
    rw [hb]; exact ⟨_, rfl⟩
  rintro m ⟨a, b, c⟩ ⟨v, hv, hm⟩
  simp only at hv
  subst hv
  unfold i_longestRow_L1
  by_cases hlt : v < p.length
  · left
    have hd : decide ((v : Int) < (p.length : Int)) = true := by simp; omega
    obtain ⟨e, he⟩ := get_ex hlt
    by_cases h0 : e < 0
    · exact ⟨_, m - 1, by simp only [hd, if_true, idx_nat, he, Option.bind_some, h0, decide_true, w64_succ (n := v) (by omega)]; rfl, by omega, v + 1, rfl, by omega⟩
    · exact ⟨_, m - 1, by simp only [hd, if_true, idx_nat, he, Option.bind_some, h0, decide_false, Bool.false_eq_true, if_false, w64_succ (n := v) (by omega)]; rfl, by omega, v + 1, rfl, by omega⟩
  · right
    have hd : decide ((v : Int) < (p.length : Int)) = false := by simp; omega
    exact ⟨_, by simp only [hd, Bool.false_eq_true, if_false]; rfl, trivial⟩
/-- A driver's numbers, and whether the rules are kept. -/
theorem driver_ok {r : Roster} (hg : GoodR r) {d : Nat} {p : List Int} (hp : r.Plan[d]? = some p) : ∃ w rs x, i_busiestWeek r (d : Int) = some w ∧ i_brokenRests r (d : Int) = some rs ∧ i_longestRow r (d : Int) = some x ∧ rs.length ≤ 14 ∧
    i_keepsRules r (d : Int) = some (decide (rs.length = 0 ∧ x ≤ r.Rules.MaxRow ∧ w.2 ≤ r.Rules.MaxWeek)) ∧ s_l14Keeps r (d : Int) = some (decide (rs.length = 0 ∧ x ≤ r.Rules.MaxRow ∧ w.2 ≤ r.Rules.MaxWeek)) := by
  obtain ⟨w, hw⟩ := week_ok hg hp
  obtain ⟨rs, hr1, hr2, hr3⟩ := rests_ok hg hp
  obtain ⟨x, hx⟩ := row_ok hg hp
  have key : (if ((rs.length : Int) == 0) = true then if decide (x ≤ r.Rules.MaxRow) = true then some (decide (w.2 ≤ r.Rules.MaxWeek)) else some false else some false) = some (decide (rs.length = 0 ∧ x ≤ r.Rules.MaxRow ∧ w.2 ≤ r.Rules.MaxWeek)) := by
    by_cases h1 : rs.length = 0
    · have : ((rs.length : Int) == 0) = true := by rw [h1]; rfl
      by_cases h2 : x ≤ r.Rules.MaxRow <;> simp [h1, h2]
    · have : ((rs.length : Int) == 0) = false := beq_eq_false_iff_ne.2 (by omega)
      simp only [this, Bool.false_eq_true, if_false, h1, false_and, decide_false]
  refine ⟨w, rs, x, hw, hr1, hx, hr3, ?_, ?_⟩
  · unfold i_keepsRules
    simp only [hw, hr1, hx, Option.bind_some, key]
  · unfold s_l14Keeps
    simp only [week_eq, hw, hr2, row_eq hp, hx, Option.bind_some, key]
/-! Turned rosters; what is asked; the draws. -/
theorem cloneI_eq (l : List Int) (h : l.length ≤ 1000) : slices_Clone_int l = some l := by
  unfold slices_Clone_int
  rw [chk_of (by simp; omega)]; rfl
theorem cloneP_eq (l : List Span) (h : l.length ≤ 1000) : slices_Clone_Span l = some l := by
  unfold slices_Clone_Span
  rw [chk_of (by simp; omega)]; rfl
theorem own_eq (l : List Int) (h : l.length ≤ 1000) : s_l1Own_f l = some l := by
  unfold s_l1Own_f
  rw [chk_of (by simp; omega)]; rfl
theorem copyRoster_eq (r : Roster) (h : RB r) : i_copyRoster r = some r := by
  obtain ⟨h1, h2, h3⟩ := h
  unfold i_copyRoster i_copyLists
  rw [cloneP_eq _ h1, chk_of (by omega)]
  simp only [Option.bind_some]
  rw [fill_loop (fun x : List Int => x) r.Plan _ (by simp) (fun i a x y ha hy hx => ?_) (fun a ha => ?_)]
  · simp only [Option.bind_some, List.map_id']
  · have hi := (List.getElem?_eq_some_iff.1 hx).1
    have g1 := h3 x (List.mem_of_getElem? hx)
    unfold i_copyLists_L1
    have hlt : decide ((i : Int) < (r.Plan.length : Int)) = true := by simp; omega
    simp only [hlt, if_true, idx_nat, hx, hy, Option.bind_some, cloneI_eq x g1, w64_succ (n := i) (by omega), Int.toNat_natCast]
  · unfold i_copyLists_L1; simp
theorem isDriver_eq (r : Roster) (d : Int) : i_isDriver r d = some (decide (0 ≤ d ∧ d < (r.Plan.length : Int))) := by
  unfold i_isDriver
  by_cases h : 0 ≤ d <;> simp [h]
/-! The draws -/
def DR (r : Roster) : Prop := r.Shifts.length ≤ 10 ∧ (1 ≤ r.Plan.length ∧ r.Plan.length ≤ 10) ∧ ∀ p ∈ r.Plan, p.length ≤ 20
theorem DR.rb {r : Roster} (h : DR r) : RB r := ⟨by have := h.1; omega, by have := h.2.1.2; omega, fun p hp => by have := h.2.2 p hp; omega⟩
theorem roster_ok {k : Nat} {c : l1Cur} (h : Cur k c) (hk : k ≤ 500000000) : ∃ r, s_l1Cur_roster c = some r ∧ Cur (k + 1000) r.2 ∧ DR r.1 := by
  unfold s_l1Cur_roster
  obtain ⟨r, hr, hc, _⟩ := amongw_ok [0, 480, 600, 660] (by simp) h (by omega)
  obtain ⟨r1, hr1, hc1, _⟩ := amongw_ok [2, 3, 5, 6, 14] (by simp) hc (by omega)
  obtain ⟨r2, hr2, hc2, _⟩ := amongw_ok [10080, 2400, 1500, 3000] (by simp) hc1 (by omega)
  obtain ⟨r3, hr3, hc3, h30, h31⟩ := pick_ok 4 hc2 (by omega)
  have e1 : w64 (1 + r3.1) = ((1 + r3.1.toNat : Nat) : Int) := by rw [w64_id (by omega)]; omega
  simp only [hr, hr1, hr2, hr3, Option.bind_some, e1]
  have loop : ∃ b, iter s_l1Cur_roster_L1 (((1 + r3.1.toNat : Nat) : Int), r3.2.code_, r3.2.at_, r3.2.seed_.v, []) = some b ∧ (Cur (k + 8 + 2 * 4) ⟨b.1, b.2.1, ⟨b.2.2.1⟩⟩ ∧ b.2.2.2.length ≤ 4) := by
    refine iter_rule (fun m a => a.1 = (m : Int) ∧ m + a.2.2.2.2.length ≤ 4 ∧ Cur (k + 8 + 2 * (4 - m)) ⟨a.2.1, a.2.2.1, ⟨a.2.2.2.1⟩⟩) _ ?_ (k := 1 + r3.1.toNat) ⟨rfl, by simp; omega, hc3.mono (by omega)⟩
    rintro m ⟨x, v, v1, v2, v3⟩ ⟨hx, hl, hcur⟩
    simp only at hx hl hcur
    subst hx
    unfold s_l1Cur_roster_L1
    cases m with
    | zero => right; exact ⟨_, by simp; rfl, hcur, by show v3.length ≤ 4; omega⟩
    | succ m =>
      left
      have hpos : decide ((0 : Int) < ((m + 1 : Nat) : Int)) = true := by simp
      have hsix : ([(⟨300, 780⟩ : Span), (⟨360, 840⟩ : Span), (⟨720, 1200⟩ : Span), (⟨960, 1440⟩ : Span), (⟨1200, 1700⟩ : Span), (⟨540, 540⟩ : Span)] : List Span).length = 6 := rfl
      obtain ⟨r5, hr5, hc5, h50, h51⟩ := pick_ok (([(⟨300, 780⟩ : Span), (⟨360, 840⟩ : Span), (⟨720, 1200⟩ : Span), (⟨960, 1440⟩ : Span), (⟨1200, 1700⟩ : Span), (⟨540, 540⟩ : Span)] : List Span).length : Int) hcur (by omega)
      obtain ⟨e, he, _⟩ := idx_lt (l := ([(⟨300, 780⟩ : Span), (⟨360, 840⟩ : Span), (⟨720, 1200⟩ : Span), (⟨960, 1440⟩ : Span), (⟨1200, 1700⟩ : Span), (⟨540, 540⟩ : Span)] : List Span)) (i := r5.1) h50 (by rw [hsix] at h51 ⊢; omega)
      have hch : chk (v3.length + ([e] : List Span).length ≤ 4294967296) = some () := chk_of (by simp; omega)
      refine ⟨_, m, by simp only [hpos, if_true, hr5, he, hch, Option.bind_some]; rfl, by omega, ?_, ?_, ?_⟩
      · exact w64_pred (by omega)
      · simp; omega
      · exact hc5.mono (by omega)
  obtain ⟨⟨v4, v5, v6, v7⟩, hb, hcb, hlb⟩ := loop
  simp only at hcb hlb
  rw [hb]
  simp only [Option.bind_some]
  obtain ⟨r6, hr6, hc6, h60, h61⟩ := pick_ok 4 hcb (by omega)
  obtain ⟨r7, hr7, hc7, h70, h71⟩ := pick_ok 9 hc6 (by omega)
  have e6 : w64 (1 + r6.1) = 1 + r6.1 := w64_id (by omega)
  have e7 : w64 (1 + r7.1) = 1 + r7.1 := w64_id (by omega)
  simp only [hr6, hr7, Option.bind_some]
  have loop2 : ∀ (q : Nat) (a : List UInt8) (b c : Int), Cur q ⟨a, b, ⟨c⟩⟩ → q ≤ 600000000 → ∃ o, iter (s_l1Cur_roster_L2 v7 r7) (0, a, b, c, []) = some o ∧ (Cur (q + 40) ⟨o.1, o.2.1, ⟨o.2.2.1⟩⟩ ∧ 1 ≤ o.2.2.2.length ∧ o.2.2.2.length ≤ 10) := by
    intro q a b c hq hq2
    refine iter_rule (fun m s => ∃ i : Nat, s.1 = (i : Int) ∧ m + i = 10 ∧ (i : Int) ≤ 1 + r7.1 ∧ s.2.2.2.2.length = i ∧ Cur (q + 4 * i) ⟨s.2.1, s.2.2.1, ⟨s.2.2.2.1⟩⟩) _ ?_ (k := 10) ⟨0, rfl, rfl, by omega, rfl, hq.mono (by omega)⟩
    rintro m ⟨s1, v12, v13, v14, d⟩ ⟨i, hi, hm, hi7, hl, hcur⟩
    simp only at hi hl hcur
    subst hi
    unfold s_l1Cur_roster_L2
    simp only [e7]
    by_cases hlt : (i : Int) < 1 + r7.1
    · left
      have hd : decide ((i : Int) < 1 + r7.1) = true := by simpa using hlt
      obtain ⟨r8, hr8, hc8⟩ := one_ok 2 hcur (by omega)
      obtain ⟨r9, hr9, hc9, _⟩ := pick_ok (v7.length : Int) hc8 (by omega)
      have hch : ∀ y : Int, chk (d.length + ([y] : List Int).length ≤ 4294967296) = some () := fun y => chk_of (by simp; omega)
      cases hb8 : r8.1 with
      | true =>
        refine ⟨_, m - 1, by simp only [hd, if_true, hr8, hb8, hr9, hch, Option.bind_some, w64_succ (n := i) (by omega)]; rfl, by omega, i + 1, rfl, by omega, by omega, ?_, ?_⟩
        · simp; omega
        · exact hc9.mono (by omega)
      | false =>
        refine ⟨_, m - 1, by simp only [hd, if_true, hr8, hb8, Bool.false_eq_true, if_false, hch, Option.bind_some, w64_succ (n := i) (by omega)]; rfl, by omega, i + 1, rfl, by omega, by omega, ?_, ?_⟩
        · simp; omega
        · exact hc8.mono (by omega)
    · right
      have hd : decide ((i : Int) < 1 + r7.1) = false := by simpa using hlt
      refine ⟨_, by simp only [hd, Bool.false_eq_true, if_false]; rfl, ?_, ?_, ?_⟩
      · exact hcur.mono (by omega)
      · show 1 ≤ d.length; omega
      · show d.length ≤ 10; omega
  have loop3 : ∃ o, iter (s_l1Cur_roster_L3 v7 r6 r7) (0, r7.2.code_, r7.2.at_, r7.2.seed_.v, []) = some o ∧ (Cur (k + 400) ⟨o.1, o.2.1, ⟨o.2.2.1⟩⟩ ∧ (o.2.2.2.length : Int) = 1 + r6.1 ∧ ∀ p ∈ o.2.2.2, 1 ≤ p.length ∧ p.length ≤ 10) := by
    refine iter_rule (fun m s => ∃ i : Nat, s.1 = (i : Int) ∧ m + i = 5 ∧ (i : Int) ≤ 1 + r6.1 ∧ s.2.2.2.2.length = i ∧ (∀ p ∈ s.2.2.2.2, 1 ≤ p.length ∧ p.length ≤ 10) ∧ Cur (k + 20 + 40 * i) ⟨s.2.1, s.2.2.1, ⟨s.2.2.2.1⟩⟩) _ ?_ (k := 5) ⟨0, rfl, rfl, by omega, rfl, by simp, hc7.mono (by omega)⟩
    rintro m ⟨s1, v8, v9, v10, v11⟩ ⟨i, hi, hm, hi6, hl, hall, hcur⟩
    simp only at hi hl hall hcur
    subst hi
    unfold s_l1Cur_roster_L3
    simp only [e6]
    by_cases hlt : (i : Int) < 1 + r6.1
    · left
      have hd : decide ((i : Int) < 1 + r6.1) = true := by simpa using hlt
      obtain ⟨⟨v19, v20, v21, d1⟩, hb2, hcb2, hl1, hl2⟩ := loop2 _ _ _ _ hcur (by omega)
      simp only at hcb2 hl1 hl2
      have hch : ∀ y : List Int, chk (v11.length + ([y] : List (List Int)).length ≤ 4294967296) = some () := fun y => chk_of (by simp; omega)
      refine ⟨_, m - 1, by simp only [hd, if_true, hb2, hch, Option.bind_some, w64_succ (n := i) (by omega)]; rfl, by omega, i + 1, rfl, by omega, by omega, ?_, fun p hp => ?_, ?_⟩
      · simp; omega
      · rcases List.mem_append.1 hp with hp | hp
        · exact hall p hp
        · simp at hp; subst hp; exact ⟨hl1, hl2⟩
      · exact hcb2.mono (by omega)
    · right
      have hd : decide ((i : Int) < 1 + r6.1) = false := by simpa using hlt
      refine ⟨_, by simp only [hd, Bool.false_eq_true, if_false]; rfl, ?_, ?_, hall⟩
      · exact hcur.mono (by omega)
      · show (v11.length : Int) = _; omega
  obtain ⟨⟨v22, v23, v24, v25⟩, hb3, hcb3, hl3, hall3⟩ := loop3
  simp only at hcb3 hl3 hall3
  rw [hb3]
  simp only [Option.bind_some]
  obtain ⟨r10, hr10, hc10, _⟩ := pick_ok 40 hcb3 (by omega)
  simp only [hr10, Option.bind_some]
  have fin : ∀ (v26 : List UInt8) (v27 v28 v29 v30 : Int) (v31 : List (List Int)), Cur (k + 900) ⟨v26, v27, ⟨v28⟩⟩ → v31.length = v25.length → (∀ p ∈ v31, p.length ≤ 20) →
      ∃ r', some ((⟨v7, (⟨v29, v30, r2.1⟩ : RosterRules), v31⟩ : Roster), (⟨v26, v27, (⟨v28⟩ : IK .u64)⟩ : l1Cur)) = some r' ∧ Cur (k + 1000) r'.2 ∧ DR r'.1 := by
    intro v26 v27 v28 v29 v30 v31 g1 g2 g3
    exact ⟨_, rfl, g1.mono (by omega), by show v7.length ≤ _; omega, by show 1 ≤ v31.length ∧ v31.length ≤ _; omega, g3⟩
  have hall20 : ∀ p ∈ v25, p.length ≤ 20 := fun p hp => by have := hall3 p hp; omega
  split
  · obtain ⟨e4, he4, _, hm4⟩ := idx_lt (l := v25) (i := 0) (by omega) (by omega)
    have := hall3 e4 hm4
    have hch : chk (e4.length + ([-1] : List Int).length ≤ 4294967296) = some () := chk_of (by simp; omega)
    simp only [he4, hch, Option.bind_some]
    refine fin _ _ _ _ _ _ (hc10.mono (by omega)) (by simp) fun p hp => ?_
    rcases List.mem_or_eq_of_mem_set hp with hp | hp
    · exact hall20 p hp
    · subst hp; simp; omega
  split
  · have e8 : w64 (w64 (1 + r6.1) - 1) = r6.1 := by rw [e6, w64_id (by omega)]; omega
    obtain ⟨e8', he8, _, hm8⟩ := idx_lt (l := v25) (i := r6.1) (by omega) (by omega)
    have h8 := hall3 e8' hm8
    obtain ⟨r12, hr12, hc12, _⟩ := amongw_ok [-2, (v7.length : Int)] (by simp) hc10 (by omega)
    obtain ⟨e9, he9, _⟩ := idx_lt (l := e8') (i := 0) (by omega) (by omega)
    simp only [e8, he8, hr12, he9, Option.bind_some]
    refine fin _ _ _ _ _ _ (hc12.mono (by omega)) (by simp) fun p hp => ?_
    rcases List.mem_or_eq_of_mem_set hp with hp | hp
    · exact hall20 p hp
    · subst hp; simp; omega
  split
  · obtain ⟨r13, hr13, hc13, _⟩ := amongw_ok [-1, 1440, 1441] (by simp) hc10 (by omega)
    simp only [hr13, Option.bind_some]
    exact fin _ _ _ _ _ _ (hc13.mono (by omega)) rfl hall20
  split
  · obtain ⟨r14, hr14, hc14, _⟩ := amongw_ok [0, 15] (by simp) hc10 (by omega)
    simp only [hr14, Option.bind_some]
    exact fin _ _ _ _ _ _ (hc14.mono (by omega)) rfl hall20
  · simp only [Option.bind_some]
    exact fin _ _ _ _ _ _ (hc10.mono (by omega)) rfl hall20
/-! Minutes; the shifts that nobody has. -/
def minsS (sh : List Span) (e : Int) : Int := if e < 0 then 0 else match sh[e.toNat]? with | some s => s.To - s.From | none => 0
theorem minsS_bd {r : Roster} (hg : GoodR r) (e : Int) : 0 ≤ minsS r.Shifts e ∧ minsS r.Shifts e ≤ 1799 := by
  unfold minsS
  split
  · omega
  · split
    · rename_i s hs
      obtain ⟨h1, h2, h3⟩ := hg.2.1 _ s hs
      omega
    · omega
theorem minutes_eq {r : Roster} (hg : GoodR r) {d j : Nat} {p : List Int} {e : Int} (hp : r.Plan[d]? = some p) (he : p[j]? = some e) : i_minutesOn r (d : Int) (j : Int) = some (minsS r.Shifts e) := by
  unfold i_minutesOn minsS
  by_cases h : e < 0
  · simp (disch := omega) only [if_pos, if_neg, decide_eq_true_eq, decide_true, decide_false, Bool.not_true, Bool.not_false, Bool.false_eq_true, Bool.not_eq_true', decide_eq_false_iff_not, if_true, if_false, w64_id, chk_of, idx_nat, Option.bind_some, Option.map_some, Int.toNat_natCast, not_true_eq_false, not_false_eq_true, true_and, and_true, and_self, false_and, and_false, reduceIte, flb_go, flb_ret, beq_self_eq_true, ne_eq, bne_self_eq_false, hp, he]
  · obtain ⟨s, hs, h1, h2, h3⟩ := shift_of hg hp he (by omega)
    have hs' : r.Shifts[e.toNat]? = some s := by unfold idx at hs; rw [if_pos (by omega)] at hs; exact hs
    simp (disch := omega) only [if_pos, if_neg, decide_eq_true_eq, decide_true, decide_false, Bool.not_true, Bool.not_false, Bool.false_eq_true, Bool.not_eq_true', decide_eq_false_iff_not, if_true, if_false, w64_id, chk_of, idx_nat, Option.bind_some, Option.map_some, Int.toNat_natCast, not_true_eq_false, not_false_eq_true, true_and, and_true, and_self, false_and, and_false, reduceIte, flb_go, flb_ret, beq_self_eq_true, ne_eq, bne_self_eq_false, hp, he, hs, hs']
/-- A driver's minutes. -/
def W (r : Roster) (p : List Int) : Int := (p.map (minsS r.Shifts)).sum
theorem worked_eq {r : Roster} (hg : GoodR r) {d : Nat} {p : List Int} (hp : r.Plan[d]? = some p) : i_workedMinutes r (d : Int) = some (W r p) ∧ s_l14Worked r (d : Int) = some (W r p) := by
  obtain ⟨l1, l2⟩ := (row_facts hg hp).1
  constructor
  · unfold i_workedMinutes
    simp (disch := omega) only [if_pos, if_neg, decide_eq_true_eq, decide_true, decide_false, Bool.not_true, Bool.not_false, Bool.false_eq_true, Bool.not_eq_true', decide_eq_false_iff_not, if_true, if_false, w64_id, chk_of, idx_nat, Option.bind_some, Option.map_some, Int.toNat_natCast, not_true_eq_false, not_false_eq_true, true_and, and_true, and_self, false_and, and_false, reduceIte, flb_go, flb_ret, beq_self_eq_true, ne_eq, bne_self_eq_false, hp]
    rw [sum_loop (minsS r.Shifts) p (by omega) (fun x _ => by have := minsS_bd hg x; omega) (fun i s x hx => ?_) (fun s => ?_)]
    · rfl
    · have := get_lt hx
      unfold i_workedMinutes_L1
      simp only [minutes_eq hg hp hx]
      simp only [Int.ofNat_lt.2 this, decide_true, if_true, Option.bind_some]
    · unfold i_workedMinutes_L1; simp
  · unfold s_l14Worked
    rw [sum_loop (minsS r.Shifts) p (by omega) (fun x _ => by have := minsS_bd hg x; omega) (fun i s x hx => ?_) (fun s => ?_)]
    · rfl
    · have := get_lt hx
      unfold s_l14Worked_L1
      simp only [idx_nat, hp, Option.bind_some, length_eq, minutes_eq hg hp hx]
      simp only [Int.ofNat_lt.2 this, decide_true, if_true, Option.bind_some]
    · unfold s_l14Worked_L1; simp [idx_nat, hp]
theorem sum_nn {l : List Int} (h : ∀ x ∈ l, 0 ≤ x) : 0 ≤ l.sum := by
  induction l with
  | nil => simp
  | cons a l ih =>
    have h1 := h a (List.mem_cons_self ..)
    have h2 := ih fun x hx => h x (List.mem_cons_of_mem _ hx)
    simp only [List.sum_cons]; omega
theorem sum_part {l : List Int} (h : ∀ x ∈ l, 0 ≤ x) (k n : Nat) : ((l.drop k).take n).sum ≤ l.sum := by
  have e1 : l.sum = (l.take k).sum + (((l.drop k).take n).sum + ((l.drop k).drop n).sum) := by
    rw [← List.sum_append, List.take_append_drop, ← List.sum_append, List.take_append_drop]
  have h1 := sum_nn (l := l.take k) fun x hx => h x (List.mem_of_mem_take hx)
  have h2 := sum_nn (l := (l.drop k).drop n) fun x hx => h x (List.mem_of_mem_drop (List.mem_of_mem_drop hx))
  omega
theorem W_bd {r : Roster} (hg : GoodR r) {d : Nat} {p : List Int} (hp : r.Plan[d]? = some p) : 0 ≤ W r p ∧ W r p ≤ 30000 := by
  obtain ⟨l1, l2⟩ := (row_facts hg hp).1
  have := sum_bd (l := p.map (minsS r.Shifts)) (M := 1799) (by
    intro x hx
    obtain ⟨y, _, rfl⟩ := List.mem_map.1 hx
    exact minsS_bd hg y)
  unfold W
  rw [List.length_map] at this
  omega
/-- The busiest week's minutes are not more than all. -/
theorem week_le {r : Roster} (hg : GoodR r) {d : Nat} {p : List Int} (hp : r.Plan[d]? = some p) {w : Int × Int} (hw : i_busiestWeek r (d : Int) = some w) : w.2 ≤ W r p := by
  obtain ⟨l1, l2⟩ := (row_facts hg hp).1
  have nn : ∀ x ∈ p.map (minsS r.Shifts), 0 ≤ x := by
    intro x hx
    obtain ⟨y, _, rfl⟩ := List.mem_map.1 hx
    exact (minsS_bd hg y).1
  have wb := W_bd hg hp
  have inner : ∀ k : Nat, k ≤ p.length → Tot (iter (i_busiestWeek_L1 r (d : Int) p (k : Int)) (0, (k : Int))) fun b => b ≤ W r p := by
    intro k hk
    refine .iter (fun m a => ∃ n : Nat, a.2 = ((k + n : Nat) : Int) ∧ m + n = 14 ∧ k + n ≤ p.length ∧ a.1 = (((p.map (minsS r.Shifts)).drop k).take n).sum) (n := 14) ⟨0, by simp, rfl, hk, by simp⟩ ?_
    rintro m ⟨s, v⟩ ⟨n, hv, hm, hn, hs⟩
    simp only at hv hs
    subst hv
    have hle := sum_part nn k n
    rw [← hs] at hle
    have h0 : 0 ≤ s := by rw [hs]; exact sum_nn fun x hx => nn x (List.mem_of_mem_drop (List.mem_of_mem_take hx))
    unfold i_busiestWeek_L1
    refine .ite (fun hc => ?_) (fun hc => .dn hle)
    have w7 : w64 ((k : Int) + 7) = (k : Int) + 7 := w64_id (by omega)
    rw [w7, decide_eq_true_eq] at hc
    have hkn : k + n < p.length ∧ n < 7 := by split at hc <;> omega
    obtain ⟨e, he⟩ := get_ex hkn.1
    have hb := minsS_bd hg e
    refine .eq (minutes_eq hg hp he) (.nx ?_)
    have hW : W r p ≤ 30000 := wb.2
    have hle' : s ≤ W r p := hle
    refine ⟨m - 1, by omega, n + 1, ?_, by omega, by omega, ?_⟩
    · show w64 (((k + n : Nat) : Int) + 1) = _
      rw [w64_id (by omega)]; omega
    · show w64 (s + minsS r.Shifts e) = _
      rw [w64_id (by omega), hs, take_succ (x := minsS r.Shifts e) (by rw [List.getElem?_drop, List.getElem?_map, he]; rfl)]
      simp
  have tot : Tot (i_busiestWeek r (d : Int)) fun w => w.2 ≤ W r p := by
    unfold i_busiestWeek
    refine .eq (by rw [idx_nat]; exact hp) (.call (P := fun w => w.2 ≤ W r p) ?_ fun w h => .ok h)
    refine .iter (fun m a => ∃ k : Nat, a.2.2 = (k : Int) ∧ m + k = 20 ∧ k ≤ p.length ∧ a.2.1 ≤ W r p) (n := 20) ⟨0, rfl, rfl, by omega, by show -1 ≤ W r p; omega⟩ ?_
    rintro m ⟨f, s, day⟩ ⟨k, hk, hm, hkl, hs⟩
    simp only at hk hs
    subst hk
    have w7 : w64 ((k : Int) + 7) = (k : Int) + 7 := w64_id (by omega)
    unfold i_busiestWeek_L2
    refine .call (P := fun c => c = true → k + 1 ≤ p.length) (.ite (fun h => .ok fun _ => ?_) (fun _ => .ok fun h => ?_)) fun c hc => .ite (fun h => ?_) (fun _ => .dn hs)
    · have : k = 0 := by simpa using h
      omega
    · rw [w7, decide_eq_true_eq] at h; omega
    · refine .call (P := fun a => a.2 ≤ W r p) (.call (inner k hkl) fun b hb => .ite (fun _ => .ok hb) (fun _ => .ok hs)) fun a ha => .nx ?_
      have := hc h
      exact ⟨m - 1, by omega, k + 1, w64_succ (by omega), by omega, this, ha⟩
  obtain ⟨w', h1, h2⟩ := tot
  rw [h1] at hw; cases hw
  exact h2

/-- Has a driver the shift on the day? -/
def Has (P : List (List Int)) (day : Nat) (s : Int) : Bool := P.any fun row => row.getD day (-1) == s
/-- The shifts that nobody has. -/
def Miss (P : List (List Int)) (day n : Nat) : List Int := ((List.range n).filter fun s : Nat => !Has P day (s : Int)).map fun s : Nat => (s : Int)
theorem Miss_succ (P : List (List Int)) (day n : Nat) : Miss P day (n + 1) = if Has P day (n : Int) = true then Miss P day n else Miss P day n ++ [(n : Int)] := by
  unfold Miss
  rw [List.range_succ, List.filter_append, List.map_append]
  by_cases h : Has P day (n : Int) = true <;> simp [h]
theorem Miss_len (P : List (List Int)) (day n : Nat) : (Miss P day n).length ≤ n := by
  induction n with
  | zero => simp [Miss]
  | succ n ih => rw [Miss_succ]; split <;> (try simp) <;> omega
theorem Miss_mem {P : List (List Int)} {day n : Nat} {x : Int} (h : x ∈ Miss P day n) : 0 ≤ x ∧ x < n ∧ Has P day x = false := by
  unfold Miss at h
  obtain ⟨y, hy, rfl⟩ := List.mem_map.1 h
  obtain ⟨h1, h2⟩ := List.mem_filter.1 hy
  have := List.mem_range.1 h1
  exact ⟨by omega, by omega, by simpa using h2⟩
/-- The rows all reach to the day. -/
def DayOK (P : List (List Int)) (day : Nat) : Prop := ∀ p ∈ P, day < p.length
theorem row_at {P : List (List Int)} {day : Nat} (hd : DayOK P day) {i : Nat} {p : List Int} (hp : P[i]? = some p) : p[day]? = some (p.getD day (-1)) := by
  have := hd p (List.mem_of_getElem? hp)
  rw [List.getD_eq_getElem?_getD, List.getElem?_eq_getElem this]; rfl
theorem fixI_any {α : Type} (p : α → Bool) (l : List α) : decide (0 ≤ fixI p l) = l.any p := by
  cases h : l.any p with
  | true =>
    obtain ⟨x, hx, hp⟩ := List.any_eq_true.1 h
    have : ¬ fixI p l < 0 := fun hn => by have := fixI_neg hn x hx; rw [hp] at this; cases this
    simp; omega
  | false =>
    rw [fixI_none fun x hx => by simpa using (List.any_eq_false.1 h) x hx]
    decide
theorem hasF_eq {P : List (List Int)} {day : Nat} (hd : DayOK P day) (hl : P.length ≤ 1000) (s : Int) : slices_ContainsFunc_Lint__i_missingShifts_1 P (day : Int) s = some (Has P day s) := by
  unfold slices_ContainsFunc_Lint__i_missingShifts_1 slices_ContainsFunc_Lint slices_IndexFunc_Lint
  rw [find_val P (fun row => row.getD day (-1) == s) (fun i x hx => ?_) (by unfold slices_IndexFunc_Lint_L1; simp)]
  · simp only [Option.bind_some, fixI_any]; rfl
  · have := get_lt hx
    unfold slices_IndexFunc_Lint_L1 i_missingShifts_1
    simp (disch := omega) only [if_pos, if_neg, decide_eq_true_eq, decide_true, decide_false, Bool.not_true, Bool.not_false, Bool.false_eq_true, Bool.not_eq_true', decide_eq_false_iff_not, if_true, if_false, w64_id, chk_of, idx_nat, Option.bind_some, Option.map_some, Int.toNat_natCast, not_true_eq_false, not_false_eq_true, true_and, and_true, and_self, false_and, and_false, reduceIte, flb_go, flb_ret, beq_self_eq_true, ne_eq, bne_self_eq_false, hx, row_at hd hx]
    split <;> simp [*] <;> omega
theorem missing_eq {r : Roster} {day : Nat} (hd : DayOK r.Plan day) (hl : r.Plan.length ≤ 1000) (hs : r.Shifts.length ≤ 1000) : i_missingShifts r (day : Int) = some (Miss r.Plan day r.Shifts.length) := by
  unfold i_missingShifts
  refine Tot.val (.call (P := fun x => x = Miss r.Plan day r.Shifts.length) ?_ fun x h => .ok h)
  refine .iter (fun m a => ∃ i : Nat, a.1 = (i : Int) ∧ m + i = r.Shifts.length ∧ a.2 = Miss r.Plan day i) (n := r.Shifts.length) ⟨0, rfl, by omega, by simp [Miss]⟩ ?_
  rintro m ⟨v, v1⟩ ⟨i, hi, hm, hv⟩
  simp only at hi hv
  subst hi; subst hv
  unfold i_missingShifts_L1
  refine .iteP (fun hc => ?_) (fun hc => .dn (by rw [show i = r.Shifts.length by omega]))
  have hml := Miss_len r.Plan day i
  refine .call (P := fun x => x = Miss r.Plan day (i + 1)) (.eq (hasF_eq hd hl i) (.ite (fun h => .chk (by simp; omega) (.ok ?_)) (fun h => .ok ?_))) fun x hx => .nx ⟨m - 1, by omega, i + 1, w64_succ (by omega), by omega, hx⟩
  · rw [Miss_succ, if_neg (by simpa using h)]
  · rw [Miss_succ, if_pos (by simpa using h)]
theorem sMissing_eq {r : Roster} {day : Nat} (hd : DayOK r.Plan day) (hl : r.Plan.length ≤ 1000) (hs : r.Shifts.length ≤ 1000) : s_l14Missing r (day : Int) = some (Miss r.Plan day r.Shifts.length) := by
  have inner : ∀ s : Int, iter (s_l14Missing_L1 r (day : Int) s) (false, 0) = some (Has r.Plan day s) := by
    intro s
    refine Tot.val (.iter (fun m a => ∃ i : Nat, a.2 = (i : Int) ∧ m + i = r.Plan.length ∧ a.1 = Has (r.Plan.take i) day s) (n := r.Plan.length) ⟨0, rfl, by omega, by simp [Has]⟩ ?_)
    rintro m ⟨b, v⟩ ⟨i, hi, hm, hv⟩
    simp only at hi hv
    subst hi; subst hv
    unfold s_l14Missing_L1
    refine .iteP (fun hc => ?_) (fun hc => .dn (by rw [show i = r.Plan.length by omega, List.take_length]))
    obtain ⟨p, hp⟩ := get_ex (l := r.Plan) (i := i) (by omega)
    have hn : Has (r.Plan.take (i + 1)) day s = (Has (r.Plan.take i) day s || p.getD day (-1) == s) := by
      unfold Has; rw [take_succ hp, List.any_append]; simp
    refine .ite (fun h => .nx ⟨m - 1, by omega, i + 1, w64_succ (by omega), by omega, ?_⟩) (fun h => .eq (by rw [idx_nat]; exact hp) (.eq (by rw [idx_nat]; exact row_at hd hp) (.nx ⟨m - 1, by omega, i + 1, w64_succ (by omega), by omega, ?_⟩)))
    · show true = _
      rw [hn, h]; rfl
    · show (p.getD day (-1) == s) = _
      rw [hn, h]; simp
  unfold s_l14Missing
  refine Tot.val (.call (P := fun x => x = Miss r.Plan day r.Shifts.length) ?_ fun x h => .ok h)
  refine .iter (fun m a => ∃ i : Nat, a.1 = (i : Int) ∧ m + i = r.Shifts.length ∧ a.2 = Miss r.Plan day i) (n := r.Shifts.length) ⟨0, rfl, by omega, by simp [Miss]⟩ ?_
  rintro m ⟨v, v1⟩ ⟨i, hi, hm, hv⟩
  simp only at hi hv
  subst hi; subst hv
  unfold s_l14Missing_L2
  refine .iteP (fun hc => ?_) (fun hc => .dn (by rw [show i = r.Shifts.length by omega]))
  have hml := Miss_len r.Plan day i
  refine .call (P := fun x => x = Miss r.Plan day (i + 1)) (.eq (inner i) (.ite (fun h => .chk (by simp; omega) (.ok ?_)) (fun h => .ok ?_))) fun x hx => .nx ⟨m - 1, by omega, i + 1, w64_succ (by omega), by omega, hx⟩
  · rw [Miss_succ, if_neg (by simpa using h)]
  · rw [Miss_succ, if_pos (by simpa using h)]
/-! A day is filled. -/
abbrev withP (r : Roster) (P : List (List Int)) : Roster := ⟨r.Shifts, r.Rules, P⟩
theorem planP_iff {r : Roster} (h : 1 ≤ r.Plan.length) : PlanP r ↔ ∃ n, (1 ≤ n ∧ n ≤ 14) ∧ ∀ (i : Nat) p, r.Plan[i]? = some p → p.length = n ∧ RowP r.Shifts.length p := by
  constructor
  · rintro ⟨e0, _, h2, h3⟩
    exact ⟨e0.length, h2, h3⟩
  · rintro ⟨n, h2, h3⟩
    obtain ⟨e0, he⟩ := get_ex (l := r.Plan) (i := 0) (by omega)
    have := (h3 0 e0 he).1
    exact ⟨e0, he, by rw [this]; exact h2, fun i p hp => by rw [this]; exact h3 i p hp⟩
theorem good_set {r : Roster} (hg : GoodR r) {d day : Nat} {p : List Int} {s : Int} (hp : r.Plan[d]? = some p) (hs : -1 ≤ s ∧ s ≤ (r.Shifts.length : Int) - 1) : GoodR (withP r (r.Plan.set d (p.set day s))) := by
  obtain ⟨h1, h2, h3, h4, h5⟩ := hg
  refine ⟨h1, h2, h3, by simpa using h4, ?_⟩
  rw [planP_iff (by simpa using h4.1)]
  rw [planP_iff h4.1] at h5
  obtain ⟨n, g1, g2⟩ := h5
  refine ⟨n, g1, fun i q hq => ?_⟩
  have hq' : (r.Plan.set d (p.set day s))[i]? = some q := hq
  by_cases hi : d = i
  · subst hi
    rw [set_at hp] at hq'; cases hq'
    obtain ⟨k1, k2⟩ := g2 d p hp
    refine ⟨by simpa using k1, fun j e he => ?_⟩
    by_cases hj : day = j
    · subst hj
      by_cases hl : day < p.length
      · rw [List.getElem?_set_self hl] at he; cases he; exact hs
      · rw [List.getElem?_eq_none (by simp; omega)] at he; cases he
    · rw [List.getElem?_set_ne hj] at he
      exact k2 j e he
  · rw [List.getElem?_set_ne hi] at hq'
    exact g2 i q hq'
theorem dayOK_of {r : Roster} (hg : GoodR r) {p0 : List Int} (h0 : r.Plan[0]? = some p0) {day : Nat} (hd : day < p0.length) : DayOK r.Plan day := by
  obtain ⟨n, _, g2⟩ := (planP_iff hg.2.2.2.1.1).1 hg.2.2.2.2
  intro p hp
  obtain ⟨i, hi⟩ := List.getElem?_of_mem hp
  have e1 := (g2 0 p0 h0).1
  have e2 := (g2 i p hi).1
  omega
theorem dayOK_set {P : List (List Int)} {day d : Nat} {p : List Int} {x : Int} (h : DayOK P day) (hp : P[d]? = some p) : DayOK (P.set d (p.set day x)) day := by
  intro q hq
  rcases List.mem_or_eq_of_mem_set hq with hq | rfl
  · exact h q hq
  · simpa using h p (List.mem_of_getElem? hp)
theorem keeps_both {r : Roster} (hg : GoodR r) {d : Nat} (hd : d < r.Plan.length) : ∃ b : Bool, i_keepsRules r (d : Int) = some b ∧ s_l14Keeps r (d : Int) = some b := by
  obtain ⟨p, hp⟩ := get_ex hd
  obtain ⟨_, _, _, _, _, _, _, h1, h2⟩ := driver_ok hg hp
  exact ⟨_, h1, h2⟩
theorem ownT_eq (r : Roster) (h : RB r) : s_l14Own_t r = some r := by
  obtain ⟨h1, h2, h3⟩ := h
  unfold s_l14Own_t
  rw [chk_of (by simp; omega)]
  simp only [Option.bind_some]
  rw [app_loop (fun x : List Int => x) r.Plan (fun i a x ha hx => ?_) (fun a ha => ?_)]
  · simp only [Option.bind_some, List.map_id', List.nil_append]
  · have g1 := h3 x (List.mem_of_getElem? hx)
    have := get_lt hx
    unfold s_l14Own_t_L1
    have e1 : s_l1Own x = some x := by unfold s_l1Own; rw [chk_of (by simp; omega)]; rfl
    have hch : chk (a.length + ([x] : List (List Int)).length ≤ 4294967296) = some () := chk_of (by simp; omega)
    simp only [Int.ofNat_lt.2 this, decide_true, if_true, idx_nat, hx, Option.bind_some, e1, hch, w64_succ (n := i) (by omega)]
  · unfold s_l14Own_t_L1; simp
theorem good_rb {r : Roster} (hg : GoodR r) : RB r := by
  refine ⟨by have := hg.1; omega, by have := hg.2.2.2.1; omega, fun p hp => ?_⟩
  obtain ⟨i, hi⟩ := List.getElem?_of_mem hp
  have := (row_facts hg hi).1
  omega
/-- The driver who is found, if any, has the day off. -/
def Free (P : List (List Int)) (day : Nat) (b : Int) : Prop := b = -1 ∨ ∃ (d : Nat) (p : List Int), b = (d : Int) ∧ P[d]? = some p ∧ p[day]? = some (-1)
theorem best_both {r : Roster} (hg : GoodR r) {day : Nat} (hd : DayOK r.Plan day) {M : List Int} {k : Nat} {e : Int} (he : M[k]? = some e) (he2 : 0 ≤ e ∧ e < r.Shifts.length) (r0 : Roster) (hr0 : r0.Shifts = r.Shifts ∧ r0.Rules = r.Rules) :
    ∃ x x', iter (i_fillDay_a_L1 r0 (day : Int) r.Plan e) (-1, 0, 0, r.Plan) = some x ∧ iter (s_FillDay_L1 (day : Int) r0 M (k : Int) r.Plan) (-1, 0) = some x' ∧ x = (x', r.Plan) ∧ Free r.Plan day x' := by
  have eta : (⟨r0.Shifts, r0.Rules, r.Plan⟩ : Roster) = r := by rw [hr0.1, hr0.2]
  have eta2 : ∀ P, (⟨r0.Shifts, r0.Rules, P⟩ : Roster) = withP r P := fun P => by rw [hr0.1, hr0.2]
  have hpl := hg.2.2.2.1
  refine iter2 (fun m a a' => ∃ i : Nat, a.2.2.1 = (i : Int) ∧ a'.2 = (i : Int) ∧ m + i = r.Plan.length ∧ a.2.2.2 = r.Plan ∧ a.1 = a'.1 ∧ (a'.1 = -1 ∨ ∃ (d : Nat) (p : List Int), a'.1 = (d : Int) ∧ r.Plan[d]? = some p ∧ p[day]? = some (-1) ∧ a.2.1 = W r p)) _ ?_ (k := r.Plan.length) ⟨0, rfl, rfl, by omega, rfl, rfl, .inl rfl⟩
  rintro m ⟨driver, row, v3, v4⟩ ⟨b, v3'⟩ ⟨i, h1, h2, h3, h4, h5, h6⟩
  simp only at h1 h2 h4 h5 h6
  subst h1; subst h2; subst h4; subst h5
  have hfree : Free r.Plan day driver := by
    rcases h6 with h6 | ⟨d, p, g1, g2, g3, _⟩
    · exact .inl h6
    · exact .inr ⟨d, p, g1, g2, g3⟩
  unfold i_fillDay_a_L1 s_FillDay_L1
  by_cases hi : i < r.Plan.length
  · left
    obtain ⟨p, hp⟩ := get_ex hi
    have hday := row_at hd hp
    generalize hx : p.getD day (-1) = x at hday
    have hw := w64_succ (n := i) (by omega)
    by_cases hx0 : 0 ≤ x
    · simp (disch := omega) only [if_pos, if_neg, decide_eq_true_eq, decide_true, decide_false, Bool.not_true, Bool.not_false, Bool.false_eq_true, Bool.not_eq_true', decide_eq_false_iff_not, if_true, if_false, w64_id, chk_of, idx_nat, Option.bind_some, Option.map_some, Int.toNat_natCast, not_true_eq_false, not_false_eq_true, true_and, and_true, and_self, false_and, and_false, reduceIte, flb_go, flb_ret, beq_self_eq_true, ne_eq, bne_self_eq_false, hp, hday, hx0, hw, Int.ofNat_lt.2 hi]
      exact ⟨_, _, m - 1, rfl, rfl, by omega, i + 1, rfl, rfl, by omega, rfl, rfl, h6⟩
    · have hxm : x = -1 := by have := (row_facts hg hp).2 day x hday; omega
      subst hxm
      obtain ⟨w1, w2⟩ := worked_eq hg hp
      have hpd : day < p.length := get_lt hday
      have hs1 : (r.Plan.set i (p.set day e)).set i ((p.set day e).set day (-1)) = r.Plan := by
        rw [List.set_set, List.set_set, set_same hday, set_same hp]
      have hat : (p.set day e)[day]? = some e := set_at hday
      have hg2 := good_set hg (day := day) hp (s := e) (by omega)
      obtain ⟨c, c1, c2⟩ := keeps_both hg2 (d := i) (by simpa using hi)
      have eR : s_l14Own_t r = some r := ownT_eq r (good_rb hg)
      have c1' : i_keepsRules (⟨r0.Shifts, r0.Rules, r.Plan.set i (p.set day e)⟩ : Roster) (i : Int) = some c := by rw [eta2]; exact c1
      have c2' : s_l14Keeps (⟨r.Shifts, r.Rules, r.Plan.set i (p.set day e)⟩ : Roster) (i : Int) = some c := c2
      have nx : ∀ v : Bool, (v = true → True) → (∃ b b' k', (if v = true then some ((i : Int), W r p, r.Plan) else some (driver, row, r.Plan)).bind (fun ((driver1, row1, v5) : Int × Int × (List (List Int))) => some (Lp.nx (driver1, row1, ((i + 1 : Nat) : Int), v5))) = some (Lp.nx b : Lp (Int × Int × Int × List (List Int)) (Int × List (List Int))) ∧ (if v = true then some (i : Int) else some driver).bind (fun (t : Int) => some (Lp.nx (t, ((i + 1 : Nat) : Int)))) = some (Lp.nx b' : Lp (Int × Int) Int) ∧ k' < m ∧ ∃ j : Nat, b.2.2.1 = (j : Int) ∧ b'.2 = (j : Int) ∧ k' + j = r.Plan.length ∧ b.2.2.2 = r.Plan ∧ b.1 = b'.1 ∧ (b'.1 = -1 ∨ ∃ (d : Nat) (p : List Int), b'.1 = (d : Int) ∧ r.Plan[d]? = some p ∧ p[day]? = some (-1) ∧ b.2.1 = W r p)) := by
        intro v _
        cases v with
        | true => exact ⟨_, _, m - 1, rfl, rfl, by omega, i + 1, rfl, rfl, by omega, rfl, rfl, .inr ⟨i, p, rfl, hp, hday, rfl⟩⟩
        | false => exact ⟨_, _, m - 1, rfl, rfl, by omega, i + 1, rfl, rfl, by omega, rfl, rfl, h6⟩
      rcases h6 with h6 | ⟨d, q, g1, g2, g3, g4⟩
      · have hdr : driver < 0 := by omega
        simp (disch := omega) only [if_pos, if_neg, decide_eq_true_eq, decide_true, decide_false, Bool.not_true, Bool.not_false, Bool.false_eq_true, Bool.not_eq_true', decide_eq_false_iff_not, if_true, if_false, w64_id, chk_of, idx_nat, Option.bind_some, Option.map_some, Int.toNat_natCast, not_true_eq_false, not_false_eq_true, true_and, and_true, and_self, false_and, and_false, reduceIte, flb_go, flb_ret, beq_self_eq_true, ne_eq, bne_self_eq_false, hp, hday, hx0, hw, Int.ofNat_lt.2 hi, eta, w1, hat, hs1, c1', eR, he, c2']
        cases c with
        | true => simpa [hdr] using nx true fun _ => trivial
        | false => simpa using nx false fun _ => trivial
      · have hdr : ¬ driver < 0 := by omega
        obtain ⟨q1, q2⟩ := worked_eq hg g2
        rw [← g1] at q2
        subst g4
        simp (disch := omega) only [if_pos, if_neg, decide_eq_true_eq, decide_true, decide_false, Bool.not_true, Bool.not_false, Bool.false_eq_true, Bool.not_eq_true', decide_eq_false_iff_not, if_true, if_false, w64_id, chk_of, idx_nat, Option.bind_some, Option.map_some, Int.toNat_natCast, not_true_eq_false, not_false_eq_true, true_and, and_true, and_self, false_and, and_false, reduceIte, flb_go, flb_ret, beq_self_eq_true, ne_eq, bne_self_eq_false, hp, hday, hx0, hw, Int.ofNat_lt.2 hi, eta, w1, w2, q2, hat, hs1, c1', eR, he, c2']
        cases c with
        | true => simpa [hdr] using nx (decide (W r p < W r q)) fun _ => trivial
        | false => simpa using nx false fun _ => trivial
  · right
    have hii : ¬ ((i : Int) < (r.Plan.length : Int)) := by omega
    simp (disch := omega) only [if_pos, if_neg, decide_eq_true_eq, decide_true, decide_false, Bool.not_true, Bool.not_false, Bool.false_eq_true, Bool.not_eq_true', decide_eq_false_iff_not, if_true, if_false, w64_id, chk_of, idx_nat, Option.bind_some, Option.map_some, Int.toNat_natCast, not_true_eq_false, not_false_eq_true, true_and, and_true, and_self, false_and, and_false, reduceIte, flb_go, flb_ret, beq_self_eq_true, ne_eq, bne_self_eq_false, hii]
    exact ⟨_, _, rfl, rfl, rfl, hfree⟩
/-! The outer loop: what is missing afterwards. -/
theorem Miss_nodup (P : List (List Int)) (day n : Nat) : (Miss P day n).Nodup := by
  unfold Miss
  refine List.Pairwise.map _ ?_ (List.Pairwise.filter _ List.nodup_range)
  intro a b h e
  exact h (by omega)
theorem has_set {P : List (List Int)} {day d : Nat} {p : List Int} {e : Int} (hp : P[d]? = some p) (hday : p[day]? = some (-1)) {x : Int} (hx : 0 ≤ x) : Has (P.set d (p.set day e)) day x = (Has P day x || e == x) := by
  unfold Has
  have h1 : P = P.take d ++ p :: P.drop (d + 1) := by
    obtain ⟨hl, hq⟩ := List.getElem?_eq_some_iff.1 hp
    have := List.take_append_drop d P
    rw [List.drop_eq_getElem_cons hl, hq] at this
    exact this.symm
  have h2 : P.set d (p.set day e) = P.take d ++ (p.set day e) :: P.drop (d + 1) := by
    rw [List.set_eq_take_append_cons_drop, if_pos (get_lt hp)]
  rw [h2]
  conv => rhs; rw [h1]
  rw [List.any_append, List.any_cons, List.any_append, List.any_cons]
  have e1 : (p.set day e).getD day (-1) = e := by rw [List.getD_eq_getElem?_getD, set_at hday]; rfl
  have e2 : p.getD day (-1) = -1 := by rw [List.getD_eq_getElem?_getD, hday]; rfl
  have e3 : ((-1 : Int) == x) = false := by simp; omega
  rw [e1, e2, e3]
  cases (P.take d).any (fun row => row.getD day (-1) == x) <;> cases (P.drop (d + 1)).any (fun row => row.getD day (-1) == x) <;> cases (e == x) <;> rfl
theorem Miss_set {P : List (List Int)} {day d n : Nat} {p : List Int} {e : Int} (hp : P[d]? = some p) (hday : p[day]? = some (-1)) : Miss (P.set d (p.set day e)) day n = (Miss P day n).filter fun x => !(e == x) := by
  unfold Miss
  rw [List.filter_map, List.filter_filter]
  congr 1
  apply List.filter_congr
  intro x _
  rw [has_set hp hday (by omega)]
  cases Has P day (x : Int) <;> cases h : (e == (x : Int)) <;> simp [h]
theorem filter_one {l r : List Int} {e : Int} (h : (l ++ e :: r).Nodup) : (l ++ e :: r).filter (fun x => !(e == x)) = l ++ r := by
  rw [List.filter_append, List.filter_cons]
  have h1 : ∀ x ∈ l, (!(e == x)) = true := by
    intro x hx
    have := (List.nodup_append.1 h).2.2 x hx e (List.mem_cons_self ..)
    simpa [bne_iff_ne] using (Ne.symm this)
  have h2 : ∀ x ∈ r, (!(e == x)) = true := by
    intro x hx
    have h3 := (List.nodup_append.1 h).2.1
    have : e ≠ x := fun he => (List.nodup_cons.1 h3).1 (he ▸ hx)
    simpa [bne_iff_ne] using this
  rw [List.filter_eq_self.2 h1, List.filter_eq_self.2 h2]
  simp
theorem loop_both {r : Roster} (hg : GoodR r) {day : Nat} (hd : DayOK r.Plan day) (r0 : Roster) (hr0 : r0.Shifts = r.Shifts ∧ r0.Rules = r.Rules) :
    ∃ x x', iter (i_fillDay_a_L2 r0 (day : Int) (Miss r.Plan day r.Shifts.length)) (0, r.Plan, []) = some x ∧ iter (s_FillDay_L2 (day : Int) r0 (Miss r.Plan day r.Shifts.length)) (0, [], r.Plan) = some x' ∧
      x = (x'.2, x'.1) ∧ GoodR (withP r x'.2) ∧ DayOK x'.2 day ∧ Miss x'.2 day r.Shifts.length = x'.1 ∧ x'.1.length ≤ (Miss r.Plan day r.Shifts.length).length := by
  generalize hM : Miss r.Plan day r.Shifts.length = M
  have hMl : M.length ≤ 8 := by
    have := Miss_len r.Plan day r.Shifts.length
    have := hg.1
    rw [hM] at *; omega
  refine iter2 (fun m a a' => ∃ i : Nat, a.1 = (i : Int) ∧ a'.1 = (i : Int) ∧ m + i = M.length ∧ a.2.1 = a'.2.2 ∧ a.2.2 = a'.2.1 ∧ GoodR (withP r a'.2.2) ∧ DayOK a'.2.2 day ∧ a'.2.2.length = r.Plan.length ∧ Miss a'.2.2 day r.Shifts.length = a'.2.1 ++ M.drop i ∧ a'.2.1.length ≤ i) _ ?_ (k := M.length) ⟨0, rfl, rfl, by omega, rfl, rfl, hg, hd, rfl, by rw [hM]; rfl, by simp⟩
  rintro m ⟨v, P, s⟩ ⟨v', s', P'⟩ ⟨i, h1, h2, h3, h4, h5, h6, h7, h8, h9, h10⟩
  simp only at h1 h2 h4 h5 h6 h7 h8 h9 h10
  subst h1; subst h2; subst h4; subst h5
  unfold i_fillDay_a_L2 s_FillDay_L2
  by_cases hi : i < M.length
  · left
    obtain ⟨e, he⟩ := get_ex hi
    have hmem : e ∈ Miss P day r.Shifts.length := by
      rw [h9, List.drop_eq_getElem_cons hi]
      have := (List.getElem?_eq_some_iff.1 he).2
      rw [this]; simp
    obtain ⟨e1, e2, _⟩ := Miss_mem hmem
    obtain ⟨x, x', b1, b2, b3, b4⟩ := best_both (r := withP r P) h6 h7 he ⟨e1, e2⟩ r0 hr0
    subst b3
    have b1' : iter (i_fillDay_a_L1 r0 (day : Int) P e) (-1, 0, 0, P) = some (x', P) := b1
    have b2' : iter (s_FillDay_L1 (day : Int) r0 M (i : Int) P) (-1, 0) = some x' := b2
    have hdrop : M.drop i = e :: M.drop (i + 1) := by
      rw [List.drop_eq_getElem_cons hi]
      have := (List.getElem?_eq_some_iff.1 he).2
      rw [this]
    have hw := w64_succ (n := i) (by omega)
    rcases b4 with b4 | ⟨d, p, g1, g2, g3⟩
    · subst b4
      have hch : chk (s.length + ([e] : List Int).length ≤ 4294967296) = some () := chk_of (by simp; omega)
      simp (disch := omega) only [if_pos, if_neg, decide_eq_true_eq, decide_true, decide_false, Bool.not_true, Bool.not_false, Bool.false_eq_true, Bool.not_eq_true', decide_eq_false_iff_not, if_true, if_false, w64_id, chk_of, idx_nat, Option.bind_some, Option.map_some, Int.toNat_natCast, not_true_eq_false, not_false_eq_true, true_and, and_true, and_self, false_and, and_false, reduceIte, flb_go, flb_ret, beq_self_eq_true, ne_eq, bne_self_eq_false, Int.ofNat_lt.2 hi, he, b1', b2', hch, hw]
      refine ⟨_, _, m - 1, rfl, rfl, by omega, i + 1, rfl, rfl, by omega, rfl, rfl, h6, h7, h8, ?_, ?_⟩
      · show Miss P day _ = (s ++ [e]) ++ _
        rw [h9, hdrop]; simp
      · show (s ++ [e]).length ≤ i + 1
        simp; omega
    · subst g1
      have g2' : P[d]? = some p := g2
      have hdn : ¬ (d : Int) < 0 := by omega
      simp (disch := omega) only [if_pos, if_neg, decide_eq_true_eq, decide_true, decide_false, Bool.not_true, Bool.not_false, Bool.false_eq_true, Bool.not_eq_true', decide_eq_false_iff_not, if_true, if_false, w64_id, chk_of, idx_nat, Option.bind_some, Option.map_some, Int.toNat_natCast, not_true_eq_false, not_false_eq_true, true_and, and_true, and_self, false_and, and_false, reduceIte, flb_go, flb_ret, beq_self_eq_true, ne_eq, bne_self_eq_false, Int.ofNat_lt.2 hi, he, b1', b2', hdn, g2', g3, hw]
      refine ⟨_, _, m - 1, rfl, rfl, by omega, i + 1, rfl, rfl, by omega, rfl, rfl, ?_, dayOK_set h7 g2', ?_, ?_, by show s.length ≤ i + 1; omega⟩
      · exact good_set h6 g2 ⟨by omega, by show e ≤ (r.Shifts.length : Int) - 1; omega⟩
      · show (P.set _ _).length = _
        simpa using h8
      · show Miss (P.set _ _) day _ = s ++ _
        rw [Miss_set g2' g3, h9, hdrop]
        exact filter_one (by rw [← hdrop, ← h9]; exact Miss_nodup _ _ _)
  · right
    have hii : ¬ ((i : Int) < (M.length : Int)) := by omega
    simp (disch := omega) only [if_pos, if_neg, decide_eq_true_eq, decide_true, decide_false, Bool.not_true, Bool.not_false, Bool.false_eq_true, Bool.not_eq_true', decide_eq_false_iff_not, if_true, if_false, w64_id, chk_of, idx_nat, Option.bind_some, Option.map_some, Int.toNat_natCast, not_true_eq_false, not_false_eq_true, true_and, and_true, and_self, false_and, and_false, reduceIte, flb_go, flb_ret, beq_self_eq_true, ne_eq, bne_self_eq_false, hii]
    refine ⟨_, _, rfl, rfl, rfl, h6, h7, ?_, by show s.length ≤ M.length; omega⟩
    show Miss P day _ = s
    rw [h9, List.drop_eq_nil_of_le (by omega), List.append_nil]
/-- When a day is asked about that is one. -/
def Asked (r : Roster) (day : Int) : Prop := GoodR r ∧ ∃ p0, r.Plan[0]? = some p0 ∧ 0 ≤ day ∧ day < p0.length
theorem asked_i (r : Roster) (h : RB r) (day : Int) : ∃ b : Bool, ((i_IsValidRoster r).bind fun r1 => if (!r1) = true then some true else (i_isRosterDay r day).bind fun r2 => some (!r2)) = some b ∧ (b = false ↔ Asked r day) := by
  rw [valid_eq r h]
  by_cases hg : GoodR r
  · obtain ⟨p0, hp⟩ := get_ex (l := r.Plan) (i := 0) (by have := hg.2.2.2.1; omega)
    have hidx : idx r.Plan 0 = some p0 := by rw [show (0 : Int) = ((0 : Nat) : Int) from rfl, idx_nat]; exact hp
    unfold i_isRosterDay
    refine ⟨!decide (0 ≤ day ∧ day < p0.length), ?_, ?_⟩
    · by_cases h0 : 0 ≤ day <;> simp [hg, hidx, h0]
    · simp only [Bool.not_eq_false', decide_eq_true_eq]
      constructor
      · intro hh; exact ⟨hg, p0, hp, hh⟩
      · rintro ⟨_, q, hq, hh⟩
        rw [hp] at hq; cases hq; exact hh
  · exact ⟨true, by simp [hg], by simp; exact fun hh => hg hh.1⟩
theorem asked_s (r : Roster) (h : RB r) (day : Int) : ∃ b : Bool, ((s_l14Good r).bind fun r1 => if (!r1) = true then some true else (idx r.Plan 0).bind fun e => (s_l1In day 0 (w64 ((e.length : Int) - 1))).bind fun r2 => some (!r2)) = some b ∧ (b = false ↔ Asked r day) := by
  rw [good_eq r h]
  by_cases hg : GoodR r
  · obtain ⟨p0, hp⟩ := get_ex (l := r.Plan) (i := 0) (by have := hg.2.2.2.1; omega)
    have hl := (row_facts hg hp).1
    have hidx : idx r.Plan 0 = some p0 := by rw [show (0 : Int) = ((0 : Nat) : Int) from rfl, idx_nat]; exact hp
    refine ⟨!decide (0 ≤ day ∧ day ≤ (p0.length : Int) - 1), ?_, ?_⟩
    · have hw : w64 ((p0.length : Int) - 1) = (p0.length : Int) - 1 := w64_id (by omega)
      simp [hg, hidx, l1In_eq, hw]
    · simp only [Bool.not_eq_false', decide_eq_true_eq]
      constructor
      · intro hh; exact ⟨hg, p0, hp, by omega⟩
      · rintro ⟨_, q, hq, hh⟩
        rw [hp] at hq; cases hq; omega
  · exact ⟨true, by simp [hg], by simp; exact fun hh => hg hh.1⟩
theorem bind_assoc' {α β γ : Type} (m : Option α) (f : α → Option β) (g : β → Option γ) : (m.bind fun x => (f x).bind g) = (m.bind f).bind g := by cases m <;> rfl
theorem fill_both (r : Roster) (h : RB r) (day : Int) : ∃ x, i_FillDay r day = some x ∧ s_FillDay r day = some x ∧ (x.2.2 = true → ∃ d : Nat, day = (d : Int) ∧ Asked r day ∧ GoodR x.1 ∧ x.1.Shifts = r.Shifts ∧ Asked x.1 day ∧ Miss x.1.Plan d r.Shifts.length = x.2.1 ∧ x.2.1.length ≤ (Miss r.Plan d r.Shifts.length).length) ∧ RB x.1 ∧ x.2.1.length ≤ 8 := by
  obtain ⟨b, hb1, hb2⟩ := asked_i r h day
  obtain ⟨b', hb1', hb2'⟩ := asked_s r h day
  have hbb : b = b' := by
    by_cases hA : Asked r day
    · rw [hb2.2 hA, hb2'.2 hA]
    · cases b <;> cases b' <;> simp_all
  subst hbb
  unfold i_FillDay s_FillDay
  rw [bind_assoc', bind_assoc', hb1, hb1']
  simp only [Option.bind_some]
  cases b with
  | true => exact ⟨_, rfl, rfl, by simp, ⟨by simp, by simp, by simp⟩, by simp⟩
  | false =>
    have hA := hb2.1 rfl
    obtain ⟨hg, p0, hp, h0, hlt⟩ := hA
    have ed : day = ((day.toNat : Nat) : Int) := by omega
    generalize day.toNat = d at ed
    subst ed
    have hd := dayOK_of hg hp (day := d) (by omega)
    obtain ⟨x, x', q1, q2, q3, q4, q5, q6, q7⟩ := loop_both hg hd r ⟨rfl, rfl⟩
    subst q3
    have eM := missing_eq hd h.2.1 h.1
    have eS := sMissing_eq hd h.2.1 h.1
    have hlen := Miss_len r.Plan d r.Shifts.length
    have h8 := hg.1.2
    unfold i_fillDay_a
    simp only [Bool.false_eq_true, if_false, copyRoster_eq r h, ownT_eq r h, Option.bind_some, eM, eS, q1, q2]
    refine ⟨_, rfl, rfl, fun _ => ⟨d, rfl, ⟨hg, p0, hp, h0, hlt⟩, q4, rfl, ⟨q4, ?_⟩, q6, q7⟩, good_rb q4, by show x'.1.length ≤ 8; omega⟩
    obtain ⟨p1, hp1⟩ := get_ex (l := x'.2) (i := 0) (by have := q4.2.2.2.1; show 0 < x'.2.length; exact this.1)
    exact ⟨p1, hp1, h0, by have := q5 p1 (List.mem_of_getElem? hp1); omega⟩
/-! Swaps; the draws; the law. -/
theorem rInts_refl (a : List Int) (h : a.length ≤ 1000) : v_rInts a a = some true := by
  unfold v_rInts
  simp only [bne_self_eq_false, Bool.false_eq_true, if_false]
  rw [all_val (hd := Classical.propDecidable _) a (fun _ _ => True) (fun i x hx => ?_) (by unfold v_rInts_L1; simp)]
  · rw [if_pos (fun _ _ _ => trivial)]
  · have hi := (List.getElem?_eq_some_iff.1 hx).1
    unfold v_rInts_L1
    have hlt : decide ((i : Int) < (a.length : Int)) = true := by simp; omega
    left
    simp only [hlt, if_true, idx_nat, hx, Option.bind_some, bne_self_eq_false, Bool.false_eq_true, if_false, w64_succ (n := i) (by omega), and_self]
theorem rTable_refl (a : List (List Int)) (h : a.length ≤ 1000) (h2 : ∀ p ∈ a, p.length ≤ 1000) : v_rTable a a = some true := by
  unfold v_rTable
  simp only [bne_self_eq_false, Bool.false_eq_true, if_false]
  rw [all_val (hd := Classical.propDecidable _) a (fun _ _ => True) (fun i x hx => ?_) (by unfold v_rTable_L1; simp)]
  · rw [if_pos (fun _ _ _ => trivial)]
  · have hi := (List.getElem?_eq_some_iff.1 hx).1
    unfold v_rTable_L1
    have hlt : decide ((i : Int) < (a.length : Int)) = true := by simp; omega
    left
    simp only [hlt, if_true, idx_nat, hx, Option.bind_some, rInts_refl x (h2 x (List.mem_of_getElem? hx)), Bool.not_true, Bool.false_eq_true, if_false, w64_succ (n := i) (by omega), and_self]

/-- When a swap is asked for that is one. -/
def AskedS (r : Roster) (a b day : Int) : Prop := GoodR r ∧ (0 ≤ a ∧ a < r.Plan.length) ∧ (0 ≤ b ∧ b < r.Plan.length) ∧ a ≠ b ∧ ∃ p0, r.Plan[0]? = some p0 ∧ 0 ≤ day ∧ day < p0.length
noncomputable instance (r : Roster) (a b day : Int) : Decidable (AskedS r a b day) := Classical.propDecidable _
theorem askedS_i (r : Roster) (h : RB r) (a b day : Int) : ((i_IsValidRoster r).bind fun r1 => if (!r1) = true then some true else (i_isDriver r a).bind fun r2 => if (!r2) = true then some true else (i_isDriver r b).bind fun r3 => if (!r3) = true then some true else if (a == b) = true then some true else (i_isRosterDay r day).bind fun r4 => some (!r4)) = some (!decide (AskedS r a b day)) := by
  rw [valid_eq r h]
  simp only [isDriver_eq, Option.bind_some]
  by_cases hg : GoodR r
  · obtain ⟨p0, hp⟩ := get_ex (l := r.Plan) (i := 0) (by have := hg.2.2.2.1; omega)
    have hidx : idx r.Plan 0 = some p0 := by rw [show (0 : Int) = ((0 : Nat) : Int) from rfl, idx_nat]; exact hp
    have hA : AskedS r a b day ↔ (0 ≤ a ∧ a < r.Plan.length) ∧ (0 ≤ b ∧ b < r.Plan.length) ∧ a ≠ b ∧ 0 ≤ day ∧ day < p0.length := by
      constructor
      · rintro ⟨_, g1, g2, g3, q, hq, g4⟩
        rw [hp] at hq; cases hq; exact ⟨g1, g2, g3, g4⟩
      · rintro ⟨g1, g2, g3, g4⟩; exact ⟨hg, g1, g2, g3, p0, hp, g4⟩
    have hR : i_isRosterDay r day = some (decide (0 ≤ day ∧ day < p0.length)) := by
      unfold i_isRosterDay
      by_cases h0 : 0 ≤ day <;> simp [hidx, h0]
    by_cases c1 : 0 ≤ a ∧ a < r.Plan.length
    · by_cases c2 : 0 ≤ b ∧ b < r.Plan.length
      · by_cases c3 : a = b
        · have hn : ¬ AskedS r a b day := fun hh => hh.2.2.2.1 c3
          have c3' : (a == b) = true := by simpa using c3
          simp only [hg, c1, c2, c3', hn, and_self, decide_true, decide_false, Bool.not_true, Bool.not_false, Bool.false_eq_true, if_false, if_true]
        · have c3' : (a == b) = false := by simpa using c3
          simp [hg, c1, c2, c3, hA, hR]
      · have : ¬ AskedS r a b day := fun hh => c2 hh.2.2.1
        simp only [hg, c1, c2, this, and_self, decide_true, decide_false, Bool.not_true, Bool.not_false, Bool.false_eq_true, if_false, if_true]
    · have : ¬ AskedS r a b day := fun hh => c1 hh.2.1
      simp only [hg, c1, this, decide_true, decide_false, Bool.not_true, Bool.not_false, Bool.false_eq_true, if_false, if_true]
  · have : ¬ AskedS r a b day := fun hh => hg hh.1
    simp [hg, this]
theorem asked_eq (r : Roster) (h : RB r) (d : Int) : s_l14Asked r d = some (decide (GoodR r ∧ 0 ≤ d ∧ d < r.Plan.length)) := by
  unfold s_l14Asked
  have e1 : w64 ((r.Plan.length : Int) - 1) = (r.Plan.length : Int) - 1 := w64_id (by have := h.2.1; omega)
  simp only [good_eq r h, l1In_eq, e1, Option.bind_some]
  by_cases hg : GoodR r
  · have : (0 ≤ d ∧ d ≤ (r.Plan.length : Int) - 1) ↔ (0 ≤ d ∧ d < r.Plan.length) := by omega
    simp [hg, this]
  · simp [hg]
theorem askedS_s (r : Roster) (h : RB r) (a b day : Int) : ((s_l14Asked r a).bind fun r1 => if (!r1) = true then some true else (s_l14Asked r b).bind fun r2 => if (!r2) = true then some true else if (a == b) = true then some true else (idx r.Plan 0).bind fun e => (s_l1In day 0 (w64 ((e.length : Int) - 1))).bind fun r3 => some (!r3)) = some (!decide (AskedS r a b day)) := by
  simp only [asked_eq r h, Option.bind_some]
  by_cases hg : GoodR r
  · obtain ⟨p0, hp⟩ := get_ex (l := r.Plan) (i := 0) (by have := hg.2.2.2.1; omega)
    have hl := (row_facts hg hp).1
    have hidx : idx r.Plan 0 = some p0 := by rw [show (0 : Int) = ((0 : Nat) : Int) from rfl, idx_nat]; exact hp
    have hw : w64 ((p0.length : Int) - 1) = (p0.length : Int) - 1 := w64_id (by omega)
    have hA : AskedS r a b day ↔ (0 ≤ a ∧ a < r.Plan.length) ∧ (0 ≤ b ∧ b < r.Plan.length) ∧ a ≠ b ∧ 0 ≤ day ∧ day ≤ (p0.length : Int) - 1 := by
      constructor
      · rintro ⟨_, g1, g2, g3, q, hq, g4⟩
        rw [hp] at hq; cases hq; exact ⟨g1, g2, g3, by omega⟩
      · rintro ⟨g1, g2, g3, g4⟩; exact ⟨hg, g1, g2, g3, p0, hp, by omega⟩
    by_cases c1 : 0 ≤ a ∧ a < r.Plan.length
    · by_cases c2 : 0 ≤ b ∧ b < r.Plan.length
      · by_cases c3 : a = b
        · have hn : ¬ AskedS r a b day := fun hh => hh.2.2.2.1 c3
          have c3' : (a == b) = true := by simpa using c3
          simp only [hg, c1, c2, c3', hn, and_self, decide_true, decide_false, Bool.not_true, Bool.not_false, Bool.false_eq_true, if_false, if_true]
        · have c3' : (a == b) = false := by simpa using c3
          simp [hg, c1, c2, c3, hA, hidx, hw, l1In_eq]
      · have : ¬ AskedS r a b day := fun hh => c2 hh.2.2.1
        simp only [hg, c1, c2, this, and_self, and_false, decide_true, decide_false, Bool.not_true, Bool.not_false, Bool.false_eq_true, if_false, if_true]
    · have : ¬ AskedS r a b day := fun hh => c1 hh.2.1
      simp only [hg, c1, this, and_false, decide_true, decide_false, Bool.not_true, Bool.not_false, Bool.false_eq_true, if_false, if_true]
  · have : ¬ AskedS r a b day := fun hh => hg hh.1
    simp [hg, this]
/-- What a swap leaves. -/
def swapP (P : List (List Int)) (a b day : Nat) (pa pb : List Int) (xa xb : Int) : List (List Int) := (P.set a (pa.set day xb)).set b (pb.set day xa)
theorem swap_both (r : Roster) (h : RB r) (a b day : Int) : ∃ x, i_SwapDrivers r a b day = some x ∧ s_SwapDrivers r a b day = some x ∧ RB x.1 ∧
    (x.2 = true → ∃ (an bn dn : Nat) (pa pb : List Int) (xa xb : Int), a = (an : Int) ∧ b = (bn : Int) ∧ day = (dn : Int) ∧ an ≠ bn ∧ r.Plan[an]? = some pa ∧ r.Plan[bn]? = some pb ∧ pa[dn]? = some xa ∧ pb[dn]? = some xb ∧ x.1.Plan = swapP r.Plan an bn dn pa pb xa xb) := by
  unfold i_SwapDrivers s_SwapDrivers
  rw [bind_assoc', bind_assoc', askedS_i r h, askedS_s r h]
  by_cases hA : AskedS r a b day
  · obtain ⟨hg, ha, hb, hab, p0, hp0, hd0, hd1⟩ := hA
    have hAA : AskedS r a b day := ⟨hg, ha, hb, hab, p0, hp0, hd0, hd1⟩
    have ea : a = ((a.toNat : Nat) : Int) := by omega
    have eb : b = ((b.toNat : Nat) : Int) := by omega
    have ed : day = ((day.toNat : Nat) : Int) := by omega
    have hdo := dayOK_of hg hp0 (day := day.toNat) (by omega)
    have han : a.toNat < r.Plan.length := by omega
    have hbn : b.toNat < r.Plan.length := by omega
    have hne : a.toNat ≠ b.toNat := by omega
    generalize a.toNat = an at ea han hne
    generalize b.toNat = bn at eb hbn hne
    generalize day.toNat = dn at ed hdo
    subst ea; subst eb; subst ed
    obtain ⟨pa, hpa⟩ := get_ex han
    obtain ⟨pb, hpb⟩ := get_ex hbn
    have hxa := row_at hdo hpa
    have hxb := row_at hdo hpb
    generalize pa.getD dn (-1) = xa at hxa
    generalize pb.getD dn (-1) = xb at hxb
    have ra := (row_facts hg hpa).2 dn xa hxa
    have rb := (row_facts hg hpb).2 dn xb hxb
    have g1 := good_set hg (day := dn) hpa (s := xb) rb
    have hpb1 : (r.Plan.set an (pa.set dn xb))[bn]? = some pb := by rw [List.getElem?_set_ne hne]; exact hpb
    have g2 : GoodR (withP r (swapP r.Plan an bn dn pa pb xa xb)) := good_set g1 (day := dn) (d := bn) hpb1 (s := xa) ra
    have hln : (swapP r.Plan an bn dn pa pb xa xb).length = r.Plan.length := by simp [swapP]
    obtain ⟨ca, ca1, ca2⟩ := keeps_both g2 (d := an) (by show an < (swapP _ _ _ _ _ _ _ _).length; rw [hln]; exact han)
    obtain ⟨cb, cb1, cb2⟩ := keeps_both g2 (d := bn) (by show bn < (swapP _ _ _ _ _ _ _ _).length; rw [hln]; exact hbn)
    unfold swapP at ca1 ca2 cb1 cb2
    simp only [hAA, decide_true, Bool.not_true, Bool.false_eq_true, if_false, copyRoster_eq r h, ownT_eq r h, Option.bind_some, idx_nat, hpa, hpb, hxa, hxb, hpb1, Int.toNat_natCast, ca1, ca2, cb1, cb2]
    cases ca with
    | false => exact ⟨_, rfl, rfl, ⟨by simp, by simp, by simp⟩, by simp⟩
    | true =>
      cases cb with
      | false => exact ⟨_, rfl, rfl, ⟨by simp, by simp, by simp⟩, by simp⟩
      | true => exact ⟨_, rfl, rfl, good_rb g2, fun _ => ⟨an, bn, dn, pa, pb, xa, xb, rfl, rfl, rfl, hne, hpa, hpb, hxa, hxb, rfl⟩⟩
  · simp only [hA, decide_false, Bool.not_false, if_true, Option.bind_some]
    exact ⟨_, rfl, rfl, ⟨by simp, by simp, by simp⟩, by simp⟩
theorem swap_back {P : List (List Int)} {a b day : Nat} {pa pb : List Int} {xa xb : Int} (hne : a ≠ b) (hpa : P[a]? = some pa) (hpb : P[b]? = some pb) (hxa : pa[day]? = some xa) (hxb : pb[day]? = some xb) {qa qb : List Int} {ya yb : Int}
    (k1 : (swapP P a b day pa pb xa xb)[a]? = some qa) (k2 : (swapP P a b day pa pb xa xb)[b]? = some qb) (k3 : qa[day]? = some ya) (k4 : qb[day]? = some yb) : swapP (swapP P a b day pa pb xa xb) a b day qa qb ya yb = P := by
  have hpb1 : (P.set a (pa.set day xb))[b]? = some pb := by rw [List.getElem?_set_ne hne]; exact hpb
  have e1 : qa = pa.set day xb := by
    unfold swapP at k1
    rw [List.getElem?_set_ne (Ne.symm hne), set_at hpa] at k1
    cases k1; rfl
  have e2 : qb = pb.set day xa := by
    unfold swapP at k2
    rw [set_at hpb1] at k2
    cases k2; rfl
  subst e1; subst e2
  rw [set_at hxa] at k3; cases k3
  rw [set_at hxb] at k4; cases k4
  unfold swapP
  rw [List.set_set, List.set_set, set_same hxa, set_same hxb]
  rw [List.set_comm _ _ (Ne.symm hne), List.set_set, List.set_set, set_same hpa, set_same hpb]

theorem drawFill_ok (code : List UInt8) : Tot (s_DrawFillDay code) fun r => RB r.1 := by
  unfold s_DrawFillDay s_DrawMissingShifts
  obtain ⟨r, hr, hc, hd⟩ := roster_ok (cur0 code) (by omega)
  obtain ⟨p0, hp0⟩ := get_ex (l := r.1.Plan) (i := 0) (by have := hd.2.1; omega)
  have hidx : idx r.1.Plan 0 = some p0 := by rw [show (0 : Int) = ((0 : Nat) : Int) from rfl, idx_nat]; exact hp0
  obtain ⟨r2, hr2, hc2, _⟩ := pick_ok (w64 ((p0.length : Int) + 1)) hc (by omega)
  obtain ⟨r3, hr3, hc3, _⟩ := pick_ok 12 hc2 (by omega)
  simp only [hr, hidx, hr2, hr3, Option.bind_some, chk_of (show (11 : Int) ≠ 0 by omega)]
  exact .ok hd.rb
theorem drawWeek_ok (code : List UInt8) : Tot (s_DrawBusiestWeek code) fun r => RB r.1 := by
  unfold s_DrawBusiestWeek s_DrawWorkedMinutes
  obtain ⟨r, hr, hc, hd⟩ := roster_ok (cur0 code) (by omega)
  obtain ⟨r2, hr2, hc2, _⟩ := pick_ok (w64 ((r.1.Plan.length : Int) + 1)) hc (by omega)
  obtain ⟨r3, hr3, hc3, _⟩ := pick_ok 12 hc2 (by omega)
  simp only [hr, hr2, hr3, Option.bind_some, chk_of (show (11 : Int) ≠ 0 by omega)]
  exact .ok hd.rb
theorem drawSwap_ok (code : List UInt8) : Tot (s_DrawSwapDrivers code) fun r => RB r.1 := by
  unfold s_DrawSwapDrivers
  obtain ⟨r, hr, hc, hd⟩ := roster_ok (cur0 code) (by omega)
  obtain ⟨r1, hr1, hc1, _⟩ := pick_ok (r.1.Plan.length : Int) hc (by omega)
  obtain ⟨r2, hr2, hc2, _⟩ := pick_ok (w64 ((r.1.Plan.length : Int) + 1)) hc1 (by omega)
  obtain ⟨r3, hr3, hc3, _⟩ := pick_ok 12 hc2 (by omega)
  obtain ⟨p0, hp0⟩ := get_ex (l := r.1.Plan) (i := 0) (by have := hd.2.1; omega)
  have hidx : idx r.1.Plan 0 = some p0 := by rw [show (0 : Int) = ((0 : Nat) : Int) from rfl, idx_nat]; exact hp0
  obtain ⟨r4, hr4, hc4, _⟩ := pick_ok (w64 ((p0.length : Int) + 1)) hc3 (by omega)
  simp only [hr, hr1, hr2, hr3, hidx, hr4, Option.bind_some, chk_of (show (11 : Int) ≠ 0 by omega)]
  exact .ok hd.rb
/-- The busiest week and all minutes. -/
theorem week_both (r : Roster) (h : RB r) (d : Int) : ∃ x y, i_BusiestWeek r d = some x ∧ s_BusiestWeek r d = some x ∧ i_WorkedMinutes r d = some y ∧ y.2 = x.2.2 ∧ (x.2.2 = true → x.2.1 ≤ y.1) := by
  unfold i_BusiestWeek s_BusiestWeek i_WorkedMinutes
  simp only [asked_eq r h, valid_eq r h, isDriver_eq, Option.bind_some]
  by_cases hA : GoodR r ∧ 0 ≤ d ∧ d < r.Plan.length
  · obtain ⟨hg, h0, h1⟩ := hA
    have ed : d = ((d.toNat : Nat) : Int) := by omega
    generalize d.toNat = dn at ed
    subst ed
    obtain ⟨p, hp⟩ := get_ex (l := r.Plan) (i := dn) (by omega)
    obtain ⟨w, _, _, hw, _⟩ := driver_ok hg hp
    have hle := week_le hg hp hw
    have hwk := (worked_eq hg hp).1
    have hs : s_l14Week r (dn : Int) = some w := by rw [week_eq]; exact hw
    refine ⟨(w.1, w.2, true), (W r p, true), ?_, ?_, ?_, rfl, fun _ => hle⟩ <;> simp [hg, h1, hw, hs, hwk]
  · refine ⟨(0, 0, false), (0, false), ?_, ?_, ?_, rfl, fun h => by cases h⟩
    · by_cases hg : GoodR r
      · have : ¬ (0 ≤ d ∧ d < (r.Plan.length : Int)) := fun hh => hA ⟨hg, hh⟩
        simp only [hg, this, decide_true, decide_false, Bool.not_true, Bool.not_false, Bool.false_eq_true, if_false, if_true, Option.bind_some]
      · simp [hg]
    · simp only [hA, decide_false, Bool.not_false, if_true]
    · by_cases hg : GoodR r
      · have : ¬ (0 ≤ d ∧ d < (r.Plan.length : Int)) := fun hh => hA ⟨hg, hh⟩
        simp only [hg, this, decide_true, decide_false, Bool.not_true, Bool.not_false, Bool.false_eq_true, if_false, if_true, Option.bind_some]
      · simp [hg]
theorem missS_eq {r : Roster} (h : RB r) {d : Nat} (hA : Asked r (d : Int)) : i_MissingShifts r (d : Int) = some (Miss r.Plan d r.Shifts.length, true) := by
  obtain ⟨b, hb1, hb2⟩ := asked_i r h (d : Int)
  obtain ⟨hg, p0, hp0, _, h1⟩ := hA
  unfold i_MissingShifts
  rw [bind_assoc', hb1, hb2.2 ⟨hg, p0, hp0, by omega, h1⟩]
  simp only [Option.bind_some, Bool.false_eq_true, if_false, missing_eq (dayOK_of hg hp0 (day := d) (by omega)) h.2.1 h.1]
theorem rosters_true (code : List UInt8) : v_FnRosters code = some true := by
  unfold v_FnRosters v_rBig
  simp only [Option.bind_some]
  split
  · rfl
  · obtain ⟨r1, hr1, hb1⟩ := drawFill_ok code
    obtain ⟨x, f1, f2, f3, f4, f5⟩ := fill_both r1.1 hb1 r1.2
    obtain ⟨r11, hr11, hb11⟩ := drawWeek_ok code
    obtain ⟨w, y, g1, g2, g3, g4, g5⟩ := week_both r11.1 hb11 r11.2
    obtain ⟨r15, hr15, hb15⟩ := drawSwap_ok code
    obtain ⟨s, k1, k2, k3, k4⟩ := swap_both r15.1 hb15 r15.2.1 r15.2.2.1 r15.2.2.2
    have eta : (⟨r11.1.Shifts, r11.1.Rules, r11.1.Plan⟩ : Roster) = r11.1 := rfl
    simp only [hr1, f1, f2, hr11, eta, g1, g2, g3, hr15, k1, k2, g4, Option.bind_some, beq_self_eq_true, bne_self_eq_false, Bool.not_true, Bool.false_eq_true, if_false, rInts_refl _ (show x.2.1.length ≤ 1000 by omega), rTable_refl _ f4.2.1 f4.2.2, rTable_refl _ k3.2.1 k3.2.2]
    have first : (if x.2.2 = true then
        (i_MissingShifts r1.1 r1.2).bind fun r6 =>
        (i_MissingShifts x.1 r1.2).bind fun r7 =>
        (if (!r6.2) = true then some true else if (!r7.2) = true then some true else (v_rInts r7.1 x.2.1).bind fun r8 =>
        if (!r8) = true then some true else if (decide ((r6.1.length : Int) < (r7.1.length : Int))) = true then some true else (i_IsValidRoster x.1).bind fun r9 =>
        some (!r9)).bind fun (v1 : Bool) =>
        if v1 = true then
          some (Fl.ret false : Fl Bool Unit)
        else
          some (.go ())
      else
        some (.go ())) = some (.go ()) := by
      by_cases hx : x.2.2 = true
      · rw [if_pos hx]
        obtain ⟨d, hd, hA, hg, hsh, hA2, hm, hl⟩ := f3 hx
        rw [hd] at hA hA2 ⊢
        have hr : rInts_refl x.2.1 (by omega) = rInts_refl x.2.1 (by omega) := rfl
        have hlt : ¬ (((Miss r1.1.Plan d r1.1.Shifts.length).length : Int) < (x.2.1.length : Int)) := by omega
        simp only [missS_eq hb1 hA, missS_eq f4 hA2, hsh, hm, Option.bind_some, Bool.not_true, Bool.false_eq_true, if_false, rInts_refl _ (show x.2.1.length ≤ 1000 by omega), hlt, decide_false, valid_eq _ f4, hg, decide_true]
      · rw [if_neg hx]
    rw [first]
    have second : (if w.2.2 = true then some (decide (y.1 < w.2.1)) else some false) = some false := by
      by_cases hx : w.2.2 = true
      · have := g5 hx
        rw [if_pos hx]; simp; omega
      · rw [if_neg hx]
    have third : (if s.2 = true then
              (i_SwapDrivers s.1 r15.2.1 r15.2.2.1 r15.2.2.2).bind fun r19 =>
              (if r19.2 = true then (v_rTable r19.1.Plan r15.1.Plan).bind fun r20 =>
              some (!r20) else some false).bind fun (v5 : Bool) =>
              if v5 = true then
                some (Fl.ret false : Fl Bool Unit)
              else
                some (.go ())
            else
              some (.go ())) = some (.go ()) := by
      by_cases hx : s.2 = true
      · rw [if_pos hx]
        obtain ⟨an, bn, dn, pa, pb, xa, xb, e1, e2, e3, hne, hpa, hpb, hxa, hxb, hP⟩ := k4 hx
        obtain ⟨t, t1, _, t3, t4⟩ := swap_both s.1 k3 r15.2.1 r15.2.2.1 r15.2.2.2
        rw [t1]
        simp only [Option.bind_some]
        by_cases ht : t.2 = true
        · obtain ⟨an', bn', dn', qa, qb, ya, yb, e1', e2', e3', _, h1', h2', h3', h4', hP'⟩ := t4 ht
          have i1 : an' = an := by omega
          have i2 : bn' = bn := by omega
          have i3 : dn' = dn := by omega
          subst i1; subst i2; subst i3
          rw [hP] at h1' h2' hP'
          rw [swap_back hne hpa hpb hxa hxb h1' h2' h3' h4'] at hP'
          simp only [ht, if_true, hP', rTable_refl _ hb15.2.1 hb15.2.2, Option.bind_some, Bool.not_true, Bool.false_eq_true, if_false]
        · simp [ht]
      · rw [if_neg hx]
    simp only [flb_go, second, third, Option.bind_some, Bool.false_eq_true, if_false]
end Go.Proofs.Ytepdapiceklppaa
