/- The plain law: what the models compute, no program in sight. -/
import Derived.Test.YtfknbpimkleimaaFaM
import Derived.Test.YtfknbpimkleimaaAbStb
namespace Go.Proofs.Ytfknbpimkleimaa
open Go Go.Ab
set_option maxHeartbeats 4000000
set_option linter.unusedVariables false
set_option linter.unusedSimpArgs false
/-! The cursor of the draws: it always answers. -/
def Cur (k : Nat) (c : l1Cur) : Prop := 0 ≤ c.at_ ∧ c.at_ ≤ k
theorem Cur.mono {k k' : Nat} {c : l1Cur} (h : Cur k c) (hk : k ≤ k') : Cur k' c := ⟨h.1, by have := h.2; omega⟩
theorem next_ok {k : Nat} {c : l1Cur} (h : Cur k c) (hk : k ≤ 4000000000) : ∃ r, s_l1Cur_next c = some r ∧ Cur (k + 1) r.2 ∧ 0 ≤ r.1 ∧ r.1 ≤ 255 := by
  obtain ⟨h0, h1⟩ := h
  have hw : w64 (c.at_ + 1) = c.at_ + 1 := w64_id (by omega)
  have hcur : ∀ s, Cur (k + 1) ⟨c.code_, w64 (c.at_ + 1), s⟩ := fun s => by rw [hw]; exact ⟨by show 0 ≤ c.at_ + 1; omega, by show c.at_ + 1 ≤ _; omega⟩
  unfold s_l1Cur_next
  have hv : ∃ v, (if (decide (c.at_ < (c.code_.length : Int))) = true then (idx c.code_ c.at_).bind fun e1 => some (w64 ((e1.toNat : Int))) else some 0) = some v ∧ 0 ≤ v ∧ v ≤ 255 := by
    by_cases hlt : c.at_ < c.code_.length
    · obtain ⟨x, hx, _, _⟩ := idx_lt h0 hlt
      have := x.toNat_lt
      refine ⟨(x.toNat : Int), ?_, by omega, by omega⟩
      simp only [hlt, decide_true, if_true, hx, Option.bind_some]
      rw [w64_id (by omega)]
    · exact ⟨0, by simp [hlt], by omega, by omega⟩
  obtain ⟨v, hv, hv0, hv1⟩ := hv
  rw [hv]
  simp only [Option.bind_some]
  split
  · exact ⟨_, rfl, hcur _, hv0, hv1⟩
  · rw [chk_of (by omega)]
    exact ⟨_, rfl, hcur _, and255 _⟩
theorem pick_ok {k : Nat} {c : l1Cur} (n : Int) (h : Cur k c) (hk : k ≤ 3000000000) : ∃ r, s_l1Cur_pick c n = some r ∧ Cur (k + 2) r.2 ∧ 0 ≤ r.1 ∧ (r.1 < n ∨ r.1 = 0) := by
  unfold s_l1Cur_pick
  by_cases hn : n ≤ 1
  · exact ⟨(0, c), by simp [hn], h.mono (by omega), by simp, .inr rfl⟩
  · obtain ⟨r, hr, hc, h0, h1⟩ := next_ok h (by omega)
    have hn' : decide (n ≤ 1) = false := by simpa using hn
    simp only [hn', Bool.false_eq_true, if_false, hr, Option.bind_some]
    have hne : chk (n ≠ 0) = some () := chk_of (by omega)
    by_cases h2 : 200 < n
    · obtain ⟨r', hr', hc', h0', h1'⟩ := next_ok hc (by omega)
      have e1 : w64 (r.1 * 256) = r.1 * 256 := w64_id (by omega)
      have e2 : w64 (r.1 * 256 + r'.1) = r.1 * 256 + r'.1 := w64_id (by omega)
      have h3 := tmod_rng (a := r.1 * 256 + r'.1) (b := n) (by omega) (by omega)
      simp only [h2, decide_true, if_true, hr', Option.bind_some, hne, e1, e2]
      exact ⟨_, rfl, hc'.mono (by omega), h3.1, .inl h3.2⟩
    · have h2' : decide (200 < n) = false := by simpa using h2
      have h3 := tmod_rng (a := r.1) (b := n) (by omega) (by omega)
      simp only [h2', Bool.false_eq_true, if_false, Option.bind_some, hne]
      exact ⟨_, rfl, hc.mono (by omega), h3.1, .inl h3.2⟩
theorem amongw_ok {k : Nat} {c : l1Cur} (l : List Int) (hl : l ≠ []) (h : Cur k c) (hk : k ≤ 3000000000) : ∃ r, s_l1Cur_among_w c l = some r ∧ Cur (k + 2) r.2 ∧ r.1 ∈ l := by
  unfold s_l1Cur_among_w
  obtain ⟨r, hr, hc, h0, h1⟩ := pick_ok (l.length : Int) h hk
  have hpos : 0 < l.length := List.length_pos_iff.2 hl
  obtain ⟨x, hx, _, hm⟩ := idx_lt (l := l) h0 (by omega)
  simp only [hr, Option.bind_some, hx]
  exact ⟨_, rfl, hc, hm⟩
theorem among_ok {k : Nat} {c : l1Cur} (l : List Int) (hl : l ≠ []) (h : Cur k c) (hk : k ≤ 3000000000) : ∃ r, s_l1Cur_among c l = some r ∧ Cur (k + 2) r.2 ∧ r.1 ∈ l := by
  have : s_l1Cur_among c l = s_l1Cur_among_w c l := rfl
  rw [this]; exact amongw_ok l hl h hk
theorem one_ok {k : Nat} {c : l1Cur} (n : Int) (h : Cur k c) (hk : k ≤ 3000000000) : ∃ r, s_l1Cur_one c n = some r ∧ Cur (k + 2) r.2 := by
  unfold s_l1Cur_one
  obtain ⟨r, hr, hc, _, _⟩ := pick_ok n h hk
  simp only [hr, Option.bind_some]
  exact ⟨_, rfl, hc⟩
theorem of_ok {k : Nat} {c : l1Cur} (l : List ByteArray) (hl : l ≠ []) (h : Cur k c) (hk : k ≤ 3000000000) : ∃ r, s_l1Cur_of c l = some r ∧ Cur (k + 2) r.2 ∧ r.1 ∈ l := by
  unfold s_l1Cur_of
  obtain ⟨r, hr, hc, h0, h1⟩ := pick_ok (l.length : Int) h hk
  have hpos : 0 < l.length := List.length_pos_iff.2 hl
  obtain ⟨x, hx, _, hm⟩ := idx_lt (l := l) h0 (by omega)
  simp only [hr, Option.bind_some, hx]
  exact ⟨_, rfl, hc, hm⟩
theorem ofw_ok {k : Nat} {c : l1Cur} (l : List ByteArray) (hl : l ≠ []) (h : Cur k c) (hk : k ≤ 3000000000) : ∃ r, s_l1Cur_of_w c l = some r ∧ Cur (k + 2) r.2 ∧ r.1 ∈ l := by
  have : s_l1Cur_of_w c l = s_l1Cur_of c l := rfl
  rw [this]; exact of_ok l hl h hk
theorem cur0 (code : List UInt8) : Cur 0 ⟨code, 0, ⟨0⟩⟩ := ⟨by show (0 : Int) ≤ 0; omega, by show (0 : Int) ≤ _; omega⟩
/-! Networks: when they are valid, for the program and for the reference. -/
theorem within_eq (n lo hi : Int) : i_within n lo hi = some (decide (lo ≤ n ∧ n ≤ hi)) := by
  unfold i_within
  by_cases h : lo ≤ n <;> simp [h]
theorem l1In_eq (n lo hi : Int) : s_l1In n lo hi = some (decide (lo ≤ n ∧ n ≤ hi)) := by
  unfold s_l1In
  by_cases h : lo ≤ n <;> simp [h]
/-- Byte i of a name. -/
def ChOK (i : Nat) (c : UInt8) : Prop := (97 ≤ (c.toNat : Int) ∧ (c.toNat : Int) ≤ 122) ∨ (i ≠ 0 ∧ 48 ≤ (c.toNat : Int) ∧ (c.toNat : Int) ≤ 57)
def NameOK (s : ByteArray) : Prop := (1 ≤ s.size ∧ s.size ≤ 8) ∧ ∀ (i : Nat) c, s.data.toList[i]? = some c → ChOK i c
open Classical in
noncomputable instance (s : ByteArray) : Decidable (NameOK s) := Classical.propDecidable _
theorem size_list (s : ByteArray) : s.data.toList.length = s.size := by simp
theorem getD_of {α : Type} {l : List α} {i : Nat} {x d : α} (h : l[i]? = some x) : l.getD i d = x := by rw [List.getD_eq_getElem?_getD, h]; rfl

theorem isName_eq (s : ByteArray) : i_isName s = some (decide (NameOK s)) := by
  unfold i_isName
  by_cases h1 : 1 ≤ s.size ∧ s.size ≤ 8
  · have e1 : decide ((s.size : Int) < 1) = false := by simp; omega
    have e2 : decide (8 < (s.size : Int)) = false := by simp; omega
    simp only [e1, e2, Bool.false_eq_true, if_false, Option.bind_some]
    have hsz := size_list s
    have key := all_loop s.data.toList ChOK (step := i_isName_L1 s) ?_ ?_ 0 0 rfl (by omega)
    · rcases key with ⟨g1, g2⟩ | ⟨g1, g2⟩
      · rw [g1, flb_go]
        have : NameOK s := ⟨h1, fun i c hc => g2 i c (by omega) hc⟩
        simp [this]
      · rw [g1, flb_ret]
        have : ¬ NameOK s := fun hn => g2 fun i c _ hc => hn.2 i c hc
        simp [this]
    · intro i x hx
      have hi := (List.getElem?_eq_some_iff.1 hx).1
      have hg : s.data.toList.getD (i : Int).toNat 0 = x := by rw [Int.toNat_natCast]; exact getD_of hx
      have hc : chk ((0 : Int) ≤ (i : Int) ∧ (i : Int) < (s.size : Int)) = some () := chk_of (by omega)
      have hlt : decide ((i : Int) < (s.size : Int)) = true := by simp; omega
      unfold i_isName_L1
      simp only [hlt, if_true, hc, hg, Option.bind_some, w64_succ (n := i) (by omega)]
      unfold ChOK
      by_cases a1 : (97 : Int) ≤ (x.toNat : Int)
      · by_cases a2 : (x.toNat : Int) ≤ 122
        · left; refine ⟨by simp [a1, a2], .inl ⟨a1, a2⟩⟩
        · right
          refine ⟨?_, by omega⟩
          have b1 : decide ((x.toNat : Int) < 48) = false := by simp; omega
          have b2 : decide ((57 : Int) < (x.toNat : Int)) = true := by simp; omega
          have c1 : ¬ (x.toNat : Int) < 48 := by omega
          have c2 : (57 : Int) < (x.toNat : Int) := by omega
          by_cases hi0 : i = 0
          · simp [a1, a2, hi0]
          · have hi0' : ((i : Int) == 0) = false := by simp; omega
            simp [a1, a2, hi0', c1, c2]
      · by_cases hi0 : i = 0
        · right
          refine ⟨by simp [a1, hi0], by omega⟩
        · have hi0' : ((i : Int) == 0) = false := by simp; omega
          by_cases b1 : (x.toNat : Int) < 48
          · right
            refine ⟨by simp [a1, hi0', b1], by omega⟩
          · by_cases b2 : (57 : Int) < (x.toNat : Int)
            · right
              refine ⟨by simp [a1, hi0', b1, b2], by omega⟩
            · left
              refine ⟨by simp [a1, hi0', b1, b2], .inr ⟨hi0, by omega, by omega⟩⟩
    · unfold i_isName_L1
      rw [hsz]
      simp
  · have : ¬ NameOK s := fun h => h1 h.1
    have e : (if (decide ((s.size : Int) < 1)) = true then some true else some (decide (8 < (s.size : Int)))) = some true := by
      by_cases h2 : s.size < 1
      · have : decide ((s.size : Int) < 1) = true := by simp; omega
        simp [this]
      · have e1 : decide ((s.size : Int) < 1) = false := by simp; omega
        have e2 : decide (8 < (s.size : Int)) = true := by simp; omega
        simp [e1, e2]
    rw [e]
    simp [this]

theorem l2Name_eq (s : ByteArray) : s_l2Name s = some (decide (NameOK s)) := by
  unfold s_l2Name
  rw [l1In_eq]
  simp only [Option.bind_some]
  by_cases h1 : 1 ≤ s.size ∧ s.size ≤ 8
  · have e1 : decide ((1 : Int) ≤ (s.size : Int) ∧ (s.size : Int) ≤ 8) = true := by simp; omega
    have hsz := size_list s
    obtain ⟨x0, hx0⟩ := get_ex (l := s.data.toList) (i := 0) (by omega)
    have hg0 : s.data.toList.getD (0 : Int).toNat 0 = x0 := getD_of hx0
    have hc0 : chk ((0 : Int) ≤ 0 ∧ 0 < (s.size : Int)) = some () := chk_of (by omega)
    simp only [e1, Bool.not_true, Bool.false_eq_true, if_false, hc0, hg0, Option.bind_some]
    by_cases a0 : 97 ≤ (x0.toNat : Int) ∧ (x0.toNat : Int) ≤ 122
    · have b1 : decide ((x0.toNat : Int) < 97) = false := by simp; omega
      have b2 : decide ((122 : Int) < (x0.toNat : Int)) = false := by simp; omega
      simp only [b1, b2, Bool.false_eq_true, if_false, Option.bind_some]
      have key := all_loop s.data.toList ChOK (step := s_l2Name_L1 s) ?_ ?_ 0 0 rfl (by omega)
      · rcases key with ⟨g1, g2⟩ | ⟨g1, g2⟩
        · rw [g1, flb_go]
          have : NameOK s := ⟨h1, fun i c hc => g2 i c (by omega) hc⟩
          simp [this]
        · rw [g1, flb_ret]
          have : ¬ NameOK s := fun hn => g2 fun i c _ hc => hn.2 i c hc
          simp [this]
      · intro i x hx
        have hi := (List.getElem?_eq_some_iff.1 hx).1
        have hg : s.data.toList.getD (i : Int).toNat 0 = x := by rw [Int.toNat_natCast]; exact getD_of hx
        have hc : chk ((0 : Int) ≤ (i : Int) ∧ (i : Int) < (s.size : Int)) = some () := chk_of (by omega)
        have hlt : decide ((i : Int) < (s.size : Int)) = true := by simp; omega
        have h0 : i = 0 → x = x0 := fun h => by subst h; rw [hx0] at hx; cases hx; rfl
        unfold s_l2Name_L1
        simp only [hlt, if_true, hc, hg, Option.bind_some, w64_succ (n := i) (by omega)]
        unfold ChOK
        by_cases a1 : (x.toNat : Int) < 97
        · have hi0 : i ≠ 0 := fun h => by have := h0 h; subst this; omega
          by_cases c1 : (x.toNat : Int) < 48
          · right; refine ⟨by simp [a1, c1], by omega⟩
          · by_cases c2 : (57 : Int) < (x.toNat : Int)
            · right; refine ⟨by simp [a1, c1, c2], by omega⟩
            · left; refine ⟨by simp [a1, c1, c2], .inr ⟨hi0, by omega, by omega⟩⟩
        · by_cases a2 : (122 : Int) < (x.toNat : Int)
          · right
            have c1 : ¬ (x.toNat : Int) < 48 := by omega
            have c2 : (57 : Int) < (x.toNat : Int) := by omega
            refine ⟨by simp [a1, a2, c1, c2], by omega⟩
          · left; refine ⟨by simp [a1, a2], .inl ⟨by omega, by omega⟩⟩
      · unfold s_l2Name_L1
        rw [hsz]
        simp
    · have : ¬ NameOK s := fun hn => by
        have := hn.2 0 x0 hx0
        unfold ChOK at this
        omega
      have e : (if (decide ((x0.toNat : Int) < 97)) = true then some true else some (decide ((122 : Int) < (x0.toNat : Int)))) = some true := by
        by_cases h2 : (x0.toNat : Int) < 97
        · simp [h2]
        · have : (122 : Int) < (x0.toNat : Int) := by omega
          simp [h2, this]
      rw [e]
      simp [this]
  · have e1 : decide ((1 : Int) ≤ (s.size : Int) ∧ (s.size : Int) ≤ 8) = false := by simp; omega
    have : ¬ NameOK s := fun h => h1 h.1
    simp [e1, this]

/-! Searches -/
theorem index_str_eq (l : List ByteArray) (hl : l.length ≤ 4000000000) (v : ByteArray) : slices_Index_string l v = some (fixI (fun e => v.toList == e.toList) l) := by
  unfold slices_Index_string
  refine find_val l (fun e => v.toList == e.toList) (fun i x hx => ?_) (by unfold slices_Index_string_L1; simp)
  have hi := (List.getElem?_eq_some_iff.1 hx).1
  unfold slices_Index_string_L1
  have hlt : decide ((i : Int) < (l.length : Int)) = true := by simp; omega
  simp only [hlt, if_true, idx_nat, hx, Option.bind_some, w64_succ (n := i) (by omega)]
  split <;> rfl
theorem index_int_eq (l : List Int) (hl : l.length ≤ 4000000000) (v : Int) : slices_Index_int l v = some (fixI (fun e => v == e) l) := by
  unfold slices_Index_int
  refine find_val l (fun e => v == e) (fun i x hx => ?_) (by unfold slices_Index_int_L1; simp)
  have hi := (List.getElem?_eq_some_iff.1 hx).1
  unfold slices_Index_int_L1
  have hlt : decide ((i : Int) < (l.length : Int)) = true := by simp; omega
  simp only [hlt, if_true, idx_nat, hx, Option.bind_some, w64_succ (n := i) (by omega)]
  split <;> rfl
theorem l2Place_eq (x : Line) (hl : x.Stops.length ≤ 4000000000) (v : Int) : s_l2Place x v = some (fixI (fun e => v == e) x.Stops) := by
  have hc : fixI (fun e => v == e) x.Stops = fixI (fun e => e == v) x.Stops := fixI_congr _ fun e => BEq.comm
  rw [hc]
  unfold s_l2Place
  refine find_val x.Stops (fun e => e == v) (fun i y hx => ?_) (by unfold s_l2Place_L1; simp)
  have hi := (List.getElem?_eq_some_iff.1 hx).1
  unfold s_l2Place_L1
  have hlt : decide ((i : Int) < (x.Stops.length : Int)) = true := by simp; omega
  simp only [hlt, if_true, idx_nat, hx, Option.bind_some, w64_succ (n := i) (by omega)]
  split <;> rfl
theorem bl_comm (a b : List UInt8) : (a == b) = (b == a) := BEq.comm
theorem l2Find_eq (l : List ByteArray) (hl : l.length ≤ 4000000000) (v : ByteArray) : s_l2Find l v = some (fixI (fun e => v.toList == e.toList) l) := by
  rw [fixI_congr l (q := fun e => e.toList == v.toList) fun e => bl_comm _ _]
  unfold s_l2Find
  refine find_val l (fun e => e.toList == v.toList) (fun i x hx => ?_) (by unfold s_l2Find_L1; simp)
  have hi := (List.getElem?_eq_some_iff.1 hx).1
  unfold s_l2Find_L1
  have hlt : decide ((i : Int) < (l.length : Int)) = true := by simp; omega
  simp only [hlt, if_true, idx_nat, hx, Option.bind_some, w64_succ (n := i) (by omega)]
  split <;> rfl
theorem l2LineNamed_eq (n : Network) (hl : n.Lines.length ≤ 4000000000) (v : ByteArray) : s_l2LineNamed n v = some (fixI (fun e => v.toList == e.toList) (n.Lines.map (·.Name))) := by
  rw [fixI_map, fixI_congr n.Lines (q := fun e => e.Name.toList == v.toList) fun e => bl_comm _ _]
  unfold s_l2LineNamed
  refine find_val n.Lines (fun e => e.Name.toList == v.toList) (fun i x hx => ?_) (by unfold s_l2LineNamed_L1; simp)
  have hi := (List.getElem?_eq_some_iff.1 hx).1
  unfold s_l2LineNamed_L1
  have hlt : decide ((i : Int) < (n.Lines.length : Int)) = true := by simp; omega
  simp only [hlt, if_true, idx_nat, hx, Option.bind_some, w64_succ (n := i) (by omega)]
  split <;> rfl
def NamesP (l : List ByteArray) : Prop := ∀ (i : Nat) x, l[i]? = some x → NameOK x ∧ fixI (fun e => x.toList == e.toList) l = (i : Int)
def LineP (st : Nat) (x : Line) : Prop := (2 ≤ x.Stops.length ∧ x.Stops.length ≤ 6) ∧ (x.Runs.length : Int) = (x.Stops.length : Int) - 1 ∧
  (∀ (i : Nat) e, x.Stops[i]? = some e → (0 ≤ e ∧ e < (st : Int)) ∧ fixI (fun y => e == y) x.Stops = (i : Int)) ∧ ∀ (i : Nat) r, x.Runs[i]? = some r → 1 ≤ r ∧ r ≤ 60
def Good (n : Network) : Prop := (2 ≤ n.Stops.length ∧ n.Stops.length ≤ 8) ∧ (1 ≤ n.Lines.length ∧ n.Lines.length ≤ 5) ∧ NamesP n.Stops ∧ NamesP (n.Lines.map (·.Name)) ∧ ∀ (i : Nat) x, n.Lines[i]? = some x → LineP n.Stops.length x
noncomputable instance (l : List ByteArray) : Decidable (NamesP l) := Classical.propDecidable _
noncomputable instance (st : Nat) (x : Line) : Decidable (LineP st x) := Classical.propDecidable _
noncomputable instance (n : Network) : Decidable (Good n) := Classical.propDecidable _
/-- No list is too long. -/
def Bd (n : Network) : Prop := n.Stops.length ≤ 1000 ∧ n.Lines.length ≤ 1000 ∧ ∀ x ∈ n.Lines, x.Stops.length ≤ 1000 ∧ x.Runs.length ≤ 1000

theorem areNames_eq (l : List ByteArray) (hl : l.length ≤ 1000) : i_areNames l = some (decide (NamesP l)) := by
  unfold i_areNames
  rw [all_val (hd := Classical.propDecidable _) l (fun i x => NameOK x ∧ fixI (fun e => x.toList == e.toList) l = (i : Int)) (fun i x hx => ?_) (by unfold i_areNames_L1; simp)]
  · by_cases h : NamesP l
    · rw [if_pos (show ∀ (i : Nat) x, l[i]? = some x → NameOK x ∧ fixI (fun e => x.toList == e.toList) l = (i : Int) from h)]; simp [h]
    · rw [if_neg (show ¬ ∀ (i : Nat) x, l[i]? = some x → NameOK x ∧ fixI (fun e => x.toList == e.toList) l = (i : Int) from h)]; simp [h]
  · have hi := (List.getElem?_eq_some_iff.1 hx).1
    unfold i_areNames_L1
    have hlt : decide ((i : Int) < (l.length : Int)) = true := by simp; omega
    simp only [hlt, if_true, idx_nat, hx, Option.bind_some, isName_eq, index_str_eq l (by omega), w64_succ (n := i) (by omega)]
    by_cases h1 : NameOK x
    · by_cases h2 : fixI (fun e => x.toList == e.toList) l = (i : Int)
      · left; simp [h1, h2]
      · right; simp [h1, h2]
    · right; simp [h1]

theorem lineNames_eq (n : Network) (hl : n.Lines.length ≤ 1000) : i_lineNames n = some (n.Lines.map (·.Name)) := by
  unfold i_lineNames
  rw [chk_of (by omega)]
  simp only [Option.bind_some]
  rw [fill_loop (fun x : Line => x.Name) n.Lines _ (by simp) (fun i a x y ha hy hx => ?_) (fun a ha => ?_)]
  · rfl
  · have hi := (List.getElem?_eq_some_iff.1 hx).1
    unfold i_lineNames_L1
    have hlt : decide ((i : Int) < (n.Lines.length : Int)) = true := by simp; omega
    simp only [hlt, if_true, idx_nat, hx, hy, Option.bind_some, w64_succ (n := i) (by omega), Int.toNat_natCast]
  · unfold i_lineNames_L1; simp

theorem isStop_eq (n : Network) (e : Int) : i_isStop n e = some (decide (0 ≤ e ∧ e < (n.Stops.length : Int))) := by
  unfold i_isStop
  by_cases h : 0 ≤ e <;> simp [h]
theorem isLine_eq (n : Network) (e : Int) : i_isLine n e = some (decide (0 ≤ e ∧ e < (n.Lines.length : Int))) := by
  unfold i_isLine
  by_cases h : 0 ≤ e <;> simp [h]

theorem isValidLine_eq (n : Network) (l : Line) (h1 : l.Stops.length ≤ 1000) (h2 : l.Runs.length ≤ 1000) : i_isValidLine n l = some (decide (LineP n.Stops.length l)) := by
  unfold i_isValidLine
  rw [within_eq]
  have e0 : w64 ((l.Stops.length : Int) - 1) = (l.Stops.length : Int) - 1 := w64_id (by omega)
  simp only [Option.bind_some, e0]
  by_cases a1 : 2 ≤ l.Stops.length ∧ l.Stops.length ≤ 6
  · have d1 : decide ((2 : Int) ≤ (l.Stops.length : Int) ∧ (l.Stops.length : Int) ≤ 6) = true := by simp; omega
    simp only [d1, Bool.not_true, Bool.false_eq_true, if_false]
    by_cases a2 : (l.Runs.length : Int) = (l.Stops.length : Int) - 1
    · have d2 : ((l.Runs.length : Int) != (l.Stops.length : Int) - 1) = false := by simp [a2]
      simp only [d2, Option.bind_some, Bool.false_eq_true, if_false]
      rw [all_val (hd := Classical.propDecidable _) l.Stops (fun i e => (0 ≤ e ∧ e < (n.Stops.length : Int)) ∧ fixI (fun y => e == y) l.Stops = (i : Int)) (fun i x hx => ?_) (by unfold i_isValidLine_L1; simp)]
      · rw [all_val (hd := Classical.propDecidable _) l.Runs (fun i r => 1 ≤ r ∧ r ≤ 60) (fun i x hx => ?_) (by unfold i_isValidLine_L2; simp)]
        · by_cases b1 : ∀ (i : Nat) e, l.Stops[i]? = some e → (0 ≤ e ∧ e < (n.Stops.length : Int)) ∧ fixI (fun y => e == y) l.Stops = (i : Int)
          · rw [if_pos b1]
            by_cases b2 : ∀ (i : Nat) r, l.Runs[i]? = some r → 1 ≤ r ∧ r ≤ 60
            · rw [if_pos b2]
              have : LineP n.Stops.length l := ⟨a1, a2, b1, b2⟩
              simp [this]
            · rw [if_neg b2]
              have : ¬ LineP n.Stops.length l := fun h => b2 h.2.2.2
              simp [this]
          · rw [if_neg b1]
            have : ¬ LineP n.Stops.length l := fun h => b1 h.2.2.1
            simp [this]
        · have hi := (List.getElem?_eq_some_iff.1 hx).1
          unfold i_isValidLine_L2
          have hlt : decide ((i : Int) < (l.Runs.length : Int)) = true := by simp; omega
          simp only [hlt, if_true, idx_nat, hx, Option.bind_some, within_eq, w64_succ (n := i) (by omega)]
          by_cases b : 1 ≤ x ∧ x ≤ 60
          · left; simp [b]
          · right; simp [b]
      · have hi := (List.getElem?_eq_some_iff.1 hx).1
        unfold i_isValidLine_L1
        have hlt : decide ((i : Int) < (l.Stops.length : Int)) = true := by simp; omega
        simp only [hlt, if_true, idx_nat, hx, Option.bind_some, isStop_eq, index_int_eq l.Stops (by omega), w64_succ (n := i) (by omega)]
        by_cases b1 : 0 ≤ x ∧ x < (n.Stops.length : Int)
        · by_cases b2 : fixI (fun y => x == y) l.Stops = (i : Int)
          · left; simp [b1, b2]
          · right; simp [b1, b2]
        · right; simp [b1]
    · have d2 : ((l.Runs.length : Int) != (l.Stops.length : Int) - 1) = true := by simp [a2]
      have : ¬ LineP n.Stops.length l := fun h => a2 h.2.1
      simp [d2, this]
  · have d1 : decide ((2 : Int) ≤ (l.Stops.length : Int) ∧ (l.Stops.length : Int) ≤ 6) = false := by simp; omega
    have : ¬ LineP n.Stops.length l := fun h => a1 h.1
    simp [d1, this]

theorem l2Line_eq (l : Line) (st : Nat) (hst : st ≤ 1000) (h1 : l.Stops.length ≤ 1000) (h2 : l.Runs.length ≤ 1000) : s_l2Line l (st : Int) = some (decide (NameOK l.Name ∧ LineP st l)) := by
  unfold s_l2Line
  rw [l2Name_eq]
  have e0 : w64 ((l.Stops.length : Int) - 1) = (l.Stops.length : Int) - 1 := w64_id (by omega)
  have e1 : w64 ((st : Int) - 1) = (st : Int) - 1 := w64_id (by omega)
  simp only [Option.bind_some, e0, l1In_eq]
  by_cases a0 : NameOK l.Name
  · simp only [a0, decide_true, Bool.not_true, Bool.false_eq_true, if_false, true_and]
    by_cases a1 : 2 ≤ l.Stops.length ∧ l.Stops.length ≤ 6
    · have d1 : decide ((2 : Int) ≤ (l.Stops.length : Int) ∧ (l.Stops.length : Int) ≤ 6) = true := by simp; omega
      simp only [d1, Bool.not_true, Bool.false_eq_true, if_false]
      by_cases a2 : (l.Runs.length : Int) = (l.Stops.length : Int) - 1
      · have d2 : ((l.Runs.length : Int) != (l.Stops.length : Int) - 1) = false := by simp [a2]
        simp only [d2, Option.bind_some, Bool.false_eq_true, if_false]
        rw [all_val (hd := Classical.propDecidable _) l.Stops (fun i e => (0 ≤ e ∧ e < (st : Int)) ∧ fixI (fun y => e == y) l.Stops = (i : Int)) (fun i x hx => ?_) (by unfold s_l2Line_L1; simp)]
        · rw [all_val (hd := Classical.propDecidable _) l.Runs (fun i r => 1 ≤ r ∧ r ≤ 60) (fun i x hx => ?_) (by unfold s_l2Line_L2; simp)]
          · by_cases b1 : ∀ (i : Nat) e, l.Stops[i]? = some e → (0 ≤ e ∧ e < (st : Int)) ∧ fixI (fun y => e == y) l.Stops = (i : Int)
            · rw [if_pos b1]
              by_cases b2 : ∀ (i : Nat) r, l.Runs[i]? = some r → 1 ≤ r ∧ r ≤ 60
              · rw [if_pos b2]
                have : LineP st l := ⟨a1, a2, b1, b2⟩
                simp [this]
              · rw [if_neg b2]
                have : ¬ LineP st l := fun h => b2 h.2.2.2
                simp [this]
            · rw [if_neg b1]
              have : ¬ LineP st l := fun h => b1 h.2.2.1
              simp [this]
          · have hi := (List.getElem?_eq_some_iff.1 hx).1
            unfold s_l2Line_L2
            have hlt : decide ((i : Int) < (l.Runs.length : Int)) = true := by simp; omega
            simp only [hlt, if_true, idx_nat, hx, Option.bind_some, l1In_eq, w64_succ (n := i) (by omega)]
            by_cases b : 1 ≤ x ∧ x ≤ 60
            · left; simp [b]
            · right; simp [b]
        · have hi := (List.getElem?_eq_some_iff.1 hx).1
          unfold s_l2Line_L1
          have hlt : decide ((i : Int) < (l.Stops.length : Int)) = true := by simp; omega
          simp only [hlt, if_true, idx_nat, hx, Option.bind_some, l1In_eq, e1, l2Place_eq l (by omega), w64_succ (n := i) (by omega)]
          by_cases b1 : 0 ≤ x ∧ x < (st : Int)
          · have d3 : decide (0 ≤ x ∧ x ≤ (st : Int) - 1) = true := by simp; omega
            by_cases b2 : fixI (fun y => x == y) l.Stops = (i : Int)
            · left; simp only [d3]; simp [b1, b2]
            · right; simp only [d3]; simp [b1, b2]
          · have d3 : decide (0 ≤ x ∧ x ≤ (st : Int) - 1) = false := by simp; omega
            right; simp only [d3]; simp [b1]
      · have d2 : ((l.Runs.length : Int) != (l.Stops.length : Int) - 1) = true := by simp [a2]
        have : ¬ LineP st l := fun h => a2 h.2.1
        simp [d2, this]
    · have d1 : decide ((2 : Int) ≤ (l.Stops.length : Int) ∧ (l.Stops.length : Int) ≤ 6) = false := by simp; omega
      have : ¬ LineP st l := fun h => a1 h.1
      simp [d1, this]
  · simp [a0]

theorem valid_eq (n : Network) (h : Bd n) : i_IsValidNetwork n = some (decide (Good n)) := by
  obtain ⟨h1, h2, h3⟩ := h
  unfold i_IsValidNetwork
  simp only [within_eq, Option.bind_some, areNames_eq n.Stops h1, lineNames_eq n h2, areNames_eq (n.Lines.map (·.Name)) (by simpa using h2)]
  by_cases a1 : 2 ≤ n.Stops.length ∧ n.Stops.length ≤ 8
  · have d1 : decide ((2 : Int) ≤ (n.Stops.length : Int) ∧ (n.Stops.length : Int) ≤ 8) = true := by simp; omega
    simp only [d1, Bool.not_true, Bool.false_eq_true, if_false]
    by_cases a2 : 1 ≤ n.Lines.length ∧ n.Lines.length ≤ 5
    · have d2 : decide ((1 : Int) ≤ (n.Lines.length : Int) ∧ (n.Lines.length : Int) ≤ 5) = true := by simp; omega
      simp only [d2, Bool.not_true, Bool.false_eq_true, if_false]
      by_cases a3 : NamesP n.Stops
      · simp only [a3, decide_true, Bool.not_true, Bool.false_eq_true, if_false]
        by_cases a4 : NamesP (n.Lines.map (·.Name))
        · simp only [a4, decide_true, Bool.not_true, Option.bind_some, Bool.false_eq_true, if_false]
          rw [all_val (hd := Classical.propDecidable _) n.Lines (fun i x => LineP n.Stops.length x) (fun i x hx => ?_) (by unfold i_IsValidNetwork_L1; simp)]
          · by_cases b1 : ∀ (i : Nat) x, n.Lines[i]? = some x → LineP n.Stops.length x
            · rw [if_pos b1]
              have : Good n := ⟨a1, a2, a3, a4, b1⟩
              simp [this]
            · rw [if_neg b1]
              have : ¬ Good n := fun h => b1 h.2.2.2.2
              simp [this]
          · have hi := (List.getElem?_eq_some_iff.1 hx).1
            obtain ⟨g1, g2⟩ := h3 x (List.mem_of_getElem? hx)
            unfold i_IsValidNetwork_L1
            have hlt : decide ((i : Int) < (n.Lines.length : Int)) = true := by simp; omega
            simp only [hlt, if_true, idx_nat, hx, Option.bind_some, isValidLine_eq n x g1 g2, w64_succ (n := i) (by omega)]
            by_cases b : LineP n.Stops.length x
            · left; simp [b]
            · right; simp [b]
        · have : ¬ Good n := fun h => a4 h.2.2.2.1
          simp [a4, this]
      · have : ¬ Good n := fun h => a3 h.2.2.1
        simp [a3, this]
    · have d2 : decide ((1 : Int) ≤ (n.Lines.length : Int) ∧ (n.Lines.length : Int) ≤ 5) = false := by simp; omega
      have : ¬ Good n := fun h => a2 h.2.1
      simp [d2, this]
  · have d1 : decide ((2 : Int) ≤ (n.Stops.length : Int) ∧ (n.Stops.length : Int) ≤ 8) = false := by simp; omega
    have : ¬ Good n := fun h => a1 h.1
    simp [d1, this]

theorem good_eq (n : Network) (h : Bd n) : s_l2Good n = some (decide (Good n)) := by
  obtain ⟨h1, h2, h3⟩ := h
  unfold s_l2Good
  simp only [l1In_eq, Option.bind_some]
  by_cases a1 : 2 ≤ n.Stops.length ∧ n.Stops.length ≤ 8
  · have d1 : decide ((2 : Int) ≤ (n.Stops.length : Int) ∧ (n.Stops.length : Int) ≤ 8) = true := by simp; omega
    simp only [d1, Bool.not_true, Bool.false_eq_true, if_false]
    by_cases a2 : 1 ≤ n.Lines.length ∧ n.Lines.length ≤ 5
    · have d2 : decide ((1 : Int) ≤ (n.Lines.length : Int) ∧ (n.Lines.length : Int) ≤ 5) = true := by simp; omega
      simp only [d2, Bool.not_true, Option.bind_some, Bool.false_eq_true, if_false]
      rw [all_val (hd := Classical.propDecidable _) n.Stops (fun i x => NameOK x ∧ fixI (fun e => x.toList == e.toList) n.Stops = (i : Int)) (fun i x hx => ?_) (by unfold s_l2Good_L1; simp)]
      · rw [all_val (hd := Classical.propDecidable _) n.Lines (fun i x => (NameOK x.Name ∧ LineP n.Stops.length x) ∧ fixI (fun e => x.Name.toList == e.toList) (n.Lines.map (·.Name)) = (i : Int)) (fun i x hx => ?_) (by unfold s_l2Good_L2; simp)]
        · by_cases b1 : NamesP n.Stops
          · rw [if_pos (show ∀ (i : Nat) x, n.Stops[i]? = some x → NameOK x ∧ fixI (fun e => x.toList == e.toList) n.Stops = (i : Int) from b1)]
            by_cases b2 : ∀ (i : Nat) x, n.Lines[i]? = some x → (NameOK x.Name ∧ LineP n.Stops.length x) ∧ fixI (fun e => x.Name.toList == e.toList) (n.Lines.map (·.Name)) = (i : Int)
            · rw [if_pos b2]
              have : Good n := ⟨a1, a2, b1, fun i y hy => by
                rw [List.getElem?_map] at hy
                obtain ⟨x, hx, rfl⟩ := Option.map_eq_some_iff.1 hy
                exact ⟨(b2 i x hx).1.1, (b2 i x hx).2⟩, fun i x hx => (b2 i x hx).1.2⟩
              simp [this]
            · rw [if_neg b2]
              have : ¬ Good n := fun h => b2 fun i x hx => by
                have h4 := h.2.2.2.1 i x.Name (by rw [List.getElem?_map, hx]; rfl)
                exact ⟨⟨h4.1, h.2.2.2.2 i x hx⟩, h4.2⟩
              simp [this]
          · rw [if_neg (show ¬ ∀ (i : Nat) x, n.Stops[i]? = some x → NameOK x ∧ fixI (fun e => x.toList == e.toList) n.Stops = (i : Int) from b1)]
            have : ¬ Good n := fun h => b1 h.2.2.1
            simp [this]
        · have hi := (List.getElem?_eq_some_iff.1 hx).1
          obtain ⟨g1, g2⟩ := h3 x (List.mem_of_getElem? hx)
          unfold s_l2Good_L2
          have hlt : decide ((i : Int) < (n.Lines.length : Int)) = true := by simp; omega
          simp only [hlt, if_true, idx_nat, hx, Option.bind_some, l2Line_eq x n.Stops.length h1 g1 g2, l2LineNamed_eq n (by omega), w64_succ (n := i) (by omega)]
          by_cases b1 : NameOK x.Name ∧ LineP n.Stops.length x
          · by_cases b2 : fixI (fun e => x.Name.toList == e.toList) (n.Lines.map (·.Name)) = (i : Int)
            · left; simp [b1, b2]
            · right; simp [b1, b2]
          · right; simp [b1]
      · have hi := (List.getElem?_eq_some_iff.1 hx).1
        unfold s_l2Good_L1
        have hlt : decide ((i : Int) < (n.Stops.length : Int)) = true := by simp; omega
        simp only [hlt, if_true, idx_nat, hx, Option.bind_some, l2Name_eq, l2Find_eq n.Stops (by omega), w64_succ (n := i) (by omega)]
        by_cases b1 : NameOK x
        · by_cases b2 : fixI (fun e => x.toList == e.toList) n.Stops = (i : Int)
          · left; simp [b1, b2]
          · right; simp [b1, b2]
        · right; simp [b1]
    · have d2 : decide ((1 : Int) ≤ (n.Lines.length : Int) ∧ (n.Lines.length : Int) ≤ 5) = false := by simp; omega
      have : ¬ Good n := fun h => a2 h.2.1
      simp [d2, this]
  · have d1 : decide ((2 : Int) ≤ (n.Stops.length : Int) ∧ (n.Stops.length : Int) ≤ 8) = false := by simp; omega
    have : ¬ Good n := fun h => a1 h.1
    simp [d1, this]
/-! Copies, reversed lists, the reversed line. -/
theorem l1Own_eq (l : List Int) (h : l.length ≤ 1000) : s_l1Own_f l = some l := by
  unfold s_l1Own_f
  rw [chk_of (by simp; omega)]; rfl
theorem l2Own_eq (n : Network) (h : Bd n) : s_l2Own n = some n := by
  obtain ⟨h1, h2, h3⟩ := h
  unfold s_l2Own
  rw [chk_of (by simp; omega)]
  simp only [Option.bind_some]
  rw [app_loop (fun x : Line => x) n.Lines (fun i a x ha hx => ?_) (fun a ha => ?_)]
  · simp only [Option.bind_some, List.map_id', List.nil_append]
  · have hi := (List.getElem?_eq_some_iff.1 hx).1
    obtain ⟨g1, g2⟩ := h3 x (List.mem_of_getElem? hx)
    unfold s_l2Own_L1
    have hlt : decide ((i : Int) < (n.Lines.length : Int)) = true := by simp; omega
    have hch : ∀ y : Line, chk (a.length + ([y] : List Line).length ≤ 4294967296) = some () := fun y => chk_of (by simp; omega)
    simp only [hlt, if_true, idx_nat, hx, Option.bind_some, l1Own_eq _ g1, l1Own_eq _ g2, hch, w64_succ (n := i) (by omega)]
  · unfold s_l2Own_L1; simp
theorem l2Own_t_eq (n : Network) (h : Bd n) : s_l2Own_t n = some n := by
  have : s_l2Own_t n = s_l2Own n := rfl
  rw [this]; exact l2Own_eq n h

theorem l2Back_eq (s : List Int) (hs : s.length ≤ 1000) : s_l2Back s = some s.reverse := by
  unfold s_l2Back
  have e0 : w64 ((s.length : Int) - 1) = (s.length : Int) - 1 := w64_id (by omega)
  rw [e0]
  have h := iter_rule (step := s_l2Back_L1 s) (fun m a => ∃ j : Nat, a.1 = (s.length : Int) - 1 - j ∧ m + j = s.length ∧ a.2 = s.reverse.take j) (fun b => b = s.reverse) ?_ (k := s.length) (a := ((s.length : Int) - 1, [])) ⟨0, by simp, by omega, by simp⟩
  · obtain ⟨b, hb, rfl⟩ := h
    rw [hb]; rfl
  rintro m ⟨v, i⟩ ⟨j, hv, hm, hi⟩
  simp only at hv hi
  subst hv
  by_cases hlt : j < s.length
  · left
    have ev : (s.length : Int) - 1 - j = ((s.length - 1 - j : Nat) : Int) := by omega
    rw [ev]
    obtain ⟨e, he⟩ := get_ex (l := s) (i := s.length - 1 - j) (by omega)
    have hd : decide ((0 : Int) ≤ ((s.length - 1 - j : Nat) : Int)) = true := by simp
    have hlen : i.length = j := by rw [hi]; simp; omega
    have hch : chk (i.length + ([e] : List Int).length ≤ 4294967296) = some () := chk_of (by simp; omega)
    have ev2 : w64 (((s.length - 1 - j : Nat) : Int) - 1) = (s.length : Int) - 1 - ((j + 1 : Nat) : Int) := by rw [w64_id (by omega)]; omega
    refine ⟨((s.length : Int) - 1 - ((j + 1 : Nat) : Int), i ++ [e]), m - 1, ?_, by omega, j + 1, rfl, by omega, ?_⟩
    · unfold s_l2Back_L1
      simp only [hd, if_true, idx_nat, he, hch, Option.bind_some, ev2]
    · show i ++ [e] = _
      rw [take_succ (x := e) (by rw [List.getElem?_reverse hlt]; exact he), hi]
  · right
    have ej : j = s.length := by omega
    subst ej
    have hd : decide ((0 : Int) ≤ (s.length : Int) - 1 - (s.length : Int)) = false := by simp; omega
    refine ⟨i, by unfold s_l2Back_L1; simp only [hd, Bool.false_eq_true, if_false], ?_⟩
    rw [hi, List.take_of_length_le (by simp)]
theorem l2BackF_eq (s : List Int) (hs : s.length ≤ 1000) : s_l2Back_f s = some s.reverse := l2Back_eq s hs

/-- The network with the reversed line. -/
def Rev (n : Network) (e : Line) (name : ByteArray) : Network := ⟨n.Stops, n.Lines ++ [⟨name, e.Stops.reverse, e.Runs.reverse⟩]⟩
def Asked (n : Network) (line : Int) (name : ByteArray) : Prop := Good n ∧ 0 ≤ line ∧ ∃ e, n.Lines[line.toNat]? = some e ∧ Good (Rev n e name)
theorem good_lines {n : Network} (h : Good n) : n.Lines.length ≤ 5 := h.2.1.2
theorem rev_bd {n : Network} {e : Line} {name : ByteArray} (h : Bd n) (hg : Good n) (he : e ∈ n.Lines) : Bd (Rev n e name) := by
  obtain ⟨h1, h2, h3⟩ := h
  have := good_lines hg
  refine ⟨h1, by simp [Rev]; omega, fun x hx => ?_⟩
  rcases List.mem_append.1 hx with hx | hx
  · exact h3 x hx
  · simp at hx
    subst hx
    obtain ⟨g1, g2⟩ := h3 e he
    exact ⟨by simpa using g1, by simpa using g2⟩

/-! The draws: they answer, with bounds. -/
/-- A drawn line. -/
def LB (x : Line) : Prop := (2 ≤ x.Stops.length ∧ x.Stops.length ≤ 10) ∧ 1 ≤ x.Runs.length ∧ x.Runs.length ≤ 10
def NB (n : Network) : Prop := (2 ≤ n.Stops.length ∧ n.Stops.length ≤ 6) ∧ (1 ≤ n.Lines.length ∧ n.Lines.length ≤ 8) ∧ ∀ x ∈ n.Lines, LB x
theorem NB.bd {n : Network} (h : NB n) : Bd n := ⟨by have := h.1; omega, by have := h.2.1; omega, fun x hx => by have := h.2.2 x hx; unfold LB at this; omega⟩
theorem l1Num_ok (n : Int) (h0 : 0 ≤ n) (h1 : n < 10) : ∃ r, s_l1Num n = some r ∧ r.size ≤ 10 := by
  have e : s_l1Num n = s_l1Num_F (s_l1Num_k 4294967295) n := rfl
  rw [e]
  unfold s_l1Num_F
  have d1 : decide (n < 0) = false := by simp; omega
  have d2 : decide (n < 10) = true := by simp; omega
  have e1 : w64 (n + 1) = n + 1 := w64_id (by omega)
  have hs : (str [48, 49, 50, 51, 52, 53, 54, 55, 56, 57]).size = 10 := rfl
  simp only [d1, d2, Bool.false_eq_true, if_false, if_true, e1, hs]
  rw [chk_of (by omega)]
  refine ⟨_, rfl, ?_⟩
  rw [ByteArray.size_extract, hs]
  omega

theorem line_ok {k : Nat} {c : l1Cur} (name : ByteArray) (stops : Int) (hs : 2 ≤ stops ∧ stops ≤ 1000) (h : Cur k c) (hk : k ≤ 1000000000) : ∃ r, s_l1Cur_line c name stops = some r ∧ Cur (k + 40) r.2 ∧ LB r.1 := by
  unfold s_l1Cur_line
  obtain ⟨r, hr, hc, h0, h1⟩ := pick_ok stops h (by omega)
  obtain ⟨r1, hr1, hc1, h10, h11⟩ := pick_ok 3 hc (by omega)
  simp only [hr, hr1, Option.bind_some]
  have e1 : w64 (2 + r1.1) = ((2 + r1.1.toNat : Nat) : Int) := by rw [w64_id (by omega)]; omega
  rw [e1]
  have loop : ∃ b, iter (s_l1Cur_line_L1 name stops) (r.1, ((2 + r1.1.toNat : Nat) : Int), r1.2.code_, r1.2.at_, r1.2.seed_.v, []) = some b ∧ (Cur (k + 4 + 2 * 4) ⟨b.1, b.2.1, ⟨b.2.2.1⟩⟩ ∧ 1 ≤ b.2.2.2.length ∧ b.2.2.2.length ≤ 4) := by
    refine iter_rule (fun m a => (0 ≤ a.1 ∧ a.1 < stops) ∧ a.2.1 = (m : Int) ∧ m + a.2.2.2.2.2.length ≤ 4 ∧ (1 ≤ m ∨ 1 ≤ a.2.2.2.2.2.length) ∧ Cur (k + 4 + 2 * (4 - m)) ⟨a.2.2.1, a.2.2.2.1, ⟨a.2.2.2.2.1⟩⟩) _ ?_ (k := 2 + r1.1.toNat) ⟨⟨h0, by show r.1 < stops; omega⟩, rfl, by simp; omega, .inl (by omega), hc1.mono (by omega)⟩
    rintro m ⟨v, v1, v2, v3, v4, v5⟩ ⟨hv, hv1, hl, hne, hcur⟩
    simp only at hv hv1 hl hne hcur
    subst hv1
    unfold s_l1Cur_line_L1
    cases m with
    | zero => right; exact ⟨_, by simp; rfl, hcur, by show 1 ≤ v5.length; omega, by show v5.length ≤ 4; omega⟩
    | succ m =>
      left
      have hpos : decide ((0 : Int) < ((m + 1 : Nat) : Int)) = true := by simp
      obtain ⟨r3, hr3, hc3, h30, h31⟩ := pick_ok 2 hcur (by omega)
      have hpl := l2Place_eq (⟨name, v5, []⟩ : Line) (by show v5.length ≤ _; omega) v
      have hch : chk (v5.length + ([v] : List Int).length ≤ 4294967296) = some () := chk_of (by simp; omega)
      have hne0 : chk (stops ≠ 0) = some () := chk_of (by omega)
      have w1 : w64 (v + 1) = v + 1 := w64_id (by omega)
      have w2 : w64 (v + 1 + r3.1) = v + 1 + r3.1 := w64_id (by omega)
      have ht := tmod_rng (a := v + 1 + r3.1) (b := stops) (by omega) (by omega)
      simp only [hpos, if_true, hpl, hch, hr3, hne0, w1, w2, Option.bind_some]
      have w3 : w64 (((m + 1 : Nat) : Int) - 1) = (m : Int) := w64_pred (by omega)
      split
      · refine ⟨_, m, by simp only [Option.bind_some]; rfl, by omega, ht, w3, ?_, .inr ?_, ?_⟩
        · simp; omega
        · simp
        · exact hc3.mono (by omega)
      · rename_i hn
        refine ⟨_, m, by simp only [Option.bind_some]; rfl, by omega, ht, w3, ?_, .inr ?_, ?_⟩
        · show m + v5.length ≤ 4; omega
        · show 1 ≤ v5.length
          cases v5 with
          | nil => simp [fixI] at hn
          | cons a l => simp
        · exact hc3.mono (by omega)
  obtain ⟨⟨v7, v8, v9, v10⟩, hb, hcb, hlb⟩ := loop
  simp only at hcb hlb
  rw [hb]
  simp only [Option.bind_some]
  -- at least two stops
  have two : ∃ v11 : List Int, (if decide ((v10.length : Int) < 2) = true then (idx v10 0).bind fun e1 => (chk ((stops : Int) ≠ 0)).bind fun u4 => (chk (v10.length + ([((w64 (e1 + 1)).tmod stops)] : List Int).length ≤ 4294967296)).bind fun u5 => some (v10 ++ ([((w64 (e1 + 1)).tmod stops)] : List Int)) else some v10) = some v11 ∧ 2 ≤ v11.length ∧ v11.length ≤ 5 := by
    by_cases h2 : (v10.length : Int) < 2
    · obtain ⟨e, he, _⟩ := idx_lt (l := v10) (i := 0) (by omega) (by omega)
      have hch : ∀ y : Int, chk (v10.length + ([y] : List Int).length ≤ 4294967296) = some () := fun y => chk_of (by simp; omega)
      have hne0 : chk (stops ≠ 0) = some () := chk_of (by omega)
      refine ⟨v10 ++ [(w64 (e + 1)).tmod stops], by simp only [h2, decide_true, if_true, he, hne0, hch, Option.bind_some], ?_, ?_⟩
      · simp; omega
      · simp; omega
    · exact ⟨v10, by simp [h2], by omega, by omega⟩
  obtain ⟨v11, hv11, l1, l2⟩ := two
  rw [hv11]
  simp only [Option.bind_some]
  have loop2 : ∃ b, iter (s_l1Cur_line_L2 v11) (1, v7, v8, v9, []) = some b ∧ (Cur (k + 40) ⟨b.1, b.2.1, ⟨b.2.2.1⟩⟩ ∧ b.2.2.2.length + 1 = v11.length) := by
    refine iter_rule (fun m a => ∃ i : Nat, a.1 = (i : Int) ∧ m + i = v11.length ∧ a.2.2.2.2.length + 1 = i ∧ Cur (k + 12 + 2 * i) ⟨a.2.1, a.2.2.1, ⟨a.2.2.2.1⟩⟩) _ ?_ (k := v11.length - 1) ⟨1, rfl, by omega, rfl, hcb.mono (by omega)⟩
    rintro m ⟨v12, v13, v14, v15, v16⟩ ⟨i, hi, hm, hl, hcur⟩
    simp only at hi hl hcur
    subst hi
    unfold s_l1Cur_line_L2
    by_cases hlt : i < v11.length
    · left
      have hd : decide ((i : Int) < (v11.length : Int)) = true := by simp; omega
      obtain ⟨r5, hr5, hc5, _⟩ := pick_ok 12 hcur (by omega)
      have hch : ∀ y : Int, chk (v16.length + ([y] : List Int).length ≤ 4294967296) = some () := fun y => chk_of (by simp; omega)
      refine ⟨_, m - 1, by simp only [hd, if_true, hr5, hch, Option.bind_some, w64_succ (n := i) (by omega)]; rfl, by omega, i + 1, rfl, by omega, ?_, ?_⟩
      · simp; omega
      · exact hc5.mono (by omega)
    · right
      have hd : decide ((i : Int) < (v11.length : Int)) = false := by simp; omega
      refine ⟨_, by simp only [hd, Bool.false_eq_true, if_false]; rfl, ?_, ?_⟩
      · exact hcur.mono (by omega)
      · show v16.length + 1 = _; omega
  obtain ⟨⟨v17, v18, v19, v20⟩, hb2, hcb2, hl2⟩ := loop2
  simp only at hcb2 hl2
  rw [hb2]
  simp only [Option.bind_some]
  exact ⟨_, rfl, hcb2, ⟨l1, by show v11.length ≤ 10; omega⟩, by show 1 ≤ v20.length; omega, by show v20.length ≤ 10; omega⟩
theorem lineF_ok {k : Nat} {c : l1Cur} (name : ByteArray) (stops : Int) (hs : 2 ≤ stops ∧ stops ≤ 1000) (h : Cur k c) (hk : k ≤ 1000000000) : ∃ r, s_l1Cur_line_f c name stops = some r ∧ Cur (k + 40) r.2 ∧ LB r.1 := line_ok name stops hs h hk

theorem six_len (i : Nat) (h2 : 2 ≤ i) (h6 : i ≤ 6) (l : List ByteArray) (hl : l.length = 6) : 2 ≤ ((l.take i).drop (0 : Int).toNat).length ∧ ((l.take i).drop (0 : Int).toNat).length ≤ 6 := by
  simp; omega

theorem networkT_ok {k : Nat} {c : l1Cur} (h : Cur k c) (hk : k ≤ 500000000) : ∃ r, s_l1Cur_network_t c = some r ∧ Cur (k + 300) r.2 ∧ NB r.1 := by
  unfold s_l1Cur_network_t
  obtain ⟨r, hr, hc, h0, h1⟩ := pick_ok 5 h (by omega)
  have e1 : w64 (2 + r.1) = 2 + r.1 := w64_id (by omega)
  have hsix : ([(str [112, 111, 114, 116]), (str [109, 105, 108, 108]), (str [112, 97, 114, 107]), (str [104, 97, 108, 108]), (str [100, 111, 99, 107]), (str [102, 97, 105, 114])] : List ByteArray).length = 6 := rfl
  simp only [hr, Option.bind_some, e1, hsix]
  rw [chk_of (by omega)]
  obtain ⟨r1, hr1, hc1, h10, h11⟩ := pick_ok 3 hc (by omega)
  have e2 : w64 (1 + r1.1) = ((1 + r1.1.toNat : Nat) : Int) := by rw [w64_id (by omega)]; omega
  simp only [hr1, Option.bind_some, e2]
  have loop : ∃ b, iter (s_l1Cur_network_t_L1 r) (((1 + r1.1.toNat : Nat) : Int), r1.2.code_, r1.2.at_, r1.2.seed_.v, []) = some b ∧ (Cur (k + 4 + 40 * 3) ⟨b.1, b.2.1, ⟨b.2.2.1⟩⟩ ∧ (1 ≤ b.2.2.2.length ∧ b.2.2.2.length ≤ 3) ∧ ∀ x ∈ b.2.2.2, LB x) := by
    refine iter_rule (fun m a => a.1 = (m : Int) ∧ m + a.2.2.2.2.length ≤ 3 ∧ 1 ≤ m + a.2.2.2.2.length ∧ (∀ x ∈ a.2.2.2.2, LB x) ∧ Cur (k + 4 + 40 * (3 - m)) ⟨a.2.1, a.2.2.1, ⟨a.2.2.2.1⟩⟩) _ ?_ (k := 1 + r1.1.toNat) ⟨rfl, by simp; omega, by simp, by simp, hc1.mono (by omega)⟩
    rintro m ⟨x, v, v1, v2, v3⟩ ⟨hx, hl, hl1, hlb, hcur⟩
    simp only at hx hl hl1 hlb hcur
    subst hx
    unfold s_l1Cur_network_t_L1
    cases m with
    | zero => right; exact ⟨_, by simp; rfl, hcur, ⟨by show 1 ≤ v3.length; omega, by show v3.length ≤ 3; omega⟩, hlb⟩
    | succ m =>
      left
      have hpos : decide ((0 : Int) < ((m + 1 : Nat) : Int)) = true := by simp
      obtain ⟨r4, hr4, hs4⟩ := l1Num_ok ((m + 1 : Nat) : Int) (by omega) (by omega)
      have hs : (str [108]).size = 1 := rfl
      have hch : chk ((str [108]).size + r4.size ≤ 4294967296) = some () := chk_of (by omega)
      obtain ⟨r5, hr5, hc5, hb5⟩ := lineF_ok (str [108] ++ r4) (2 + r.1) (by omega) hcur (by omega)
      have hch2 : ∀ y : Line, chk (v3.length + ([y] : List Line).length ≤ 4294967296) = some () := fun y => chk_of (by simp; omega)
      refine ⟨_, m, by simp only [hpos, if_true, hr4, hch, e1, hr5, hch2, Option.bind_some]; rfl, by omega, ?_, ?_, ?_, ?_, ?_⟩
      · exact w64_pred (by omega)
      · simp; omega
      · simp; omega
      · intro y hy
        rcases List.mem_append.1 hy with hy | hy
        · exact hlb y hy
        · simp at hy; subst hy; exact hb5
      · exact hc5.mono (by omega)
  obtain ⟨⟨v4, v5, v6, v7⟩, hb, hcb, hlb, hall⟩ := loop
  simp only at hcb hlb hall
  rw [hb]
  simp only [Option.bind_some]
  obtain ⟨r6, hr6, hc6⟩ := one_ok 2 hcb (by omega)
  simp only [hr6, Option.bind_some]
  have fin : ∀ (v8 : List UInt8) (v9 v10 : Int) (v11 : List Line), Cur (k + 200) ⟨v8, v9, ⟨v10⟩⟩ → (1 ≤ v11.length ∧ v11.length ≤ 8) → (∀ x ∈ v11, LB x) →
      ∃ r', ((s_l2Own_t (⟨((([(str [112, 111, 114, 116]), (str [109, 105, 108, 108]), (str [112, 97, 114, 107]), (str [104, 97, 108, 108]), (str [100, 111, 99, 107]), (str [102, 97, 105, 114])] : List ByteArray).take (2 + r.1).toNat).drop (0 : Int).toNat), v11⟩ : Network)).bind fun r11 => some ((⟨r11.Stops, r11.Lines⟩ : Network), (⟨v8, v9, (⟨v10⟩ : IK .u64)⟩ : l1Cur))) = some r' ∧ Cur (k + 300) r'.2 ∧ NB r'.1 := by
    intro v8 v9 v10 v11 g1 g2 g3
    have hst := six_len (2 + r.1).toNat (by omega) (by omega) _ hsix
    have hnb : NB (⟨((([(str [112, 111, 114, 116]), (str [109, 105, 108, 108]), (str [112, 97, 114, 107]), (str [104, 97, 108, 108]), (str [100, 111, 99, 107]), (str [102, 97, 105, 114])] : List ByteArray).take (2 + r.1).toNat).drop (0 : Int).toNat), v11⟩ : Network) := ⟨hst, g2, g3⟩
    rw [l2Own_t_eq _ hnb.bd]
    exact ⟨_, rfl, g1.mono (by omega), hnb⟩
  split
  · obtain ⟨e, he, _, hem⟩ := idx_lt (l := v7) (i := 0) (by omega) (by omega)
    obtain ⟨g1, g2⟩ := hall e hem
    have hch2 : ∀ y : Line, chk (v7.length + ([y] : List Line).length ≤ 4294967296) = some () := fun y => chk_of (by simp; omega)
    simp only [he, l2BackF_eq e.Stops (by omega), l2BackF_eq e.Runs (by omega), hch2, Option.bind_some]
    refine fin _ _ _ _ (hc6.mono (by omega)) (by simp; omega) fun y hy => ?_
    rcases List.mem_append.1 hy with hy | hy
    · exact hall y hy
    · simp at hy; subst hy
      exact ⟨by simpa using g1, by simpa using g2⟩
  · simp only [Option.bind_some]
    exact fin _ _ _ _ (hc6.mono (by omega)) (by omega) hall

theorem anyNetwork_ok {k : Nat} {c : l1Cur} (h : Cur k c) (hk : k ≤ 200000000) : ∃ r, s_l1Cur_anyNetwork c = some r ∧ Cur (k + 1000) r.2 ∧ Bd r.1 := by
  unfold s_l1Cur_anyNetwork
  obtain ⟨r, hr, hc, hnb⟩ := networkT_ok h (by omega)
  obtain ⟨n1, n2, n3⟩ := hnb
  obtain ⟨r1, hr1, hc1, h10, h11⟩ := pick_ok (r.1.Lines.length : Int) hc (by omega)
  obtain ⟨e, he, he2, hem⟩ := idx_lt (l := r.1.Lines) (i := r1.1) h10 (by omega)
  obtain ⟨g1, g2⟩ := n3 e hem
  obtain ⟨r2, hr2, hc2, _⟩ := pick_ok 24 hc1 (by omega)
  simp only [hr, hr1, he, hr2, Option.bind_some]
  have fin : ∀ (v : List UInt8) (v1 v2 : Int) (v3 : ByteArray) (v4 : List ByteArray) (v5 : List Line) (v6 : List Int), Cur (k + 900) ⟨v, v1, ⟨v2⟩⟩ → v4.length ≤ 6 → v5.length = r.1.Lines.length → (∀ x ∈ v5, LB x) → v6.length ≤ 11 →
      ∃ r', ((idx v5 r1.1).bind fun e9 => some ((⟨v4, (v5.set r1.1.toNat (⟨v3, e9.Stops, v6⟩ : Line))⟩ : Network), (⟨v, v1, (⟨v2⟩ : IK .u64)⟩ : l1Cur))) = some r' ∧ Cur (k + 1000) r'.2 ∧ Bd r'.1 := by
    intro v v1 v2 v3 v4 v5 v6 q1 q2 q3 q4 q5
    obtain ⟨e9, he9, _, hm9⟩ := idx_lt (l := v5) (i := r1.1) h10 (by omega)
    rw [he9]
    refine ⟨_, rfl, q1.mono (by omega), by show v4.length ≤ _; omega, by simp; omega, fun x hx => ?_⟩
    rcases List.mem_or_eq_of_mem_set hx with hx | hx
    · have := q4 x hx
      unfold LB at this; omega
    · subst hx
      have := q4 e9 hm9
      unfold LB at this
      exact ⟨by show e9.Stops.length ≤ _; omega, by show v6.length ≤ _; omega⟩
  split
  · obtain ⟨r4, hr4, hc4, _⟩ := ofw_ok ([(str [109, 105, 108, 108]), (str []), (str [65]), (str [97, 98, 99, 100, 101, 102, 103, 104]), (str [97, 98, 99, 100, 101, 102, 103, 104, 105])] : List ByteArray) (by simp) hc2 (by omega)
    obtain ⟨e2, he2', _⟩ := idx_lt (l := r.1.Stops) (i := 0) (by omega) (by omega)
    simp only [hr4, he2', Option.bind_some, flb_go]
    exact fin _ _ _ _ _ _ _ (hc4.mono (by omega)) (by simp; omega) rfl n3 (by omega)
  split
  · obtain ⟨r5, hr5, hc5, _⟩ := ofw_ok ([(str [114, 49]), (str [108, 49]), (str []), (str [88])] : List ByteArray) (by simp) hc2 (by omega)
    simp only [hr5, Option.bind_some, flb_go]
    exact fin _ _ _ _ _ _ _ (hc5.mono (by omega)) (by omega) rfl n3 (by omega)
  split
  · obtain ⟨r8, hr8, hc8, h80, h81⟩ := pick_ok (e.Stops.length : Int) hc2 (by omega)
    obtain ⟨r9, hr9, hc9, _⟩ := pick_ok 10 hc8 (by omega)
    obtain ⟨e4, he4, _⟩ := idx_lt (l := e.Stops) (i := r8.1) h80 (by omega)
    simp only [hr8, hr9, he4, Option.bind_some, flb_go]
    refine fin _ _ _ _ _ _ _ (hc9.mono (by omega)) (by omega) (by simp) (fun x hx => ?_) (by show e.Runs.length ≤ 11; omega)
    rcases List.mem_or_eq_of_mem_set hx with hx | hx
    · exact n3 x hx
    · subst hx; exact ⟨by simpa using g1, g2⟩
  split
  · obtain ⟨r12, hr12, hc12, h120, h121⟩ := pick_ok (e.Runs.length : Int) hc2 (by omega)
    obtain ⟨r13, hr13, hc13, _⟩ := amongw_ok ([0, 60, 61, (-1)] : List Int) (by simp) hc12 (by omega)
    obtain ⟨e6, he6, _⟩ := idx_lt (l := e.Runs) (i := r12.1) h120 (by omega)
    simp only [hr12, hr13, he6, Option.bind_some, flb_go]
    refine fin _ _ _ _ _ _ _ (hc13.mono (by omega)) (by omega) (by simp) (fun x hx => ?_) (by simp; omega)
    rcases List.mem_or_eq_of_mem_set hx with hx | hx
    · exact n3 x hx
    · subst hx; exact ⟨g1, by simpa using g2⟩
  split
  · have hch : chk (e.Runs.length + ([3] : List Int).length ≤ 4294967296) = some () := chk_of (by simp; omega)
    simp only [hch, Option.bind_some, flb_go]
    exact fin _ _ _ _ _ _ _ (hc2.mono (by omega)) (by omega) rfl n3 (by simp; omega)
  split
  · simp only [flb_ret]
    exact ⟨_, rfl, hc2.mono (by omega), by show r.1.Stops.length ≤ _; omega, by simp, by simp⟩
  split
  · have loop : ∃ b, iter (s_l1Cur_anyNetwork_L1 r) (0, r2.2.code_, r2.2.at_, r2.2.seed_.v, r.1.Lines) = some b ∧ (Cur (k + 900) ⟨b.1, b.2.1, ⟨b.2.2.1⟩⟩ ∧ b.2.2.2.length ≤ 20 ∧ ∀ x ∈ b.2.2.2, LB x) := by
      refine iter_rule (fun m a => ∃ i : Nat, a.1 = (i : Int) ∧ m + i = 8 ∧ i ≤ 7 ∧ a.2.2.2.2.length ≤ 8 + i ∧ (∀ x ∈ a.2.2.2.2, LB x) ∧ Cur (k + 310 + 50 * i) ⟨a.2.1, a.2.2.1, ⟨a.2.2.2.1⟩⟩) _ ?_ (k := 8) ⟨0, rfl, rfl, by omega, by simpa using n2.2, n3, hc2.mono (by omega)⟩
      rintro m ⟨v7, v8, v9, v10, v11⟩ ⟨i, hi, hm, hi7, hl, hlb, hcur⟩
      simp only at hi hl hlb hcur
      subst hi
      unfold s_l1Cur_anyNetwork_L1
      obtain ⟨r16, hr16, hc16, h160, h161⟩ := pick_ok 2 hcur (by omega)
      have w1 : w64 (5 + r16.1) = 5 + r16.1 := w64_id (by omega)
      simp only [hr16, w1, Option.bind_some]
      by_cases a1 : (v11.length : Int) < 5 + r16.1 ∧ (i : Int) < 7
      · left
        have d1 : decide ((v11.length : Int) < 5 + r16.1) = true := by simp; omega
        have d2 : decide ((i : Int) < 7) = true := by simp; omega
        obtain ⟨r19, hr19, hs19⟩ := l1Num_ok (i : Int) (by omega) (by omega)
        have hs : (str [120]).size = 1 := rfl
        have hch : chk ((str [120]).size + r19.size ≤ 4294967296) = some () := chk_of (by omega)
        obtain ⟨r20, hr20, hc20, hb20⟩ := line_ok (str [120] ++ r19) (r.1.Stops.length : Int) (by omega) hc16 (by omega)
        have hch2 : ∀ y : Line, chk (v11.length + ([y] : List Line).length ≤ 4294967296) = some () := fun y => chk_of (by simp; omega)
        refine ⟨_, m - 1, by simp only [d1, d2, if_true, hr19, hch, hr20, hch2, Option.bind_some, w64_succ (n := i) (by omega)]; rfl, by omega, i + 1, rfl, by omega, by omega, ?_, fun x hx => ?_, ?_⟩
        · simp; omega
        · rcases List.mem_append.1 hx with hx | hx
          · exact hlb x hx
          · simp at hx; subst hx; exact hb20
        · exact hc20.mono (by omega)
      · right
        have hcond : (if decide ((v11.length : Int) < 5 + r16.1) = true then some (decide ((i : Int) < 7)) else some false) = some false := by
          by_cases b1 : (v11.length : Int) < 5 + r16.1
          · have : decide ((i : Int) < 7) = false := by simp; omega
            simp [b1, this]
          · simp [b1]
        refine ⟨_, by simp only [hcond, Option.bind_some, Bool.false_eq_true, if_false]; rfl, ?_, ?_, hlb⟩
        · exact hc16.mono (by omega)
        · show v11.length ≤ 20; omega
    obtain ⟨⟨v13, v14, v15, v16⟩, hb, hcb, hlb, hall⟩ := loop
    simp only at hcb hlb hall
    rw [hb]
    simp only [Option.bind_some, flb_ret]
    refine ⟨_, rfl, hcb.mono (by omega), by show r.1.Stops.length ≤ _; omega, by show v16.length ≤ _; omega, fun x hx => ?_⟩
    have := hall x hx
    unfold LB at this; omega
  · simp only [flb_go]
    exact fin _ _ _ _ _ _ _ (hc2.mono (by omega)) (by omega) rfl n3 (by omega)

/-! What many laws lean on: draws in the style of Tot, lists held against themselves, comparisons. -/
theorem t_pick {k : Nat} {c : l1Cur} (n : Int) (h : Cur k c) (hk : k ≤ 3000000000) : Tot (s_l1Cur_pick c n) fun r => Cur (k + 2) r.2 ∧ 0 ≤ r.1 ∧ (r.1 < n ∨ r.1 = 0) := pick_ok n h hk
theorem t_one {k : Nat} {c : l1Cur} (n : Int) (h : Cur k c) (hk : k ≤ 3000000000) : Tot (s_l1Cur_one c n) fun r => Cur (k + 2) r.2 := one_ok n h hk
theorem t_among {k : Nat} {c : l1Cur} (l : List Int) (hl : l ≠ []) (h : Cur k c) (hk : k ≤ 3000000000) : Tot (s_l1Cur_among c l) fun r => Cur (k + 2) r.2 ∧ r.1 ∈ l := among_ok l hl h hk
theorem t_amongw {k : Nat} {c : l1Cur} (l : List Int) (hl : l ≠ []) (h : Cur k c) (hk : k ≤ 3000000000) : Tot (s_l1Cur_among_w c l) fun r => Cur (k + 2) r.2 ∧ r.1 ∈ l := amongw_ok l hl h hk
theorem rBig_eq (code : List UInt8) : v_rBig code = some (decide (65536 < (code.length : Int))) := rfl
theorem compare_int (x y : Int) : cmp_Compare_int x y = some (if x < y then -1 else if y < x then 1 else 0) := by
  unfold cmp_Compare_int cmp_isNaN_int
  by_cases h : x < y
  · simp [h]
  · by_cases h2 : y < x <;> simp [h, h2]
theorem idx0 {α : Type} (l : List α) : idx l 0 = l[0]? := idx_nat l 0
/-! Timetables: when they are valid. -/
theorem total_eq (l : List Int) (h1 : l.length ≤ 1000000) (h2 : ∀ x ∈ l, 0 ≤ x ∧ x ≤ 1000000) : i_total l = some l.sum := by
  unfold i_total
  rw [sum_loop (fun x : Int => x) l h1 h2 (fun i s x hx => ?_) (fun s => ?_)]
  · simp
  · have := get_lt hx
    unfold i_total_L1
    simp (disch := omega) only [if_pos, if_neg, decide_eq_true_eq, decide_true, decide_false, Bool.not_true, Bool.not_false, Bool.false_eq_true, Bool.not_eq_true', decide_eq_false_iff_not, if_true, if_false, w64_id, chk_of, idx_nat, Option.bind_some, Option.map_some, Int.toNat_natCast, not_true_eq_false, not_false_eq_true, true_and, and_true, and_self, false_and, and_false, reduceIte, flb_go, flb_ret, beq_self_eq_true, ne_eq, bne_self_eq_false, Int.ofNat_lt.2 this, hx]
  · unfold i_total_L1; simp
theorem good_line {n : Network} (h : Good n) {k : Int} {l : Line} (hl : idx n.Lines k = some l) : LineP n.Stops.length l := h.2.2.2.2 _ l (idx_some hl).2.2
theorem line_stop {st : Nat} {l : Line} (h : LineP st l) {j : Nat} {s : Int} (hs : l.Stops[j]? = some s) : 0 ≤ s ∧ s < (st : Int) := (h.2.2.1 j s hs).1
theorem line_runs {st : Nat} {l : Line} (h : LineP st l) : (l.Runs.length + 1 = l.Stops.length ∧ 1 ≤ l.Runs.length ∧ l.Runs.length ≤ 5) ∧ ∀ r ∈ l.Runs, 1 ≤ r ∧ r ≤ 60 := by
  obtain ⟨h1, h2, h3, h4⟩ := h
  refine ⟨by omega, fun r hr => ?_⟩
  obtain ⟨i, hi⟩ := List.getElem?_of_mem hr
  exact h4 i r hi
theorem runs_sum {st : Nat} {l : Line} (h : LineP st l) (k : Nat) : 0 ≤ (l.Runs.take k).sum ∧ (l.Runs.take k).sum ≤ 300 := by
  obtain ⟨⟨h1, h2, h3⟩, h4⟩ := line_runs h
  have := sum_bd (l := l.Runs.take k) (M := 60) fun x hx => by have := h4 x (List.mem_of_mem_take hx); omega
  have hl : ((l.Runs.take k).length : Int) ≤ 5 := by simp; omega
  omega
theorem runs_sum' {st : Nat} {l : Line} (h : LineP st l) : 0 ≤ l.Runs.sum ∧ l.Runs.sum ≤ 300 := by
  have := runs_sum h l.Runs.length
  rwa [List.take_length] at this
/-! Lists held against themselves (the second half's helpers). -/
theorem rInts_refl (a : List Int) (h : a.length ≤ 100000) : v_rInts a a = some true := by
  unfold v_rInts
  simp only [bne_self_eq_false, Bool.false_eq_true, if_false]
  rw [all_val (hd := Classical.propDecidable _) a (fun _ _ => True) (fun i x hx => ?_) (by unfold v_rInts_L1; simp)]
  · rw [if_pos (fun _ _ _ => trivial)]
  · have hi := get_lt hx
    unfold v_rInts_L1
    have hlt : decide ((i : Int) < (a.length : Int)) = true := by simp; omega
    left
    simp only [hlt, if_true, idx_nat, hx, Option.bind_some, bne_self_eq_false, Bool.false_eq_true, if_false, w64_succ (n := i) (by omega), and_self]
/-! The draws of tickets -/
theorem prices_ok {k : Nat} {c : l1Cur} (h : Cur k c) (hk : k ≤ 1000000000) : ∃ r, s_l1Cur_prices c = some r ∧ Cur (k + 1000) r.2 ∧ r.1.Zones.length ≤ 10 := by
  unfold s_l1Cur_prices
  obtain ⟨r, hr, hc, _⟩ := amongw_ok [500, 700, 300, 10000] (by simp) h (by omega)
  obtain ⟨r1, hr1, hc1, _⟩ := amongw_ok [2000, 1500, 3000, 900, 10000] (by simp) hc (by omega)
  obtain ⟨r2, hr2, hc2, _⟩ := amongw_ok [100, 200, 250] (by simp) hc1 (by omega)
  obtain ⟨r3, hr3, hc3, h30, h31⟩ := pick_ok 4 hc2 (by omega)
  simp only [hr, hr1, hr2, hr3, Option.bind_some]
  have e1 : w64 (1 + r3.1) = ((1 + r3.1.toNat : Nat) : Int) := by rw [w64_id (by omega)]; omega
  rw [e1]
  have loop : ∃ b, iter s_l1Cur_prices_L1 (r2.1, ((1 + r3.1.toNat : Nat) : Int), r3.2.code_, r3.2.at_, r3.2.seed_.v, []) = some b ∧ (Cur (k + 8 + 2 * 5) ⟨b.1, b.2.1, ⟨b.2.2.1⟩⟩ ∧ b.2.2.2.length ≤ 5) := by
    refine iter_rule (fun m a => a.2.1 = (m : Int) ∧ m + a.2.2.2.2.2.length ≤ 5 ∧ Cur (k + 8 + 2 * (5 - m)) ⟨a.2.2.1, a.2.2.2.1, ⟨a.2.2.2.2.1⟩⟩) _ ?_ (k := 1 + r3.1.toNat) ⟨rfl, by simp; omega, ?_⟩
    · rintro m ⟨n, v, v1, v2, v3, v4⟩ ⟨hv, hl, hcur⟩
      simp only at hv hl hcur
      subst hv
      unfold s_l1Cur_prices_L1
      cases m with
      | zero => right; exact ⟨_, by simp; rfl, hcur, by show v4.length ≤ 5; omega⟩
      | succ m =>
        left
        have hpos : (0 : Int) < ((m + 1 : Nat) : Int) := by omega
        obtain ⟨q, hq, hcq, _⟩ := amongw_ok [0, 50, 100] (by simp) hcur (by omega)
        have hch : chk (v4.length + ([n] : List Int).length ≤ 4294967296) = some () := chk_of (by simp; omega)
        refine ⟨_, m, by simp only [hpos, decide_true, if_true, hch, hq, Option.bind_some]; rfl, by omega, ?_, ?_, ?_⟩
        · exact w64_pred (by omega)
        · simp; omega
        · exact hcq.mono (by omega)
    · exact hc3.mono (by omega)
  obtain ⟨⟨v5, v6, v7, v8⟩, hb, hcb, hlb⟩ := loop
  simp only at hcb hlb
  rw [hb]
  simp only [Option.bind_some]
  obtain ⟨r5, hr5, hc5, _, _⟩ := pick_ok 40 hcb (by omega)
  obtain ⟨r7, hr7, hc7, _⟩ := amongw_ok [0, 10000, 10001] (by simp) hc5 (by omega)
  obtain ⟨r8, hr8, hc8, _⟩ := amongw_ok [-1, 10001, 0] (by simp) hc5 (by omega)
  have hch : chk (v8.length + ([r7.1] : List Int).length ≤ 4294967296) = some () := chk_of (by simp; omega)
  have hch2 : chk ((0 : Int) ≤ 0 ∧ (0 : Int) ≤ 0 ∧ (0 : Int) ≤ (v8.length : Int)) = some () := chk_of (by omega)
  simp only [hr5, hr7, hr8, hch, hch2, Option.bind_some]
  split
  · exact ⟨_, rfl, hc7.mono (by omega), by simp; omega⟩
  · split
    · exact ⟨_, rfl, hc8.mono (by omega), by simp; omega⟩
    · split
      · exact ⟨_, rfl, hc5.mono (by omega), by simp⟩
      · exact ⟨_, rfl, hc5.mono (by omega), by simp; omega⟩

/-! Prices. -/
theorem isPrice_eq (n : Int) : i_isPrice n = some (decide (0 ≤ n ∧ n ≤ 10000)) := by
  unfold i_isPrice; simp [within_eq]
theorem less_eq (x y : Int) : cmp_Less_int x y = some (decide (x < y)) := by
  unfold cmp_Less_int cmp_isNaN_int; simp
def Srt (l : List Int) : Prop := ∀ (i : Nat) (x y : Int), l[i]? = some x → l[i + 1]? = some y → x ≤ y
theorem Srt.le {l : List Int} (h : Srt l) : ∀ (d i : Nat) (x y : Int), l[i]? = some x → l[i + d]? = some y → x ≤ y
  | 0, i, x, y, hx, hy => by rw [Nat.add_zero, hx] at hy; cases hy; omega
  | d + 1, i, x, y, hx, hy => by
    have hlt : i + d < l.length := by
      have := (List.getElem?_eq_some_iff.1 hy).1; omega
    obtain ⟨z, hz⟩ := get_ex hlt
    have h1 := Srt.le h d i x z hx hz
    have h2 := h (i + d) z y hz (by rw [Nat.add_assoc]; exact hy)
    omega
open Classical in
theorem isSorted_eq (l : List Int) (hl : l.length ≤ 1000) : slices_IsSorted_int l = some (decide (Srt l)) := by
  unfold slices_IsSorted_int
  have loop : ∃ b, iter (slices_IsSorted_int_L1 l) (w64 ((l.length : Int) - 1)) = some b ∧ (b = .go () ∧ Srt l ∨ b = .ret false ∧ ¬ Srt l) := by
    refine iter_rule (step := slices_IsSorted_int_L1 l) (fun m v => (m : Int) = v + 1 ∧ m ≤ l.length ∧ ∀ (i : Nat) (x y : Int), m ≤ i + 1 → l[i]? = some x → l[i + 1]? = some y → x ≤ y) _ ?_ (k := l.length) ⟨?_, Nat.le_refl _, ?_⟩
    · rintro m v ⟨hv, hm, hall⟩
      unfold slices_IsSorted_int_L1
      by_cases hpos : 0 < v
      · obtain ⟨x, hx, hx2, _⟩ := idx_lt (l := l) (i := v) (by omega) (by omega)
        have ew : w64 (v - 1) = v - 1 := w64_id (by omega)
        obtain ⟨z, hz, hz2, _⟩ := idx_lt (l := l) (i := v - 1) (by omega) (by omega)
        have hp : decide (0 < v) = true := by simpa using hpos
        have e3 : v.toNat = (v - 1).toNat + 1 := by omega
        by_cases hlt : x < z
        · right
          refine ⟨.ret false, by simp only [hp, if_true, hx, ew, hz, less_eq, Option.bind_some, hlt, decide_true], .inr ⟨rfl, fun hs => ?_⟩⟩
          have := hs (v - 1).toNat z x hz2 (by rw [← e3]; exact hx2)
          omega
        · left
          refine ⟨v - 1, m - 1, by simp only [hp, if_true, hx, ew, hz, less_eq, Option.bind_some, hlt, decide_false, Bool.false_eq_true, if_false], by omega, by omega, by omega, ?_⟩
          intro i a b hi ha hb
          by_cases hi2 : m ≤ i + 1
          · exact hall i a b hi2 ha hb
          · have e4 : i = (v - 1).toNat := by omega
            subst e4
            rw [hz2] at ha; cases ha
            rw [← e3, hx2] at hb; cases hb
            omega
      · right
        have hp : decide (0 < v) = false := by simpa using hpos
        exact ⟨.go (), by simp only [hp, Bool.false_eq_true, if_false], .inl ⟨rfl, fun i x y hx hy => hall i x y (by omega) hx hy⟩⟩
    · rw [w64_id (by omega)]; omega
    · intro i x y hi hx hy
      have := (List.getElem?_eq_some_iff.1 hy).1
      omega
  obtain ⟨b, hb, h⟩ := loop
  rw [hb]
  rcases h with ⟨rfl, h⟩ | ⟨rfl, h⟩
  · simp [h]
  · simp [h]

structure VP (p : Prices) : Prop where
  len : 1 ≤ p.Zones.length ∧ p.Zones.length ≤ 9
  srt : Srt p.Zones
  all : ∀ x ∈ p.Zones, 0 ≤ x ∧ x ≤ 10000
  day : 0 ≤ p.Day ∧ p.Day ≤ 10000
  week : 0 ≤ p.Week ∧ p.Week ≤ 10000
open Classical in
theorem arePrices_eq (p : Prices) (hl : p.Zones.length ≤ 1000) : i_arePrices p = some (decide (VP p)) := by
  unfold i_arePrices
  simp only [within_eq, isSorted_eq _ hl, isPrice_eq, Option.bind_some]
  have no : ∀ q : Prop, (VP p → q) → ¬ q → decide (VP p) = false := fun q h1 h2 => decide_eq_false (fun h => h2 (h1 h))
  by_cases h1 : (1 : Int) ≤ p.Zones.length ∧ (p.Zones.length : Int) ≤ 9
  rotate_left
  · rw [no _ (fun h => h.len) (by omega)]; simp [h1]
  by_cases h2 : Srt p.Zones
  rotate_left
  · rw [no _ (fun h => h.srt) h2]; simp [h1, h2]
  by_cases h3 : 0 ≤ p.Day ∧ p.Day ≤ 10000
  rotate_left
  · rw [no _ (fun h => h.day) h3]; simp [h1, h2, h3]
  by_cases h4 : 0 ≤ p.Week ∧ p.Week ≤ 10000
  rotate_left
  · rw [no _ (fun h => h.week) h4]; simp [h1, h2, h3, h4]
  simp only [h1, h2, h3, h4, and_self, decide_true, Bool.not_true, Bool.false_eq_true, if_false, Option.bind_some]
  obtain ⟨a, ha, ha2, hm⟩ := idx_lt (l := p.Zones) (i := 0) (by omega) (by omega)
  have ew : w64 ((p.Zones.length : Int) - 1) = (p.Zones.length : Int) - 1 := w64_id (by omega)
  obtain ⟨b, hb, hb2, hm2⟩ := idx_lt (l := p.Zones) (i := (p.Zones.length : Int) - 1) (by omega) (by omega)
  simp only [ha, ew, hb, Option.bind_some]
  by_cases h5 : 0 ≤ a ∧ a ≤ 10000
  rotate_left
  · rw [no _ (fun h => h.all a hm) h5]; simp [h5]
  by_cases h6 : 0 ≤ b ∧ b ≤ 10000
  rotate_left
  · rw [no _ (fun h => h.all b hm2) h6]; simp [h5, h6]
  have hv : VP p := by
    refine ⟨by omega, h2, fun x hx => ?_, h3, h4⟩
    obtain ⟨i, hi⟩ := List.getElem?_of_mem hx
    have hil := (List.getElem?_eq_some_iff.1 hi).1
    have g1 := h2.le i 0 a x ha2 (by rw [Nat.zero_add]; exact hi)
    have g2 := h2.le (((p.Zones.length : Int) - 1).toNat - i) i x b hi (by rw [show i + (((p.Zones.length : Int) - 1).toNat - i) = ((p.Zones.length : Int) - 1).toNat by omega]; exact hb2)
    omega
  simp [h5, h6, hv]
open Classical in
theorem l21Prices_eq (p : Prices) (hl : p.Zones.length ≤ 1000) : s_l21Prices p = some (decide (VP p)) := by
  unfold s_l21Prices
  have no : ∀ q : Prop, (VP p → q) → ¬ q → decide (VP p) = false := fun q h1 h2 => decide_eq_false (fun h => h2 (h1 h))
  have loop : ∃ b, iter (s_l21Prices_L1 p) 0 = some b ∧ (b = .go () ∧ (Srt p.Zones ∧ ∀ x ∈ p.Zones, 0 ≤ x ∧ x ≤ 10000) ∨ b = .ret false ∧ ¬ (Srt p.Zones ∧ ∀ x ∈ p.Zones, 0 ≤ x ∧ x ≤ 10000)) := by
    refine iter_rule (step := s_l21Prices_L1 p) (fun m v => (m : Int) + v = p.Zones.length ∧ 0 ≤ v ∧ (∀ (i : Nat) (x y : Int), (i : Int) + 1 < v → p.Zones[i]? = some x → p.Zones[i + 1]? = some y → x ≤ y) ∧ ∀ (i : Nat) x, (i : Int) < v → p.Zones[i]? = some x → 0 ≤ x ∧ x ≤ 10000) _ ?_ (k := p.Zones.length) ⟨by omega, by omega, fun i x y h => by omega, fun i x h => by omega⟩
    rintro m v ⟨hv, h0, hs, ha⟩
    unfold s_l21Prices_L1
    by_cases hlt : v < p.Zones.length
    · obtain ⟨x, hx, hx2, hxm⟩ := idx_lt (l := p.Zones) (i := v) h0 hlt
      have hp : decide (v < (p.Zones.length : Int)) = true := by simpa using hlt
      simp only [hp, if_true, hx, l1In_eq, Option.bind_some]
      by_cases hr : 0 ≤ x ∧ x ≤ 10000
      rotate_left
      · right
        exact ⟨.ret false, by simp [hr], .inr ⟨rfl, fun h => hr (h.2 x hxm)⟩⟩
      have ew : w64 (v + 1) = v + 1 := w64_id (by omega)
      have step : (∀ z, 0 < v → p.Zones[(v - 1).toNat]? = some z → z ≤ x) → ((m - 1 : Nat) : Int) + (v + 1) = p.Zones.length ∧ 0 ≤ v + 1 ∧ (∀ (i : Nat) (x y : Int), (i : Int) + 1 < v + 1 → p.Zones[i]? = some x → p.Zones[i + 1]? = some y → x ≤ y) ∧ ∀ (i : Nat) x, (i : Int) < v + 1 → p.Zones[i]? = some x → 0 ≤ x ∧ x ≤ 10000 := by
        intro hz
        refine ⟨by omega, by omega, fun i a b hi ha' hb' => ?_, fun i a hi ha' => ?_⟩
        · by_cases hi2 : (i : Int) + 1 < v
          · exact hs i a b hi2 ha' hb'
          · have e1 : i + 1 = v.toNat := by omega
            rw [e1, hx2] at hb'; cases hb'
            exact hz a (by omega) (by rw [show (v - 1).toNat = i by omega]; exact ha')
        · by_cases hi2 : (i : Int) < v
          · exact ha i a hi2 ha'
          · have e1 : i = v.toNat := by omega
            rw [e1, hx2] at ha'; cases ha'
            exact hr
      by_cases hpos : 0 < v
      · have ew2 : w64 (v - 1) = v - 1 := w64_id (by omega)
        obtain ⟨z, hz, hz2, _⟩ := idx_lt (l := p.Zones) (i := v - 1) (by omega) (by omega)
        by_cases hlt2 : x < z
        · right
          refine ⟨.ret false, by simp [hr, hpos, ew2, hz, hlt2], .inr ⟨rfl, fun h => ?_⟩⟩
          have := h.1 (v - 1).toNat z x hz2 (by rw [show (v - 1).toNat + 1 = v.toNat by omega]; exact hx2)
          omega
        · left
          exact ⟨v + 1, m - 1, by simp [hr, hpos, ew2, hz, hlt2, ew], by omega, step (fun z' _ hz' => by rw [hz2] at hz'; cases hz'; omega)⟩
      · left
        exact ⟨v + 1, m - 1, by simp [hr, hpos, ew], by omega, step (fun z' h _ => absurd h hpos)⟩
    · right
      have hp : decide (v < (p.Zones.length : Int)) = false := by simpa using hlt
      refine ⟨.go (), by simp only [hp, Bool.false_eq_true, if_false], .inl ⟨rfl, fun i x y hx hy => ?_, fun x hx => ?_⟩⟩
      · have := (List.getElem?_eq_some_iff.1 hy).1
        exact hs i x y (by omega) hx hy
      · obtain ⟨i, hi⟩ := List.getElem?_of_mem hx
        have := (List.getElem?_eq_some_iff.1 hi).1
        exact ha i x (by omega) hi
  obtain ⟨b, hb, h⟩ := loop
  rw [hb]
  rcases h with ⟨rfl, hs, ha⟩ | ⟨rfl, h⟩
  · simp only [flb_go, l1In_eq, Option.bind_some]
    by_cases h1 : (1 : Int) ≤ p.Zones.length ∧ (p.Zones.length : Int) ≤ 9
    rotate_left
    · rw [no _ (fun h => h.len) (by omega)]; simp [h1]
    by_cases h3 : 0 ≤ p.Day ∧ p.Day ≤ 10000
    rotate_left
    · rw [no _ (fun h => h.day) h3]; simp [h1, h3]
    by_cases h4 : 0 ≤ p.Week ∧ p.Week ≤ 10000
    rotate_left
    · rw [no _ (fun h => h.week) h4]; simp [h1, h3, h4]
    have hv : VP p := ⟨by omega, hs, ha, h3, h4⟩
    simp [h1, h3, h4, hv]
  · simp only [flb_ret]
    rw [no (Srt p.Zones ∧ ∀ x ∈ p.Zones, 0 ≤ x ∧ x ≤ 10000) (fun hv => ⟨hv.srt, hv.all⟩) h]

/-! Sets of zones as bits of a number. -/
theorem ofInt64 {x : Nat} (hx : x < 1024) : (BitVec.ofInt (IntKind.i64).bits (x : Int)).toNat = x := by
  show (BitVec.ofInt 64 (x : Int)).toNat = x
  rw [BitVec.toNat_ofInt]; omega
theorem or64 {a b : Nat} (ha : a < 1024) (hb : b < 1024) : IntKind.i64.wrap ((BitVec.ofInt (IntKind.i64).bits (a : Int) ||| BitVec.ofInt (IntKind.i64).bits (b : Int)).toNat : Int) = ((a ||| b : Nat) : Int) ∧ a ||| b < 1024 := by
  have h1 : a ||| b < 2 ^ 10 := Nat.or_lt_two_pow (by omega) (by omega)
  rw [BitVec.toNat_or, ofInt64 ha, ofInt64 hb]
  refine ⟨?_, by omega⟩
  show w64 _ = _
  exact w64_id (by omega)
theorem pow_small {v : Nat} (hv : v ≤ 9) : 2 ^ v ≤ 512 := by
  have := Nat.pow_le_pow_right (n := 2) (by omega) hv
  omega
theorem shl64 {z : Int} (h0 : 0 ≤ z) (h9 : z ≤ 9) : w64 (1 * 2 ^ (min (z : Int).toNat (IntKind.i64).bits)) = ((2 ^ z.toNat : Nat) : Int) := by
  have e : min (z : Int).toNat (IntKind.i64).bits = z.toNat := by show min z.toNat 64 = _; omega
  have h := pow_small (v := z.toNat) (by omega)
  have e2 : (2 : Int) ^ z.toNat = ((2 ^ z.toNat : Nat) : Int) := by rw [Int.natCast_pow]; rfl
  rw [e, Int.one_mul, e2]
  generalize 2 ^ z.toNat = q at h ⊢
  exact w64_id (by omega)
theorem bit64 {z : Nat} (hz : z < 1024) {v : Nat} (hv : v ≤ 63) : IntKind.i64.wrap ((BitVec.ofInt (IntKind.i64).bits ((z : Int).fdiv (2 ^ (min ((v : Nat) : Int).toNat (IntKind.i64).bits))) &&& BitVec.ofInt (IntKind.i64).bits 1).toNat : Int) = if z.testBit v then 1 else 0 := by
  have e : min ((v : Nat) : Int).toNat (IntKind.i64).bits = v := by show min ((v : Nat) : Int).toNat 64 = _; omega
  have e2 : (2 : Int) ^ v = ((2 ^ v : Nat) : Int) := by rw [Int.natCast_pow]; rfl
  have e3 : (z : Int).fdiv ((2 ^ v : Nat) : Int) = ((z / 2 ^ v : Nat) : Int) := by
    rw [Int.fdiv_eq_ediv_of_nonneg _ (Int.natCast_nonneg _)]; rfl
  have h1 : z / 2 ^ v < 1024 := Nat.lt_of_le_of_lt (Nat.div_le_self _ _) hz
  have e4 : (BitVec.ofInt (IntKind.i64).bits 1).toNat = 1 := ofInt64 (x := 1) (by omega)
  rw [e, e2, e3, BitVec.toNat_and, ofInt64 h1, e4, Nat.and_one_is_mod, Nat.testBit_eq_decide_div_mod_eq]
  have h2 : z / 2 ^ v % 2 = 0 ∨ z / 2 ^ v % 2 = 1 := by omega
  rcases h2 with h2 | h2
  · rw [h2]; rfl
  · rw [h2]; rfl
theorem bit_lt {a k : Nat} (ha : a < 1024) (h : a.testBit k = true) : k < 10 := by
  rcases Nat.lt_or_ge k 10 with h1 | h1
  · exact h1
  · have h2 : 2 ^ 10 ≤ 2 ^ k := Nat.pow_le_pow_right (by omega) h1
    have := Nat.testBit_lt_two_pow (x := a) (i := k) (by omega)
    rw [this] at h; cases h
/-- How many bits are set. -/
def cnt (a : Nat) : Nat := ((List.range 10).filter fun k => a.testBit k).length
theorem cnt_mono {a b : Nat} (h : ∀ k, a.testBit k = true → b.testBit k = true) : cnt a ≤ cnt b := by
  unfold cnt
  rw [← List.countP_eq_length_filter, ← List.countP_eq_length_filter]
  exact List.countP_mono_left fun k _ hk => h k hk
/-- An ascending list of the bits. -/
def SL (a : Nat) (l : List Int) : Prop := l.Pairwise (· < ·) ∧ ∀ x, x ∈ l ↔ 0 ≤ x ∧ a.testBit x.toNat = true
theorem SL_len {a : Nat} (ha : a < 1024) {l : List Int} (h : SL a l) : l.length = cnt a := by
  have n1 : l.Nodup := h.1.imp (fun hab => by omega)
  have n2 : (((List.range 10).filter fun k => a.testBit k).map fun k : Nat => (k : Int)).Nodup := by
    rw [List.Nodup, List.pairwise_map]
    exact (List.Pairwise.filter _ (List.nodup_range (n := 10))).imp fun hab hc => hab (by omega)
  have hp : l.Perm (((List.range 10).filter fun k => a.testBit k).map fun k : Nat => (k : Int)) := by
    rw [List.perm_ext_iff_of_nodup n1 n2]
    intro x
    rw [h.2 x, List.mem_map]
    constructor
    · rintro ⟨h0, hb⟩
      exact ⟨x.toNat, List.mem_filter.2 ⟨List.mem_range.2 (bit_lt ha hb), hb⟩, by omega⟩
    · rintro ⟨k, hk, rfl⟩
      exact ⟨by omega, by simpa using (List.mem_filter.1 hk).2⟩
  rw [hp.length_eq, List.length_map]; rfl
theorem SL_nil : SL 0 [] := ⟨.nil, fun x => by simp⟩
theorem pw_lt {l : List Int} (h : l.Pairwise (· < ·)) {i j : Nat} {x y : Int} (hij : i < j) (hx : l[i]? = some x) (hy : l[j]? = some y) : x < y := by
  obtain ⟨h1, rfl⟩ := List.getElem?_eq_some_iff.1 hx
  obtain ⟨h2, rfl⟩ := List.getElem?_eq_some_iff.1 hy
  exact List.pairwise_iff_getElem.1 h i j h1 h2 hij
theorem put_ok {a : Nat} {l : List Int} (h : SL a l) (hl : l.length ≤ 1000) {n : Int} (h0 : 0 ≤ n) (h9 : n ≤ 9) : Tot (s_l1Put l n) fun r => SL (a ||| 2 ^ n.toNat) r := by
  have hbit : ∀ x : Int, 0 ≤ x → ((a ||| 2 ^ n.toNat).testBit x.toNat = true ↔ a.testBit x.toNat = true ∨ x = n) := fun x hx => by
    rw [Nat.testBit_or, Nat.testBit_two_pow, Bool.or_eq_true, decide_eq_true_iff]
    constructor
    · rintro (h | h)
      · exact .inl h
      · exact .inr (by omega)
    · rintro (h | h)
      · exact .inl h
      · exact .inr (by omega)
  unfold s_l1Put
  refine .call (P := fun v => ∃ k : Nat, v = (k : Int) ∧ k ≤ l.length ∧ (∀ (i : Nat) x, i < k → l[i]? = some x → x < n) ∧ ∀ x, l[k]? = some x → n ≤ x) ?_ fun v ⟨k, hv, hk, hlo, hhi⟩ => ?_
  · refine Tot.iter (fun m v => ∃ k : Nat, v = (k : Int) ∧ m + k = l.length ∧ ∀ (i : Nat) x, i < k → l[i]? = some x → x < n) (n := l.length) ⟨0, rfl, by omega, fun i x h => by omega⟩ ?_
    rintro m v ⟨k, rfl, hm, hlo⟩
    unfold s_l1Put_L1
    refine .call (P := fun b => (b = true → k < l.length ∧ ∀ x, l[k]? = some x → x < n) ∧ (b = false → ∀ x, l[k]? = some x → n ≤ x)) (.iteP (fun hc => ?_) (fun hc => .ok ⟨fun h => (by cases h), fun _ x hx => by have := get_lt hx; omega⟩)) fun b hb => .ite (fun ht => ?_) (fun hf => .dn ⟨k, rfl, by omega, hlo, hb.2 hf⟩)
    · obtain ⟨x, hx⟩ := get_ex (l := l) (i := k) (by omega)
      refine .eq (ixs hx) (.ok ⟨fun h => ⟨by omega, fun y hy => ?_⟩, fun h y hy => ?_⟩)
      · rw [hx] at hy; cases hy; exact of_decide_eq_true h
      · rw [hx] at hy; cases hy; have := of_decide_eq_false h; omega
    · obtain ⟨q1, q2⟩ := hb.1 ht
      refine .nx ⟨m - 1, by omega, k + 1, w64_succ (by omega), by omega, fun i x hi hx => ?_⟩
      by_cases hik : i = k
      · subst hik; exact q2 x hx
      · exact hlo i x (by omega) hx
  · subst hv
    refine .call (P := fun b => (b = true → n ∈ l) ∧ (b = false → ∀ x, l[k]? = some x → n < x)) (.iteP (fun hc => ?_) (fun hc => .ok ⟨fun h => (by cases h), fun _ x hx => by have := get_lt hx; omega⟩)) fun b hb => .ite (fun ht => ?_) (fun hf => ?_)
    · obtain ⟨x, hx⟩ := get_ex (l := l) (i := k) (by omega)
      refine .eq (ixs hx) (.ok ⟨fun h => ?_, fun h y hy => ?_⟩)
      · have := eq_of_beq h; subst this; exact List.mem_of_getElem? hx
      · rw [hx] at hy; cases hy; have h1 := ne_of_beq_false h; have := hhi x hx; omega
    · have hm := hb.1 ht
      refine .ok ⟨h.1, fun x => ⟨fun hx => ?_, fun ⟨hx0, hx⟩ => ?_⟩⟩
      · have := (h.2 x).1 hx; exact ⟨this.1, (hbit x this.1).2 (.inl this.2)⟩
      · rcases (hbit x hx0).1 hx with hx | rfl
        · exact (h.2 x).2 ⟨hx0, hx⟩
        · exact hm
    · have hgt := hb.2 hf
      rw [Int.toNat_natCast]
      have hlt : (l.take k).length = k := by rw [List.length_take]; omega
      refine .chk (by omega) (.chk (by simp; omega) (.chk (by simp; omega) (.chk (by omega) (.chk (by simp; omega) (.ok ?_)))))
      have e : [] ++ (l.take k).drop (0 : Int).toNat = l.take k := rfl
      rw [e]
      have ha1 : ∀ x ∈ l.take k, x < n := fun x hx => by
        obtain ⟨i, hi⟩ := List.getElem?_of_mem hx
        have hik : i < k := by have := get_lt hi; omega
        rw [List.getElem?_take_of_lt hik] at hi
        exact hlo i x hik hi
      have ha2 : ∀ x ∈ l.drop k, n < x := fun x hx => by
        obtain ⟨i, hi⟩ := List.getElem?_of_mem hx
        rw [List.getElem?_drop] at hi
        obtain ⟨y, hy⟩ := get_ex (l := l) (i := k) (by have := get_lt hi; omega)
        have h1 := hgt y hy
        by_cases hi0 : i = 0
        · subst hi0; rw [Nat.add_zero, hy] at hi; cases hi; exact h1
        · have := pw_lt h.1 (by omega) hy hi; omega
      refine ⟨?_, fun x => ?_⟩
      · rw [List.append_assoc, List.pairwise_append]
        refine ⟨h.1.sublist (List.take_sublist _ _), ?_, fun x hx y hy => ?_⟩
        · rw [List.singleton_append, List.pairwise_cons]
          exact ⟨ha2, h.1.sublist (List.drop_sublist _ _)⟩
        · have := ha1 x hx
          rcases List.mem_append.1 hy with hy | hy
          · have : y = n := by simpa using hy
            omega
          · have := ha2 y hy; omega
      · rw [List.mem_append, List.mem_append, List.mem_singleton]
        have hmem : x ∈ l ↔ x ∈ l.take k ∨ x ∈ l.drop k := by rw [← List.mem_append, List.take_append_drop]
        constructor
        · rintro ((hx | rfl) | hx)
          · have := (h.2 x).1 (hmem.2 (.inl hx)); exact ⟨this.1, (hbit x this.1).2 (.inl this.2)⟩
          · exact ⟨h0, (hbit x h0).2 (.inr rfl)⟩
          · have := (h.2 x).1 (hmem.2 (.inr hx)); exact ⟨this.1, (hbit x this.1).2 (.inl this.2)⟩
        · rintro ⟨hx0, hx⟩
          rcases (hbit x hx0).1 hx with hx | rfl
          · rcases hmem.1 ((h.2 x).2 ⟨hx0, hx⟩) with hx | hx
            · exact .inl (.inl hx)
            · exact .inr hx
          · exact .inl (.inr rfl)
/-! Zones that are touched; fares of journeys. -/
def ZonesP (n : Network) (zones : List Int) : Prop := zones.length = n.Stops.length ∧ ∀ (i : Nat) z, zones[i]? = some z → 1 ≤ z ∧ z ≤ 9
noncomputable instance (n : Network) (zones : List Int) : Decidable (ZonesP n zones) := Classical.propDecidable _
def ZnP (zones : List Int) : Prop := ∀ (i : Nat) z, zones[i]? = some z → 1 ≤ z ∧ z ≤ 9
noncomputable instance (zones : List Int) : Decidable (ZnP zones) := Classical.propDecidable _
theorem areZones_eq {n : Network} {zones : List Int} (hl : zones.length ≤ 2000) : i_areZones n zones = some (decide (ZonesP n zones)) := by
  unfold i_areZones
  by_cases hz : zones.length = n.Stops.length
  · have e : ZonesP n zones ↔ ZnP zones := ⟨fun h => h.2, fun h => ⟨hz, h⟩⟩
    simp only [hz, bne_self_eq_false, Bool.false_eq_true, if_false, e]
    rw [all_val (hd := Classical.propDecidable _) zones (fun _ z => 1 ≤ z ∧ z ≤ 9) (fun i x hx => ?_) (by unfold i_areZones_L1; simp)]
    · by_cases h : ∀ (i : Nat) (x : Int), zones[i]? = some x → 1 ≤ x ∧ x ≤ 9
      · rw [if_pos h, decide_eq_true (show ZnP zones from h)]
      · rw [if_neg h, decide_eq_false (show ¬ ZnP zones from h)]
    · have hi := get_lt hx
      unfold i_areZones_L1
      by_cases c : 1 ≤ x ∧ x ≤ 9
      · left; refine ⟨?_, c⟩
        simp (disch := omega) only [if_pos, if_neg, decide_eq_true_eq, decide_true, decide_false, Bool.not_true, Bool.not_false, Bool.false_eq_true, Bool.not_eq_true', decide_eq_false_iff_not, if_true, if_false, w64_id, chk_of, idx_nat, Option.bind_some, Option.map_some, Int.toNat_natCast, not_true_eq_false, not_false_eq_true, true_and, and_true, and_self, false_and, and_false, reduceIte, flb_go, flb_ret, beq_self_eq_true, ne_eq, bne_self_eq_false, Int.ofNat_lt.2 hi, hx, within_eq, c]
        rfl
      · right; refine ⟨?_, c⟩
        simp (disch := omega) only [if_pos, if_neg, decide_eq_true_eq, decide_true, decide_false, Bool.not_true, Bool.not_false, Bool.false_eq_true, Bool.not_eq_true', decide_eq_false_iff_not, if_true, if_false, w64_id, chk_of, idx_nat, Option.bind_some, Option.map_some, Int.toNat_natCast, not_true_eq_false, not_false_eq_true, true_and, and_true, and_self, false_and, and_false, reduceIte, flb_go, flb_ret, beq_self_eq_true, ne_eq, bne_self_eq_false, Int.ofNat_lt.2 hi, hx, within_eq, c]
  · have : ¬ ZonesP n zones := fun h => hz h.1
    have h2 : ((zones.length : Int) != (n.Stops.length : Int)) = true := by simp; omega
    simp only [h2, if_true, this, decide_false]
theorem validZ_eq {n : Network} (hb : Bd n) {zones : List Int} (hl : zones.length ≤ 2000) : i_IsValidZones n zones = some (decide (Good n ∧ ZonesP n zones)) := by
  unfold i_IsValidZones
  rw [valid_eq _ hb]
  by_cases hg : Good n
  · simp only [hg, decide_true, if_true, Option.bind_some, areZones_eq hl, true_and]
  · simp [hg]
theorem l21Zones_eq {n : Network} (hb : Bd n) {zones : List Int} (hl : zones.length ≤ 2000) : s_l21Zones n zones = some (decide (Good n ∧ ZonesP n zones)) := by
  unfold s_l21Zones
  rw [good_eq _ hb]
  by_cases hg : Good n
  · by_cases hz : zones.length = n.Stops.length
    · have e : (Good n ∧ ZonesP n zones) ↔ ZnP zones := ⟨fun h => h.2.2, fun h => ⟨hg, hz, h⟩⟩
      have h2 : ((zones.length : Int) != (n.Stops.length : Int)) = false := by simp; omega
      simp only [e]
      simp only [h2, hg, decide_true, Bool.not_true, Bool.false_eq_true, if_false, Option.bind_some]
      rw [all_val (hd := Classical.propDecidable _) zones (fun _ z => 1 ≤ z ∧ z ≤ 9) (fun i x hx => ?_) (by unfold s_l21Zones_L1; simp)]
      · by_cases h : ∀ (i : Nat) (x : Int), zones[i]? = some x → 1 ≤ x ∧ x ≤ 9
        · rw [if_pos h, decide_eq_true (show ZnP zones from h)]
        · rw [if_neg h, decide_eq_false (show ¬ ZnP zones from h)]
      · have hi := get_lt hx
        unfold s_l21Zones_L1
        by_cases c : 1 ≤ x ∧ x ≤ 9
        · left; refine ⟨?_, c⟩
          simp (disch := omega) only [if_pos, if_neg, decide_eq_true_eq, decide_true, decide_false, Bool.not_true, Bool.not_false, Bool.false_eq_true, Bool.not_eq_true', decide_eq_false_iff_not, if_true, if_false, w64_id, chk_of, idx_nat, Option.bind_some, Option.map_some, Int.toNat_natCast, not_true_eq_false, not_false_eq_true, true_and, and_true, and_self, false_and, and_false, reduceIte, flb_go, flb_ret, beq_self_eq_true, ne_eq, bne_self_eq_false, Int.ofNat_lt.2 hi, hx, l1In_eq, c]
          rfl
        · right; refine ⟨?_, c⟩
          simp (disch := omega) only [if_pos, if_neg, decide_eq_true_eq, decide_true, decide_false, Bool.not_true, Bool.not_false, Bool.false_eq_true, Bool.not_eq_true', decide_eq_false_iff_not, if_true, if_false, w64_id, chk_of, idx_nat, Option.bind_some, Option.map_some, Int.toNat_natCast, not_true_eq_false, not_false_eq_true, true_and, and_true, and_self, false_and, and_false, reduceIte, flb_go, flb_ret, beq_self_eq_true, ne_eq, bne_self_eq_false, Int.ofNat_lt.2 hi, hx, l1In_eq, c]
    · have : ¬ ZonesP n zones := fun h => hz h.1
      have h2 : ((zones.length : Int) != (n.Stops.length : Int)) = true := by simp; omega
      simp only [hg, h2, decide_true, Bool.not_true, Bool.false_eq_true, if_false, Option.bind_some, if_true, this, and_false, decide_false]
  · simp [hg]
/-- The zones of some stops. -/
def zset (zones : List Int) (l : List Int) (a : Nat) : Nat := l.foldl (fun a s => a ||| 2 ^ (zones.getD s.toNat 0).toNat) a
theorem zset_snoc (zones : List Int) (l : List Int) (s : Int) (a : Nat) : zset zones (l ++ [s]) a = zset zones l a ||| 2 ^ (zones.getD s.toNat 0).toNat := by unfold zset; rw [List.foldl_append]; rfl
theorem zset_bit (zones : List Int) : ∀ (l : List Int) (a k : Nat), (zset zones l a).testBit k = true ↔ a.testBit k = true ∨ ∃ s ∈ l, (zones.getD s.toNat 0).toNat = k
  | [], a, k => by simp [zset]
  | s :: l, a, k => by
    have ih := zset_bit zones l (a ||| 2 ^ (zones.getD s.toNat 0).toNat) k
    have e : zset zones (s :: l) a = zset zones l (a ||| 2 ^ (zones.getD s.toNat 0).toNat) := rfl
    rw [e, ih, Nat.testBit_or, Nat.testBit_two_pow, Bool.or_eq_true, decide_eq_true_iff]
    constructor
    · rintro ((h | h) | ⟨x, hx, h⟩)
      · exact .inl h
      · exact .inr ⟨s, List.mem_cons_self .., h⟩
      · exact .inr ⟨x, List.mem_cons_of_mem _ hx, h⟩
    · rintro (h | ⟨x, hx, h⟩)
      · exact .inl (.inl h)
      · rcases List.mem_cons.1 hx with rfl | hx
        · exact .inl (.inr h)
        · exact .inr ⟨x, hx, h⟩
theorem zone_at {n : Network} {zones : List Int} (hz : ZonesP n zones) {s : Int} (h0 : 0 ≤ s) (h1 : s < (n.Stops.length : Int)) : ∃ z, idx zones s = some z ∧ zones.getD s.toNat 0 = z ∧ 1 ≤ z ∧ z ≤ 9 ∧ z ∈ zones := by
  obtain ⟨z, hz1, hz2, hz3⟩ := idx_lt (l := zones) h0 (by rw [hz.1]; exact h1)
  exact ⟨z, hz1, by rw [List.getD_eq_getElem?_getD, hz2]; rfl, (hz.2 _ z hz2).1, (hz.2 _ z hz2).2, hz3⟩
theorem zset_lt {n : Network} {zones : List Int} (hz : ZonesP n zones) : ∀ (l : List Int) (a : Nat), (∀ s ∈ l, 0 ≤ s ∧ s < (n.Stops.length : Int)) → a < 1024 → zset zones l a < 1024
  | [], a, _, ha => ha
  | s :: l, a, hl, ha => by
    obtain ⟨z, _, z2, z3, z4, _⟩ := zone_at hz (hl s (List.mem_cons_self ..)).1 (hl s (List.mem_cons_self ..)).2
    have e : zset zones (s :: l) a = zset zones l (a ||| 2 ^ (zones.getD s.toNat 0).toNat) := rfl
    rw [e]
    refine zset_lt hz l _ (fun x hx => hl x (List.mem_cons_of_mem _ hx)) ?_
    rw [z2]
    have := pow_small (v := z.toNat) (by omega)
    exact (or64 ha (b := 2 ^ z.toNat) (by omega)).2
/-- A leg that there is, and its stops. -/
def Leg21 (n : Network) (l : List Int) (a b c : Int) (e : Line) : Prop := l = [a, b, c] ∧ idx n.Lines a = some e ∧ 0 ≤ b ∧ b ≤ c ∧ c < (e.Stops.length : Int)
noncomputable instance (n : Network) (a b c : Int) : Decidable (∃ e, Leg21 n [a, b, c] a b c e) := Classical.propDecidable _
def part21 (e : Line) (b c : Int) : List Int := (e.Stops.take (c + 1).toNat).drop b.toNat
theorem part_stop {n : Network} (hg : Good n) {a b c : Int} {e : Line} (h : idx n.Lines a = some e) : ∀ s ∈ part21 e b c, 0 ≤ s ∧ s < (n.Stops.length : Int) := fun s hs => by
  obtain ⟨i, hi⟩ := List.getElem?_of_mem (List.mem_of_mem_take (List.mem_of_mem_drop hs))
  exact line_stop (good_line hg h) hi
theorem part_len {e : Line} {b c : Int} (h0 : 0 ≤ b) (h1 : b ≤ c) (h2 : c < (e.Stops.length : Int)) : (part21 e b c).length = (c + 1 - b).toNat := by
  unfold part21; rw [List.length_drop, List.length_take]; omega
theorem part_at {e : Line} {b c : Int} (h0 : 0 ≤ b) (h1 : b ≤ c) (h2 : c < (e.Stops.length : Int)) {k : Nat} (hk : b + k ≤ c) : ∃ s, (part21 e b c)[k]? = some s ∧ idx e.Stops (b + k) = some s := by
  obtain ⟨s, s1, s2, _⟩ := idx_lt (l := e.Stops) (i := b + k) (by omega) (by omega)
  refine ⟨s, ?_, s1⟩
  unfold part21
  rw [List.getElem?_drop, List.getElem?_take_of_lt (by omega), show b.toNat + k = (b + k).toNat by omega]; exact s2
theorem isLine21 (n : Network) (a : Int) : i_isLine n a = some (decide (0 ≤ a ∧ a < (n.Lines.length : Int))) := by
  unfold i_isLine
  by_cases h : 0 ≤ a <;> simp [h]
theorem arePl_eq {n : Network} (a b c : Int) : i_arePlaces n a b c = some (decide (∃ e, Leg21 n [a, b, c] a b c e)) := by
  unfold i_arePlaces
  rw [isLine21]
  by_cases h1 : 0 ≤ a ∧ a < (n.Lines.length : Int)
  · obtain ⟨e, he, _⟩ := idx_lt (l := n.Lines) h1.1 h1.2
    have : (∃ e, Leg21 n [a, b, c] a b c e) ↔ 0 ≤ b ∧ b ≤ c ∧ c < (e.Stops.length : Int) := by
      constructor
      · rintro ⟨e', _, q1, q2⟩; rw [he] at q1; cases q1; exact q2
      · exact fun h => ⟨e, rfl, he, h⟩
    simp only [this, h1, and_self, decide_true, if_true, he, Option.bind_some]
    by_cases h2 : 0 ≤ b
    · by_cases h3 : b ≤ c <;> simp [h2, h3]
    · simp [h2]
  · have : ¬ ∃ e, Leg21 n [a, b, c] a b c e := by
      rintro ⟨e, _, q1, _⟩
      have := idx_some q1; exact h1 ⟨this.1, this.2.1⟩
    simp [h1, this]
theorem touched_ok {n : Network} (hg : Good n) {zones : List Int} (hz : ZonesP n zones) {a b c : Int} {e : Line} (h : Leg21 n [a, b, c] a b c e) : i_touched n zones a b c = some ((zset zones (part21 e b c) 0 : Nat) : Int) := by
  obtain ⟨_, h1, h2, h3, h4⟩ := h
  have hst := part_stop (b := b) (c := c) hg h1
  have hp := good_line hg h1
  have h6 : e.Stops.length ≤ 6 := by have := line_runs hp; omega
  have ew : w64 (c + 1) = c + 1 := w64_id (by omega)
  have hpl := part_len h2 h3 h4
  unfold i_touched
  rw [h1]
  simp only [Option.bind_some, ew]
  rw [chk_of (by omega)]
  simp only [Option.bind_some]
  refine Tot.val (.call (P := fun v => v = ((zset zones (part21 e b c) 0 : Nat) : Int)) ?_ fun v hv => .ok hv)
  refine Tot.iter (fun m s => ∃ k : Nat, s.2 = (k : Int) ∧ m + k = (part21 e b c).length ∧ s.1 = ((zset zones ((part21 e b c).take k) 0 : Nat) : Int)) (n := (part21 e b c).length) ⟨0, rfl, by omega, rfl⟩ ?_
  rintro m ⟨v, w⟩ ⟨k, hw, hm, hv⟩
  simp only at hw hv
  subst hw; subst hv
  unfold i_touched_L1
  simp only [ew]
  have ep : (e.Stops.take (c + 1).toNat).drop b.toNat = part21 e b c := rfl
  rw [ep]
  refine .iteP (fun hc => ?_) (fun hc => .dn (by rw [List.take_of_length_le (by omega)]))
  obtain ⟨s, hs⟩ := get_ex (l := part21 e b c) (i := k) (by omega)
  obtain ⟨z, z1, z2, z3, z4, _⟩ := zone_at hz (hst s (List.mem_of_getElem? hs)).1 (hst s (List.mem_of_getElem? hs)).2
  have hlt := zset_lt hz ((part21 e b c).take k) 0 (fun x hx => hst x (List.mem_of_mem_take hx)) (by omega)
  have hps := pow_small (v := z.toNat) (by omega)
  refine .eq (ixs hs) (.eq z1 (.chk (by omega) (.nx ⟨m - 1, by omega, k + 1, w64_succ (by omega), by omega, ?_⟩)))
  dsimp only
  rw [shl64 (by omega) z4, (or64 hlt (b := 2 ^ z.toNat) (by omega)).1, take_succ hs, zset_snoc, z2]
/-- The reference goes on with a list. -/
theorem l21Touched_ok {n : Network} (hg : Good n) {zones : List Int} (hz : ZonesP n zones) (a b c : Int) {set : Nat} (hs : set < 1024) {l : List Int} (hl : SL set l) : (∃ e, Leg21 n [a, b, c] a b c e ∧ Tot (s_l21Touched n zones l a b c) fun r => r.2 = true ∧ SL (zset zones (part21 e b c) set) r.1) ∨ ((¬ ∃ e, Leg21 n [a, b, c] a b c e) ∧ s_l21Touched n zones l a b c = some ([], false)) := by
  have hll := hg.2.1
  have ew : w64 ((n.Lines.length : Int) - 1) = (n.Lines.length : Int) - 1 := w64_id (by omega)
  unfold s_l21Touched
  simp only [l1In_eq, ew, Option.bind_some]
  by_cases h1 : 0 ≤ a ∧ a ≤ (n.Lines.length : Int) - 1
  · obtain ⟨e, he, _⟩ := idx_lt (l := n.Lines) h1.1 (by omega)
    have hp := good_line hg he
    have h6 : e.Stops.length ≤ 6 := by have := line_runs hp; omega
    have ew2 : w64 ((e.Stops.length : Int) - 1) = (e.Stops.length : Int) - 1 := w64_id (by omega)
    simp only [h1, and_self, decide_true, Bool.not_true, Bool.false_eq_true, if_false, he, Option.bind_some, ew2]
    by_cases h2 : 0 ≤ c ∧ c ≤ (e.Stops.length : Int) - 1
    · by_cases h3 : 0 ≤ b ∧ b ≤ c
      · left
        have hL : Leg21 n [a, b, c] a b c e := ⟨rfl, he, h3.1, h3.2, by omega⟩
        refine ⟨e, hL, ?_⟩
        have hst := part_stop (b := b) (c := c) hg he
        have hpl := part_len h3.1 h3.2 hL.2.2.2.2
        simp only [h2, h3, and_self, decide_true, Bool.not_true, Bool.false_eq_true, if_false, Option.bind_some]
        refine .call (P := fun o => SL (zset zones (part21 e b c) set) o) ?_ fun o ho => .ok ⟨rfl, ho⟩
        refine Tot.iter (fun m s => ∃ k : Nat, s.2 = b + k ∧ m + k = (part21 e b c).length ∧ SL (zset zones ((part21 e b c).take k) set) s.1) (n := (part21 e b c).length) ⟨0, by simp, by omega, by simpa [zset] using hl⟩ ?_
        rintro m ⟨o, w⟩ ⟨k, hw, hm, ho⟩
        simp only at hw ho
        subst hw
        unfold s_l21Touched_L1
        refine .iteP (fun hc => ?_) (fun hc => .dn (by rw [List.take_of_length_le (by omega)] at ho; exact ho))
        obtain ⟨s, s1, s2⟩ := part_at h3.1 h3.2 hL.2.2.2.2 (k := k) hc
        obtain ⟨z, z1, z2, z3, z4, _⟩ := zone_at hz (hst s (List.mem_of_getElem? s1)).1 (hst s (List.mem_of_getElem? s1)).2
        have hlt := zset_lt hz ((part21 e b c).take k) set (fun x hx => hst x (List.mem_of_mem_take hx)) hs
        have hlen := SL_len hlt ho
        have hc10 : cnt (zset zones ((part21 e b c).take k) set) ≤ 10 := by unfold cnt; exact Nat.le_trans (List.length_filter_le _ _) (by simp)
        refine .eq he (.eq s2 (.eq z1 (.call (put_ok ho (by omega) (by omega) z4) fun r hr => .nx ⟨m - 1, by omega, k + 1, ?_, by omega, ?_⟩)))
        · dsimp only; rw [w64_id (by omega)]; omega
        · dsimp only; rw [take_succ s1, zset_snoc, z2]; exact hr
      · right
        refine ⟨?_, by simp only [h2, h3, and_self, decide_true, decide_false, Bool.not_true, Bool.not_false, Bool.false_eq_true, if_false, if_true, Option.bind_some]⟩
        rintro ⟨e', _, q1, q2, q3, q4⟩
        exact h3 ⟨q2, q3⟩
    · right
      refine ⟨?_, by simp only [h2, decide_false, Bool.not_false, if_true, Option.bind_some]⟩
      rintro ⟨e', _, q1, q2, q3, q4⟩
      rw [he] at q1; cases q1
      exact h2 ⟨by omega, by omega⟩
  · right
    refine ⟨?_, by simp only [h1, decide_false, Bool.not_false, if_true, Option.bind_some]⟩
    rintro ⟨e', _, q1, _⟩
    have := idx_some q1
    exact h1 ⟨this.1, by omega⟩
/-! Fares. -/
noncomputable instance (p : Prices) : Decidable (VP p) := Classical.propDecidable _
/-- The fare for a number of zones. -/
noncomputable def SF (p : Prices) (c : Int) : Int × Bool := if VP p ∧ 1 ≤ c ∧ c ≤ 9 then (p.Zones.getD ((min c p.Zones.length) - 1).toNat 0, true) else (0, false)
theorem prc_at {p : Prices} (hv : VP p) {c : Int} (h1 : 1 ≤ c) : idx p.Zones ((min c p.Zones.length) - 1) = some (p.Zones.getD ((min c p.Zones.length) - 1).toNat 0) := by
  have := hv.len
  obtain ⟨x, x1, x2, _⟩ := idx_lt (l := p.Zones) (i := (min c p.Zones.length) - 1) (by omega) (by omega)
  rw [x1, List.getD_eq_getElem?_getD, x2]; rfl
theorem iSF_eq {p : Prices} (hp : p.Zones.length ≤ 1000) (c : Int) : i_SingleFare p c = some (SF p c) := by
  unfold i_SingleFare SF
  rw [arePrices_eq p hp]
  simp only [within_eq, Option.bind_some]
  by_cases hv : VP p
  · by_cases hc : 1 ≤ c ∧ c ≤ 9
    · have := hv.len
      have ew : w64 (min c (p.Zones.length : Int) - 1) = min c (p.Zones.length : Int) - 1 := w64_id (by omega)
      have e : (if (p.Zones.length : Int) < c then (p.Zones.length : Int) else c) - 1 = (min c p.Zones.length) - 1 := by split <;> omega
      simp only [hv, hc, and_self, decide_true, Bool.not_true, Bool.false_eq_true, if_false, if_true, e, ew, prc_at hv hc.1, Option.bind_some]
    · simp only [hv, hc, decide_true, decide_false, Bool.not_true, Bool.not_false, Bool.false_eq_true, if_false, if_true, Option.bind_some, and_false]
  · simp only [hv, decide_false, Bool.not_false, if_true, Option.bind_some, false_and, if_false]
theorem sSF_eq {p : Prices} (hp : p.Zones.length ≤ 1000) (c : Int) : s_SingleFare p c = some (SF p c) := by
  unfold s_SingleFare SF
  rw [l21Prices_eq p hp]
  simp only [l1In_eq, Option.bind_some]
  by_cases hv : VP p
  · by_cases hc : 1 ≤ c ∧ c ≤ 9
    · have := hv.len
      have ew : w64 (min c (p.Zones.length : Int) - 1) = min c (p.Zones.length : Int) - 1 := w64_id (by omega)
      have e : s_l1Least c (p.Zones.length : Int) = some (min c p.Zones.length) := by
        unfold s_l1Least
        by_cases h : c < (p.Zones.length : Int)
        · simp [h]; omega
        · simp [h]; omega
      simp only [hv, hc, and_self, decide_true, Bool.not_true, Bool.false_eq_true, if_false, if_true, e, ew, prc_at hv hc.1, Option.bind_some]
    · simp only [hv, hc, decide_true, decide_false, Bool.not_true, Bool.not_false, Bool.false_eq_true, if_false, if_true, Option.bind_some, and_false]
  · simp only [hv, decide_false, Bool.not_false, if_true, Option.bind_some, false_and, if_false]
theorem SF_mono {p : Prices} {c d : Int} (h1 : (SF p c).2 = true) (h2 : (SF p d).2 = true) (h : c ≤ d) : (SF p c).1 ≤ (SF p d).1 := by
  unfold SF at *
  by_cases hc : VP p ∧ 1 ≤ c ∧ c ≤ 9
  · by_cases hd : VP p ∧ 1 ≤ d ∧ d ≤ 9
    · rw [if_pos hc, if_pos hd]
      dsimp only
      have hv := hc.1
      have := hv.len
      obtain ⟨x, x1, x2, _⟩ := idx_lt (l := p.Zones) (i := (min c p.Zones.length) - 1) (by omega) (by omega)
      obtain ⟨y, y1, y2, _⟩ := idx_lt (l := p.Zones) (i := (min d p.Zones.length) - 1) (by omega) (by omega)
      rw [List.getD_eq_getElem?_getD, List.getD_eq_getElem?_getD, x2, y2]
      exact hv.srt.le (((min d p.Zones.length) - 1).toNat - ((min c p.Zones.length) - 1).toNat) _ x y x2 (by rw [show ((min c p.Zones.length) - 1).toNat + (((min d p.Zones.length) - 1).toNat - ((min c p.Zones.length) - 1).toNat) = ((min d p.Zones.length) - 1).toNat by omega]; exact y2)
    · rw [if_neg hd] at h2; cases h2
  · rw [if_neg hc] at h1; cases h1
/-- A leg of a journey. -/
def LegOK (n : Network) (l : List Int) : Prop := ∃ a b c e, Leg21 n l a b c e
/-- The zones that a leg touches. -/
noncomputable def lz (n : Network) (zones l : List Int) (s : Nat) : Nat := zset zones (match idx n.Lines (l.getD 0 0) with | some e => part21 e (l.getD 1 0) (l.getD 2 0) | none => []) s
theorem lz_eq {n : Network} {zones l : List Int} {a b c : Int} {e : Line} (h : Leg21 n l a b c e) (s : Nat) : lz n zones l s = zset zones (part21 e b c) s := by
  obtain ⟨rfl, h1, _⟩ := h
  unfold lz
  show zset zones (match idx n.Lines a with | some e => part21 e b c | none => []) s = _
  rw [h1]
noncomputable def jz (n : Network) (zones : List Int) (legs : List (List Int)) : Nat := legs.foldl (fun s l => lz n zones l s) 0
theorem jz_snoc (n : Network) (zones : List Int) (legs : List (List Int)) (l : List Int) : jz n zones (legs ++ [l]) = lz n zones l (jz n zones legs) := by unfold jz; rw [List.foldl_append]; rfl
theorem lz_bit {n : Network} {zones l : List Int} {a b c : Int} {e : Line} (h : Leg21 n l a b c e) (s k : Nat) : (lz n zones l s).testBit k = true ↔ s.testBit k = true ∨ (lz n zones l 0).testBit k = true := by
  rw [lz_eq h, lz_eq h, zset_bit, zset_bit]; simp
theorem zset_or {n : Network} (hg : Good n) {zones : List Int} (hz : ZonesP n zones) {l : List Int} {a b c : Int} {e : Line} (h : Leg21 n l a b c e) {s : Nat} (hs : s < 1024) : lz n zones l s < 1024 ∧ s ||| lz n zones l 0 = lz n zones l s := by
  obtain ⟨h0, h1, h2⟩ := id h
  refine ⟨by rw [lz_eq h]; exact zset_lt hz _ _ (part_stop hg h1) hs, ?_⟩
  apply Nat.eq_of_testBit_eq
  intro k
  rw [Nat.testBit_or, Bool.eq_iff_iff, Bool.or_eq_true]
  exact (lz_bit h s k).symm
theorem jz_ok {n : Network} (hg : Good n) {zones : List Int} (hz : ZonesP n zones) {legs : List (List Int)} (h : ∀ l ∈ legs, LegOK n l) : ∀ k, k ≤ legs.length → jz n zones (legs.take k) < 1024
  | 0, _ => by simp [jz]
  | k + 1, hk => by
    obtain ⟨l, hl⟩ := get_ex (l := legs) (i := k) (by omega)
    have ih := jz_ok hg hz h k (by omega)
    obtain ⟨a, b, c, e, hL⟩ := h l (List.mem_of_getElem? hl)
    rw [take_succ hl, jz_snoc]
    exact (zset_or hg hz hL ih).1
theorem jz_sub {n : Network} {zones : List Int} {k : Nat} : ∀ (legs : List (List Int)) (s : Nat), (∀ l ∈ legs, LegOK n l) → ((legs.foldl (fun s l => lz n zones l s) s).testBit k = true ↔ s.testBit k = true ∨ ∃ l ∈ legs, (lz n zones l 0).testBit k = true)
  | [], s, _ => by simp
  | l :: legs, s, h => by
    obtain ⟨a, b, c, e, hL⟩ := h l (List.mem_cons_self ..)
    rw [List.foldl_cons, jz_sub legs _ (fun x hx => h x (List.mem_cons_of_mem _ hx)), lz_bit hL]
    constructor
    · rintro ((q | q) | ⟨x, hx, q⟩)
      · exact .inl q
      · exact .inr ⟨l, List.mem_cons_self .., q⟩
      · exact .inr ⟨x, List.mem_cons_of_mem _ hx, q⟩
    · rintro (q | ⟨x, hx, q⟩)
      · exact .inl (.inl q)
      · rcases List.mem_cons.1 hx with rfl | hx
        · exact .inl (.inr q)
        · exact .inr ⟨x, hx, q⟩
noncomputable instance (n : Network) (l : List Int) : Decidable (LegOK n l) := Classical.propDecidable _
noncomputable instance (n : Network) (legs : List (List Int)) : Decidable (∀ l ∈ legs, LegOK n l) := Classical.propDecidable _
/-- The fare of a journey. -/
noncomputable def JF (n : Network) (zones : List Int) (p : Prices) (legs : List (List Int)) : Int × Bool :=
  if (Good n ∧ ZonesP n zones) ∧ legs.length ≤ 6 ∧ ∀ l ∈ legs, LegOK n l then SF p (cnt (jz n zones legs) : Nat) else (0, false)
theorem len3 {l : List Int} (h : l.length = 3) : ∃ a b c, l = [a, b, c] := by
  match l, h with
  | [a, b, c], _ => exact ⟨a, b, c, rfl⟩
theorem legOK_iff {n : Network} (a b c : Int) : LegOK n [a, b, c] ↔ ∃ e, Leg21 n [a, b, c] a b c e := by
  constructor
  · rintro ⟨a', b', c', e, h, q⟩
    cases h; exact ⟨e, rfl, q⟩
  · rintro ⟨e, h⟩; exact ⟨a, b, c, e, h⟩
theorem cnt_loop {z : Nat} (hz : z < 1024) : iter (i_JourneyFare_L2 (z : Int)) ((0 : Int), (0 : Int)) = some ((cnt z : Nat) : Int) := by
  refine Tot.val (Tot.iter (fun m s => ∃ k : Nat, s.2 = (k : Int) ∧ m + k = 10 ∧ s.1 = ((((List.range k).filter fun i => z.testBit i).length : Nat) : Int)) (n := 10) ⟨0, rfl, rfl, rfl⟩ ?_)
  rintro m ⟨v, w⟩ ⟨k, hw, hm, hv⟩
  simp only at hw hv
  subst hw; subst hv
  unfold i_JourneyFare_L2
  refine .iteP (fun hc => ?_) (fun hc => .dn (by unfold cnt; rw [show k = 10 by omega]))
  refine .chk (by omega) (.nx ⟨m - 1, by omega, k + 1, w64_succ (by omega), by omega, ?_⟩)
  dsimp only
  have hl : ((List.range k).filter fun i => z.testBit i).length ≤ k := Nat.le_trans (List.length_filter_le _ _) (by simp)
  rw [bit64 hz (by omega), List.range_succ, List.filter_append, List.length_append]
  by_cases hb : z.testBit k = true
  · simp only [hb, if_true]
    rw [w64_id (by omega)]; simp [hb]
  · simp only [hb, Bool.false_eq_true, if_false]
    rw [w64_id (by omega)]; simp [hb]
theorem iJF_eq {n : Network} (hb : Bd n) {zones : List Int} (hl : zones.length ≤ 2000) {p : Prices} (hp : p.Zones.length ≤ 1000) (legs : List (List Int)) (hll : legs.length ≤ 1000) : i_JourneyFare n zones p legs = some (JF n zones p legs) := by
  unfold i_JourneyFare
  rw [validZ_eq hb hl]
  by_cases hv : Good n ∧ ZonesP n zones
  · by_cases h6 : legs.length ≤ 6
    · have d6 : decide ((6 : Int) < (legs.length : Int)) = false := by simp; omega
      simp only [hv, and_self, decide_true, Bool.not_true, Bool.false_eq_true, if_false, Option.bind_some, d6]
      refine Tot.val (.flb ((Tot.iter (fun m s => ∃ k : Nat, s.2 = (k : Int) ∧ m + k = legs.length ∧ (∀ (i : Nat) l, i < k → legs[i]? = some l → LegOK n l) ∧ s.1 = ((jz n zones (legs.take k) : Nat) : Int)) (Q := fun x => (x = .go ((jz n zones legs : Nat) : Int) ∧ ∀ l ∈ legs, LegOK n l) ∨ (x = .ret (0, false) ∧ ¬ ∀ l ∈ legs, LegOK n l)) (n := legs.length) ⟨0, rfl, by omega, fun i l h => by omega, rfl⟩ ?_).mono fun x hx => ?_))
      · rintro m ⟨v, w⟩ ⟨k, hw, hm, hok, hv2⟩
        simp only at hw hv2
        subst hw; subst hv2
        unfold i_JourneyFare_L1
        refine .iteP (fun hc => ?_) (fun hc => .dn (.inl ⟨by rw [List.take_of_length_le (by omega)], fun l hl => by
          obtain ⟨i, hi⟩ := List.getElem?_of_mem hl
          exact hok i l (by have := get_lt hi; omega) hi⟩))
        obtain ⟨l, hl1⟩ := get_ex (l := legs) (i := k) (by omega)
        have hok' : ∀ l' ∈ legs.take k, LegOK n l' := fun l' h' => by
          obtain ⟨i, hi⟩ := List.getElem?_of_mem h'
          have hik : i < k := by have := get_lt hi; rw [List.length_take] at this; omega
          rw [List.getElem?_take_of_lt hik] at hi
          exact hok i l' hik hi
        have hlt : jz n zones (legs.take k) < 1024 := by
          have := jz_ok hv.1 hv.2 hok' k (by rw [List.length_take]; omega)
          rwa [List.take_take, Nat.min_self] at this
        refine .eq (ixs hl1) (.call (P := fun b => (b = false → LegOK n l) ∧ (b = true → ¬ LegOK n l)) ?_ fun b hb2 => .ite (fun ht => .dn (.inr ⟨rfl, fun hall => hb2.2 ht (hall l (List.mem_of_getElem? hl1))⟩)) (fun hf => ?_))
        · by_cases h3 : l.length = 3
          · obtain ⟨a, b, c, rfl⟩ := len3 h3
            refine .ite (fun h => by simp at h) (fun _ => .eq (by rfl) (.eq (by rfl) (.eq (by rfl) (.eq (arePl_eq a b c) (.ok ⟨fun h => ?_, fun h => ?_⟩)))))
            · rw [legOK_iff]; simpa using h
            · rw [legOK_iff]; simpa using h
          · refine .ite (fun _ => .ok ⟨fun h => (by cases h), fun _ => ?_⟩) (fun h => by simp at h; omega)
            rintro ⟨a, b, c, e, rfl, _⟩
            exact h3 rfl
        · obtain ⟨a, b, c, e, hL⟩ := hb2.1 hf
          obtain ⟨rfl, hL'⟩ := id hL
          have hz0 := zset_or hv.1 hv.2 hL (s := 0) (by omega)
          have hz1 := zset_or hv.1 hv.2 hL hlt
          have ht := touched_ok hv.1 hv.2 hL
          rw [← lz_eq hL] at ht
          refine .eq (by rfl) (.eq (by rfl) (.eq (by rfl) (.eq ht (.nx ⟨m - 1, by omega, k + 1, w64_succ (by omega), by omega, fun i l' hi hl' => ?_, ?_⟩))))
          · by_cases hik : i = k
            · subst hik; rw [hl1] at hl'; cases hl'; exact ⟨a, b, c, e, hL⟩
            · exact hok i l' (by omega) hl'
          · dsimp only
            rw [(or64 hlt hz0.1).1, take_succ hl1, jz_snoc, hz1.2]
      · rcases hx with ⟨rfl, hok⟩ | ⟨rfl, hno⟩
        · refine ⟨fun r e => (by cases e), fun u hu => ?_⟩
          cases hu
          have hlt := jz_ok hv.1 hv.2 hok legs.length (Nat.le_refl _)
          rw [List.take_length] at hlt
          refine .eq (cnt_loop hlt) (.eq (iSF_eq hp _) (.ok ?_))
          unfold JF
          rw [if_pos ⟨hv, h6, hok⟩]
        · refine ⟨fun r e => ?_, fun u hu => by cases hu⟩
          cases e
          unfold JF
          rw [if_neg (fun h => hno h.2.2)]
    · have d6 : decide ((6 : Int) < (legs.length : Int)) = true := by simp; omega
      simp only [hv, and_self, decide_true, Bool.not_true, Bool.false_eq_true, if_false, if_true, Option.bind_some, d6]
      unfold JF
      rw [if_neg (fun h => h6 h.2.1)]
  · simp only [hv, decide_false, Bool.not_false, if_true, Option.bind_some]
    unfold JF
    rw [if_neg (fun h => hv h.1)]
/-! The reference's fares; touched zones. -/
theorem sJF_eq {n : Network} (hb : Bd n) {zones : List Int} (hl : zones.length ≤ 2000) {p : Prices} (hp : p.Zones.length ≤ 1000) (legs : List (List Int)) (hll : legs.length ≤ 1000) : s_JourneyFare n zones p legs = some (JF n zones p legs) := by
  unfold s_JourneyFare
  rw [l21Zones_eq hb hl]
  simp only [l1In_eq, Option.bind_some]
  by_cases hv : Good n ∧ ZonesP n zones
  · by_cases h6 : 1 ≤ (legs.length : Int) ∧ (legs.length : Int) ≤ 6
    · simp only [hv, h6, and_self, decide_true, Bool.not_true, Bool.false_eq_true, if_false, Option.bind_some]
      refine Tot.val (.flb ((Tot.iter (fun m s => ∃ k : Nat, s.2 = (k : Int) ∧ m + k = legs.length ∧ (∀ (i : Nat) l, i < k → legs[i]? = some l → LegOK n l) ∧ SL (jz n zones (legs.take k)) s.1) (Q := fun x => (∃ l, x = .go l ∧ SL (jz n zones legs) l ∧ ∀ l ∈ legs, LegOK n l) ∨ (x = .ret (0, false) ∧ ¬ ∀ l ∈ legs, LegOK n l)) (n := legs.length) ⟨0, rfl, by omega, fun i l h => by omega, show SL (jz n zones (legs.take 0)) ([] : List Int) from SL_nil⟩ ?_).mono fun x hx => ?_))
      · rintro m ⟨v, w⟩ ⟨k, hw, hm, hok, hs⟩
        simp only at hw hs
        subst hw
        unfold s_JourneyFare_L1
        refine .iteP (fun hc => ?_) (fun hc => .dn (.inl ⟨v, rfl, by rw [List.take_of_length_le (by omega)] at hs; exact hs, fun l hl => by
          obtain ⟨i, hi⟩ := List.getElem?_of_mem hl
          exact hok i l (by have := get_lt hi; omega) hi⟩))
        obtain ⟨l, hl1⟩ := get_ex (l := legs) (i := k) (by omega)
        have hok' : ∀ l' ∈ legs.take k, LegOK n l' := fun l' h' => by
          obtain ⟨i, hi⟩ := List.getElem?_of_mem h'
          have hik : i < k := by have := get_lt hi; rw [List.length_take] at this; omega
          rw [List.getElem?_take_of_lt hik] at hi
          exact hok i l' hik hi
        have hlt : jz n zones (legs.take k) < 1024 := by
          have := jz_ok hv.1 hv.2 hok' k (by rw [List.length_take]; omega)
          rwa [List.take_take, Nat.min_self] at this
        have hi := ixs hl1
        refine .eq hi ?_
        by_cases h3 : l.length = 3
        · obtain ⟨a, b, c, rfl⟩ := len3 h3
          refine .ite (fun h => by simp at h) (fun _ => .eq hi (.eq (by rfl) (.eq hi (.eq (by rfl) (.eq hi (.eq (by rfl) ?_))))))
          rcases l21Touched_ok hv.1 hv.2 a b c hlt hs with ⟨e, hL, ht⟩ | ⟨hno, ht⟩
          · refine .call ht fun r ⟨r1, r2⟩ => .ite (fun h => by rw [r1] at h; cases h) (fun _ => .nx ⟨m - 1, by omega, k + 1, w64_succ (by omega), by omega, fun i l' hi hl' => ?_, ?_⟩)
            · by_cases hik : i = k
              · subst hik; rw [hl1] at hl'; cases hl'; exact ⟨a, b, c, e, hL⟩
              · exact hok i l' (by omega) hl'
            · dsimp only
              rw [take_succ hl1, jz_snoc, lz_eq hL]; exact r2
          · refine .eq ht (.ite (fun _ => .dn (.inr ⟨rfl, fun hall => hno ((legOK_iff a b c).1 (hall _ (List.mem_of_getElem? hl1)))⟩)) (fun h => by cases h))
        · refine .ite (fun _ => .dn (.inr ⟨rfl, fun hall => ?_⟩)) (fun h => by simp at h; omega)
          obtain ⟨a, b, c, e, rfl, _⟩ := hall l (List.mem_of_getElem? hl1)
          exact h3 rfl
      · rcases hx with ⟨l, rfl, hs, hok⟩ | ⟨rfl, hno⟩
        · refine ⟨fun r e => (by cases e), fun u hu => ?_⟩
          cases hu
          have hlt := jz_ok hv.1 hv.2 hok legs.length (Nat.le_refl _)
          rw [List.take_length] at hlt
          refine .eq (sSF_eq hp _) (.ok ?_)
          unfold JF
          rw [if_pos ⟨hv, by omega, hok⟩, SL_len hlt hs]
        · refine ⟨fun r e => ?_, fun u hu => by cases hu⟩
          cases e
          unfold JF
          rw [if_neg (fun h => hno h.2.2)]
    · simp only [hv, h6, and_self, decide_true, decide_false, Bool.not_true, Bool.not_false, Bool.false_eq_true, if_false, if_true, Option.bind_some]
      unfold JF
      by_cases h0 : legs = []
      · subst h0
        have e0 : cnt (jz n zones []) = 0 := (by show cnt 0 = 0; decide)
        split
        · rw [e0]; unfold SF; simp
        · rfl
      · rw [if_neg (fun h => h6 (by have := List.length_pos_iff.2 h0; omega))]
  · simp only [hv, decide_false, Bool.not_false, if_true, Option.bind_some]
    unfold JF
    rw [if_neg (fun h => hv h.1)]
/-- The zones that are told are zones of stops. -/
theorem ztw_ok {n : Network} (hb : Bd n) {zones : List Int} (hl : zones.length ≤ 2000) (hg : Good n) (hz : ZonesP n zones) {a b c : Int} {e : Line} (hL : Leg21 n [a, b, c] a b c e) : Tot (i_ZonesTouched_w n zones a b c) fun r => r.2 = true ∧ r.1.length ≤ 10 ∧ ∀ x ∈ r.1, x ∈ zones := by
  have hv : Good n ∧ ZonesP n zones := ⟨hg, hz⟩
  have hex : ∃ e, Leg21 n [a, b, c] a b c e := ⟨e, hL⟩
  obtain ⟨_, h1, h2, h3, h4⟩ := id hL
  have hst := part_stop (b := b) (c := c) hg h1
  have hlt := zset_lt hz (part21 e b c) 0 hst (by omega)
  unfold i_ZonesTouched_w
  rw [validZ_eq hb hl]
  simp only [hv, hex, and_self, decide_true, Bool.not_true, Bool.false_eq_true, if_false, Option.bind_some, arePl_eq, touched_ok hg hz hL]
  refine .call (P := fun o => o.length ≤ 9 ∧ ∀ x ∈ o, x ∈ zones) ?_ fun o ho => .ok ⟨rfl, by dsimp only; omega, ho.2⟩
  refine Tot.iter (fun m s => ∃ k : Nat, s.1 = (k : Int) ∧ 1 ≤ k ∧ m + k = 10 ∧ s.2.length + 1 ≤ k ∧ ∀ x ∈ s.2, x ∈ zones) (n := 9) ⟨1, rfl, by omega, rfl, by simp, by simp⟩ ?_
  rintro m ⟨v, o⟩ ⟨k, hv, hk1, hm, hol, ho⟩
  simp only at hv hol ho
  subst hv
  unfold i_ZonesTouched_w_L1
  refine .iteP (fun hc => ?_) (fun hc => .dn ⟨by omega, ho⟩)
  refine .call (P := fun r => r.length + 1 ≤ k + 1 ∧ ∀ x ∈ r, x ∈ zones) ?_ fun r hr => .nx ⟨m - 1, by omega, k + 1, w64_succ (by omega), by omega, by omega, hr.1, hr.2⟩
  refine .chk (by omega) ?_
  rw [bit64 hlt (by omega)]
  refine .ite (fun hb => .chk (by simp; omega) (.ok ⟨by simp; omega, fun x hx => ?_⟩)) (fun _ => .ok ⟨by omega, ho⟩)
  rcases List.mem_append.1 hx with hx | hx
  · exact ho x hx
  · have : x = (k : Int) := by simpa using hx
    subst this
    have hb' : (zset zones (part21 e b c) 0).testBit k = true := by
      by_cases h : (zset zones (part21 e b c) 0).testBit k = true
      · exact h
      · rw [if_neg h] at hb; cases hb
    rw [zset_bit] at hb'
    rcases hb' with h | ⟨s, hs, h⟩
    · simp at h
    · obtain ⟨z, _, z2, z3, z4, z5⟩ := zone_at hz (hst s hs).1 (hst s hs).2
      rw [z2] at h
      rw [show (k : Int) = z by omega]; exact z5
theorem rHas_true {l : List Int} (hl : l.length ≤ 100000) {x : Int} (hx : x ∈ l) : v_rHas l x = some true := by
  unfold v_rHas
  rw [find_loop l (fun e => e == x) (fun _ => true) (fun i y hy => ?_) (by unfold v_rHas_L1; simp)]
  · cases hf : l.findIdx? (fun e => e == x) with
    | none =>
      have := List.findIdx?_eq_none_iff.1 hf x hx
      simp at this
    | some i => simp
  · have hi := get_lt hy
    unfold v_rHas_L1
    have hlt : decide ((i : Int) < (l.length : Int)) = true := by simp; omega
    simp only [hlt, if_true, idx_nat, hy, Option.bind_some, w64_succ (n := i) (by omega)]
    split <;> rfl
/-- A leg alone never costs more. -/
theorem JF_one {n : Network} {zones : List Int} {p : Prices} {legs : List (List Int)} (hok : (JF n zones p legs).2 = true) {i : Nat} {l : List Int} (hl : legs[i]? = some l) : (Good n ∧ ZonesP n zones) ∧ LegOK n l ∧ ((JF n zones p [l]).2 = true ∧ (JF n zones p [l]).1 ≤ (JF n zones p legs).1) := by
  unfold JF at hok ⊢
  by_cases h : (Good n ∧ ZonesP n zones) ∧ legs.length ≤ 6 ∧ ∀ l ∈ legs, LegOK n l
  · rw [if_pos h] at hok ⊢
    obtain ⟨hv, h6, hall⟩ := h
    have hL := hall l (List.mem_of_getElem? hl)
    have h1 : (Good n ∧ ZonesP n zones) ∧ [l].length ≤ 6 ∧ ∀ l' ∈ [l], LegOK n l' := ⟨hv, by simp, fun l' h' => by
      have : l' = l := by simpa using h'
      subst this; exact hL⟩
    rw [if_pos h1]
    refine ⟨hv, hL, ?_⟩
    have hsub : cnt (jz n zones [l]) ≤ cnt (jz n zones legs) := cnt_mono fun k hk => by
      have e1 := (jz_sub (n := n) (zones := zones) (k := k) [l] 0 h1.2.2).1 hk
      exact (jz_sub (n := n) (zones := zones) (k := k) legs 0 hall).2 (e1.imp id fun ⟨x, hx, q⟩ => ⟨x, by
        have : x = l := by simpa using hx
        subst this; exact List.mem_of_getElem? hl, q⟩)
    have hpos : 1 ≤ cnt (jz n zones [l]) := by
      obtain ⟨a, b, c, e, hL'⟩ := hL
      obtain ⟨rfl, q1, q2, q3, q4⟩ := id hL'
      obtain ⟨s, s1, _⟩ := part_at q2 q3 q4 (k := 0) (by omega)
      have hs := part_stop hv.1 q1 s (List.mem_of_getElem? s1)
      obtain ⟨z, _, z2, z3, z4, _⟩ := zone_at hv.2 hs.1 hs.2
      have hbit : (jz n zones [[a, b, c]]).testBit z.toNat = true := by
        show (lz n zones [a, b, c] 0).testBit z.toNat = true
        rw [lz_eq hL', zset_bit]
        exact .inr ⟨s, List.mem_of_getElem? s1, by rw [z2]⟩
      unfold cnt
      exact List.length_pos_iff.2 (List.ne_nil_of_mem (List.mem_filter.2 ⟨List.mem_range.2 (by omega), hbit⟩))
    have h2 : (SF p (cnt (jz n zones [l]) : Nat)).2 = true := by
      unfold SF at hok ⊢
      by_cases hc : VP p ∧ 1 ≤ ((cnt (jz n zones legs) : Nat) : Int) ∧ ((cnt (jz n zones legs) : Nat) : Int) ≤ 9
      · rw [if_pos ⟨hc.1, by omega, by omega⟩]
      · rw [if_neg hc] at hok; cases hok
    exact ⟨h2, SF_mono h2 hok (by omega)⟩
  · rw [if_neg h] at hok; cases hok
/-! Dividing revenue: the greatest remainders first. -/
def rng (n : Nat) : List Int := (List.range n).map fun k : Nat => (k : Int)
theorem rng_succ (n : Nat) : rng (n + 1) = rng n ++ [(n : Int)] := by unfold rng; rw [List.range_succ, List.map_append]; rfl
theorem rng_len (n : Nat) : (rng n).length = n := by simp [rng]
theorem rng_mem {n : Nat} {x : Int} : x ∈ rng n ↔ 0 ≤ x ∧ x < (n : Int) := by
  unfold rng
  rw [List.mem_map]
  constructor
  · rintro ⟨k, hk, rfl⟩; have := List.mem_range.1 hk; omega
  · rintro ⟨h0, h1⟩; exact ⟨x.toNat, List.mem_range.2 (by omega), by omega⟩
theorem rng_nodup (n : Nat) : (rng n).Nodup := by
  unfold rng
  rw [List.Nodup, List.pairwise_map]
  exact (List.nodup_range (n := n)).imp fun hab hc => hab (by omega)
theorem insE_congr {lt lt' : Int → Int → Bool} {x : Int} : ∀ (n : Nat) {o : List Int}, o.length = n → (∀ y ∈ o, lt x y = lt' x y) → Pdq.insE lt x o = Pdq.insE lt' x o
  | 0, o, hn, _ => by
    have : o = [] := List.length_eq_zero_iff.1 hn
    subst this; rfl
  | n + 1, o, hn, h => by
    obtain ⟨p, y, rfl⟩ := Pdq.snoc_ex (l := o) (by omega)
    rw [Pdq.insE_snoc, Pdq.insE_snoc, h y (by simp), insE_congr n (o := p) (by simpa using hn) fun z hz => h z (by simp [hz])]
section
variable (R : Int → Int)
def rLt (a b : Int) : Bool := decide (R b < R a)
def rLx (a b : Int) : Bool := decide (R b < R a ∨ (R a = R b ∧ a < b))
theorem isort_rng : ∀ n, Pdq.isort (rLt R) (rng n) = Pdq.isort (rLx R) (rng n)
  | 0 => rfl
  | n + 1 => by
    rw [rng_succ, Pdq.isort_snoc, Pdq.isort_snoc, isort_rng n]
    refine insE_congr _ rfl fun y hy => ?_
    have hy := (rng_mem.1 ((Pdq.isort_perm _).mem_iff.1 hy)).2
    unfold rLt rLx
    rw [decide_eq_decide]
    constructor
    · exact .inl
    · rintro (h | h)
      · exact h
      · omega
/-- The order of the remainders. -/
def rord (n : Nat) : List Int := Pdq.isort (rLt R) (rng n)
theorem rord_len (n : Nat) : (rord R n).length = n := by unfold rord; rw [Pdq.isort_len, rng_len]
theorem rord_mem {n : Nat} {x : Int} : x ∈ rord R n ↔ 0 ≤ x ∧ x < (n : Int) := by unfold rord; rw [(Pdq.isort_perm _).mem_iff, rng_mem]
theorem rord_nodup (n : Nat) : (rord R n).Nodup := by unfold rord; exact (Pdq.isort_perm _).nodup_iff.2 (rng_nodup n)
theorem rord_pw (n : Nat) : (rord R n).Pairwise fun a b => R b ≤ R a ∧ (R a = R b → a ≤ b) := by
  have h := Pdq.isort_sorted (lt := rLx R) (fun a b c h1 h2 => by
    unfold rLx at *
    rw [decide_eq_false_iff_not] at *
    omega) (fun a b h => by
    unfold rLx at *
    rw [decide_eq_true_iff] at h
    rw [decide_eq_false_iff_not]
    omega) (rng n)
  unfold rord
  rw [isort_rng]
  exact h.imp fun {a b} hab => by
    unfold rLx at hab
    rw [decide_eq_false_iff_not] at hab
    omega
end
theorem nodup_at {l : List Int} (h : l.Nodup) {i j : Nat} {x : Int} (hi : l[i]? = some x) (hj : l[j]? = some x) : i = j := by
  obtain ⟨h1, e1⟩ := List.getElem?_eq_some_iff.1 hi
  obtain ⟨h2, e2⟩ := List.getElem?_eq_some_iff.1 hj
  rcases Nat.lt_trichotomy i j with c | c | c
  · exact absurd (e1.trans e2.symm) (List.pairwise_iff_getElem.1 h i j h1 h2 c)
  · exact c
  · exact absurd (e2.trans e1.symm) (List.pairwise_iff_getElem.1 h j i h2 h1 c)
/-- One more for each. -/
def incs (F : List Int) (o : List Int) : List Int := o.foldl (fun a x => a.set x.toNat (a.getD x.toNat 0 + 1)) F
def negs (F : List Int) (o : List Int) : List Int := o.foldl (fun a x => a.set x.toNat (-1)) F
theorem incs_snoc (F o : List Int) (x : Int) : incs F (o ++ [x]) = (incs F o).set x.toNat ((incs F o).getD x.toNat 0 + 1) := by unfold incs; rw [List.foldl_append]; rfl
theorem negs_snoc (F o : List Int) (x : Int) : negs F (o ++ [x]) = (negs F o).set x.toNat (-1) := by unfold negs; rw [List.foldl_append]; rfl
theorem incs_len (F : List Int) : ∀ (n : Nat) (o : List Int), o.length = n → (incs F o).length = F.length
  | 0, o, h => by
    have : o = [] := List.length_eq_zero_iff.1 h
    subst this; rfl
  | n + 1, o, h => by
    obtain ⟨p, y, rfl⟩ := Pdq.snoc_ex (l := o) (by omega)
    rw [incs_snoc, List.length_set, incs_len F n p (by simpa using h)]
theorem negs_at (F : List Int) : ∀ (n : Nat) (o : List Int), o.length = n → (∀ x ∈ o, 0 ≤ x ∧ x < (F.length : Int)) → (negs F o).length = F.length ∧ ∀ j, j < F.length → (negs F o)[j]? = if (j : Int) ∈ o then some (-1) else F[j]?
  | 0, o, h, _ => by
    have : o = [] := List.length_eq_zero_iff.1 h
    subst this
    exact ⟨rfl, fun j _ => by simp [negs]⟩
  | n + 1, o, h, hb => by
    obtain ⟨p, y, rfl⟩ := Pdq.snoc_ex (l := o) (by omega)
    obtain ⟨h1, h2⟩ := negs_at F n p (by simpa using h) fun x hx => hb x (by simp [hx])
    have hy := hb y (by simp)
    rw [negs_snoc]
    refine ⟨by rw [List.length_set]; exact h1, fun j hj => ?_⟩
    by_cases c : (j : Int) = y
    · subst c
      rw [Int.toNat_natCast, List.getElem?_set_self (by omega)]; simp
    · rw [List.getElem?_set_ne (by omega), h2 j hj]
      have : (j : Int) ∈ p ++ [y] ↔ (j : Int) ∈ p := by simp [c]
      simp only [this]
theorem sum_set1 : ∀ {l : List Int} {i : Nat} {x : Int} (y : Int), l[i]? = some x → (l.set i y).sum = l.sum - x + y
  | [], i, x, y, h => by simp at h
  | a :: l, 0, x, y, h => by
    simp at h; subst h
    simp only [List.set_cons_zero, List.sum_cons]; omega
  | a :: l, i + 1, x, y, h => by
    have ih := sum_set1 (l := l) (i := i) y (by simpa using h)
    simp only [List.set_cons_succ, List.sum_cons, ih]; omega
theorem incs_ok {F : List Int} {B : Int} (hF : ∀ x ∈ F, 0 ≤ x ∧ x ≤ B) : ∀ (n : Nat) (o : List Int), o.length = n → (∀ x ∈ o, 0 ≤ x ∧ x < (F.length : Int)) → (incs F o).sum = F.sum + n ∧ ∀ x ∈ incs F o, 0 ≤ x ∧ x ≤ B + n
  | 0, o, h, _ => by
    have : o = [] := List.length_eq_zero_iff.1 h
    subst this
    exact ⟨by simp [incs], fun x hx => by have := hF x hx; omega⟩
  | n + 1, o, h, hb => by
    obtain ⟨p, y, rfl⟩ := Pdq.snoc_ex (l := o) (by omega)
    obtain ⟨h1, h2⟩ := incs_ok hF n p (by simpa using h) fun x hx => hb x (by simp [hx])
    have hy := hb y (by simp)
    have hl := incs_len F p.length p rfl
    obtain ⟨z, hz⟩ := get_ex (l := incs F p) (i := y.toNat) (by omega)
    have hzb := h2 z (List.mem_of_getElem? hz)
    have hD : (incs F p).getD y.toNat 0 = z := by rw [List.getD_eq_getElem?_getD, hz]; rfl
    rw [incs_snoc, hD]
    refine ⟨by rw [sum_set1 _ hz, h1]; omega, fun x hx => ?_⟩
    rcases List.mem_or_eq_of_mem_set hx with hx | rfl
    · have := h2 x hx; omega
    · omega
/-- The first greatest. -/
theorem argmax_ok {l : List Int} (h1 : 1 ≤ l.length) (hl : l.length ≤ 1000) : Tot (iter (s_SplitRevenue_L3 l) ((0 : Int), (1 : Int))) fun b => ∃ (k : Nat) (x : Int), b = (k : Int) ∧ l[k]? = some x ∧ ∀ (j : Nat) y, l[j]? = some y → y ≤ x ∧ (j < k → y < x) := by
  obtain ⟨x0, hx0⟩ := get_ex (l := l) (i := 0) (by omega)
  refine Tot.iter (fun m s => ∃ (i k : Nat) (x : Int), s.2 = (i : Int) ∧ m + i = l.length ∧ s.1 = (k : Int) ∧ k < i ∧ l[k]? = some x ∧ ∀ (j : Nat) y, j < i → l[j]? = some y → y ≤ x ∧ (j < k → y < x)) (n := l.length - 1) ⟨1, 0, x0, rfl, by omega, rfl, by omega, hx0, fun j y hj hy => ?_⟩ ?_
  · have : j = 0 := by omega
    subst this; rw [hx0] at hy; cases hy; omega
  · rintro m ⟨v, w⟩ ⟨i, k, x, hw, hm, hv, hki, hx, hall⟩
    simp only at hw hv
    subst hw; subst hv
    unfold s_SplitRevenue_L3
    refine .iteP (fun hc => ?_) (fun hc => .dn ⟨k, x, rfl, hx, fun j y hy => hall j y (by have := get_lt hy; omega) hy⟩)
    obtain ⟨z, hz⟩ := get_ex (l := l) (i := i) (by omega)
    refine .call (P := fun o => ∃ (k' : Nat) (x' : Int), o = (k' : Int) ∧ k' < i + 1 ∧ l[k']? = some x' ∧ ∀ (j : Nat) y, j < i + 1 → l[j]? = some y → y ≤ x' ∧ (j < k' → y < x')) (.eq (ixs hz) (.eq (ixs hx) (.iteP (fun h => .ok ⟨i, z, rfl, by omega, hz, fun j y hj hy => ?_⟩) (fun h => .ok ⟨k, x, rfl, by omega, hx, fun j y hj hy => ?_⟩)))) fun o ⟨k', x', ho, hk', hx', hall'⟩ => .nx ⟨m - 1, by omega, i + 1, k', x', w64_succ (by omega), by omega, ho, hk', hx', hall'⟩
    · by_cases hji : j = i
      · subst hji; rw [hz] at hy; cases hy; omega
      · have := hall j y (by omega) hy; omega
    · by_cases hji : j = i
      · subst hji; rw [hz] at hy; cases hy; omega
      · exact hall j y (by omega) hy
/-- Of what is left the first greatest is the next in the order. -/
theorem next_max {R : Int → Int} {Rl : List Int} (hR : ∀ (j : Nat) x, Rl[j]? = some x → x = R (j : Int) ∧ 0 ≤ x) {k : Nat} (hk : k < Rl.length) (hl : Rl.length ≤ 1000) {x : Int} (hx : (rord R Rl.length)[k]? = some x) : iter (s_SplitRevenue_L3 (negs Rl ((rord R Rl.length).take k))) ((0 : Int), (1 : Int)) = some x := by
  have hn := rord_nodup R Rl.length
  have hmem : ∀ y ∈ (rord R Rl.length).take k, 0 ≤ y ∧ y < (Rl.length : Int) := fun y hy => (rord_mem R).1 (List.mem_of_mem_take hy)
  obtain ⟨n1, n2⟩ := negs_at Rl _ ((rord R Rl.length).take k) rfl hmem
  obtain ⟨b, hb, kb, xb, rfl, hxb, hall⟩ := argmax_ok (l := negs Rl ((rord R Rl.length).take k)) (by omega) (by omega)
  rw [hb]
  congr 1
  have hkb : kb < Rl.length := by have := get_lt hxb; omega
  have hx0 := (rord_mem R).1 (List.mem_of_getElem? hx)
  have hnot : x ∉ (rord R Rl.length).take k := fun h => by
    obtain ⟨i, hi⟩ := List.getElem?_of_mem h
    have hik : i < k := by have := get_lt hi; rw [List.length_take] at this; omega
    rw [List.getElem?_take_of_lt hik] at hi
    have := nodup_at hn hi hx; omega
  obtain ⟨rx, hrx⟩ := get_ex (l := Rl) (i := x.toNat) (by omega)
  have e1 := hR x.toNat rx hrx
  rw [show ((x.toNat : Nat) : Int) = x by omega] at e1
  have hval : (negs Rl ((rord R Rl.length).take k))[x.toNat]? = some rx := by
    rw [n2 x.toNat (by omega), if_neg (by rw [show ((x.toNat : Nat) : Int) = x by omega]; exact hnot), hrx]
  have hmax := hall x.toNat rx hval
  have hbv := n2 kb hkb
  by_cases hin : (kb : Int) ∈ (rord R Rl.length).take k
  · rw [if_pos hin, hxb] at hbv
    cases hbv; omega
  · rw [if_neg hin, hxb] at hbv
    have e2 := hR kb xb hbv.symm
    have hbm : (kb : Int) ∈ rord R Rl.length := (rord_mem R).2 ⟨by omega, by omega⟩
    obtain ⟨j, hj⟩ := List.getElem?_of_mem hbm
    have hjk : k ≤ j := by
      rcases Nat.lt_or_ge j k with h | h
      · exact absurd (List.mem_of_getElem? (by rw [List.getElem?_take_of_lt h]; exact hj)) hin
      · exact h
    by_cases hjk2 : j = k
    · subst hjk2; rw [hx] at hj; cases hj; rfl
    · obtain ⟨q1, q2⟩ := List.getElem?_eq_some_iff.1 hx
      obtain ⟨q3, q4⟩ := List.getElem?_eq_some_iff.1 hj
      have hp := List.pairwise_iff_getElem.1 (rord_pw R Rl.length) k j q1 q3 (by omega)
      rw [q2, q4] at hp
      have hm2 := hmax.2
      have := hmax.1
      have h5 : x ≤ (kb : Int) := hp.2 (by omega)
      by_cases h6 : x = (kb : Int)
      · exact h6.symm
      · have := hm2 (by omega); omega
/-! Dividing revenue: both programs. -/
def Fq (A S m : Int) : Int := (A * m).tdiv S
def Rq (A S m : Int) : Int := (A * m).tmod S
theorem mem_le_sum : ∀ {l : List Int} {x : Int}, x ∈ l → (∀ y ∈ l, 0 ≤ y) → x ≤ l.sum
  | [], x, h, _ => by simp at h
  | a :: l, x, h, hn => by
    have h0 := sum_nonneg (l := l) fun y hy => hn y (List.mem_cons_of_mem _ hy)
    rw [List.sum_cons]
    rcases List.mem_cons.1 h with rfl | h
    · omega
    · have := mem_le_sum h fun y hy => hn y (List.mem_cons_of_mem _ hy)
      have := hn a (List.mem_cons_self ..)
      omega
theorem qr_ok {A S m : Int} (hA : 0 ≤ A ∧ A ≤ 1000000) (hm : 0 ≤ m ∧ m ≤ 10000) (hS : 0 < S) (hmS : m ≤ S) : (0 ≤ A * m ∧ A * m ≤ 10000000000) ∧ (0 ≤ Fq A S m ∧ Fq A S m ≤ A) ∧ (0 ≤ Rq A S m ∧ Rq A S m < S) ∧ S * Fq A S m + Rq A S m = A * m := by
  have h0 : 0 ≤ A * m := Int.mul_nonneg hA.1 hm.1
  have h1 : A * m ≤ 1000000 * 10000 := Int.mul_le_mul hA.2 hm.2 hm.1 (by omega)
  have h2 : A * m ≤ A * S := Int.mul_le_mul_of_nonneg_left hmS hA.1
  unfold Fq Rq
  rw [Int.tdiv_eq_ediv_of_nonneg h0, Int.tmod_eq_emod_of_nonneg h0]
  refine ⟨⟨h0, by omega⟩, ⟨Int.ediv_nonneg h0 (by omega), Int.ediv_le_of_le_mul hS h2⟩, ⟨Int.emod_nonneg _ (by omega), Int.emod_lt_of_pos _ hS⟩, Int.mul_ediv_add_emod _ _⟩
theorem qr_sum {A S : Int} (hA : 0 ≤ A ∧ A ≤ 1000000) (hS : 0 < S) : ∀ (l : List Int), (∀ m ∈ l, (0 ≤ m ∧ m ≤ 10000) ∧ m ≤ S) → S * (l.map (Fq A S)).sum + (l.map (Rq A S)).sum = A * l.sum
  | [], _ => by simp
  | m :: l, h => by
    have ih := qr_sum hA hS l fun x hx => h x (List.mem_cons_of_mem _ hx)
    have hq := (qr_ok hA (h m (List.mem_cons_self ..)).1 hS (h m (List.mem_cons_self ..)).2).2.2.2
    simp only [List.map_cons, List.sum_cons, Int.mul_add]
    omega
/-- The request is right. -/
def SpP (A : Int) (l : List Int) : Prop := (0 ≤ A ∧ A ≤ 1000000) ∧ (1 ≤ (l.length : Int) ∧ (l.length : Int) ≤ 10) ∧ (∀ (i : Nat) x, l[i]? = some x → 0 ≤ x ∧ x ≤ 10000) ∧ 0 < l.sum
noncomputable instance (A : Int) (l : List Int) : Decidable (SpP A l) := Classical.propDecidable _
def Rn (A : Int) (l : List Int) (x : Int) : Int := Rq A l.sum (l.getD x.toNat 0)
theorem sp_at {A : Int} {l : List Int} {j : Nat} {m : Int} (hj : l[j]? = some m) : Rn A l (j : Int) = Rq A l.sum m := by
  unfold Rn
  rw [Int.toNat_natCast, List.getD_eq_getElem?_getD, hj]; rfl
def spD (A : Int) (l : List Int) : Nat := (A - (l.map (Fq A l.sum)).sum).toNat
def spl0 (A : Int) (l : List Int) : List Int := incs (l.map (Fq A l.sum)) ((rord (Rn A l) l.length).take (spD A l))
section
variable {A : Int} {l : List Int} (h : SpP A l)
include h
theorem sp_mem {x : Int} (hx : x ∈ l) : (0 ≤ x ∧ x ≤ 10000) ∧ x ≤ l.sum := by
  have hall : ∀ y ∈ l, 0 ≤ y ∧ y ≤ 10000 := fun y hy => by
    obtain ⟨i, hi⟩ := List.getElem?_of_mem hy
    exact h.2.2.1 i y hi
  exact ⟨hall x hx, mem_le_sum hx fun y hy => (hall y hy).1⟩
theorem sp_sum : 0 < l.sum ∧ l.sum ≤ 100000 := by
  have := sum_bd (l := l) (M := 10000) fun x hx => (sp_mem h hx).1
  have := h.2.1
  exact ⟨h.2.2.2, by omega⟩
theorem sp_d : 0 ≤ A - (l.map (Fq A l.sum)).sum ∧ A - (l.map (Fq A l.sum)).sum < (l.length : Int) := by
  have hs := sp_sum h
  have e := qr_sum h.1 hs.1 l fun m hm => sp_mem h hm
  have hR := sum_bd (l := l.map (Rq A l.sum)) (M := l.sum - 1) fun x hx => by
    obtain ⟨m, hm, rfl⟩ := List.mem_map.1 hx
    have := (qr_ok h.1 (sp_mem h hm).1 hs.1 (sp_mem h hm).2).2.2.1
    omega
  rw [List.length_map] at hR
  have e2 : l.sum * (A - (l.map (Fq A l.sum)).sum) = (l.map (Rq A l.sum)).sum := by
    rw [Int.mul_sub, Int.mul_comm l.sum A]; omega
  constructor
  · refine Int.le_of_mul_le_mul_left (a := l.sum) ?_ hs.1
    rw [e2]; simp; omega
  · refine Int.lt_of_mul_lt_mul_left (a := l.sum) ?_ (by omega)
    rw [e2]
    have : (l.sum - 1) * (l.length : Int) = l.sum * (l.length : Int) - (l.length : Int) := by rw [Int.sub_mul, Int.one_mul]
    have := h.2.1
    omega
theorem sp_F : ∀ x ∈ l.map (Fq A l.sum), 0 ≤ x ∧ x ≤ 1000000 := fun x hx => by
  obtain ⟨m, hm, rfl⟩ := List.mem_map.1 hx
  have := (qr_ok h.1 (sp_mem h hm).1 (sp_sum h).1 (sp_mem h hm).2).2.1
  have := h.1
  omega
theorem spl_ok : (spl0 A l).length = l.length ∧ (spl0 A l).sum = A ∧ ∀ x ∈ spl0 A l, 0 ≤ x ∧ x ≤ 2000000 := by
  have hd := sp_d h
  have hlen := h.2.1
  have htl : ((rord (Rn A l) l.length).take (spD A l)).length = spD A l := by rw [List.length_take, rord_len]; unfold spD; omega
  have hi := incs_ok (sp_F h) _ ((rord (Rn A l) l.length).take (spD A l)) rfl fun x hx => by rw [List.length_map]; exact (rord_mem _).1 (List.mem_of_mem_take hx)
  rw [htl] at hi
  refine ⟨by unfold spl0; rw [incs_len _ _ _ rfl, List.length_map], ?_, fun x hx => ?_⟩
  · unfold spl0; rw [hi.1]; unfold spD; omega
  · have := hi.2 x hx
    have : spD A l ≤ 10 := by unfold spD; omega
    omega
theorem cmpSp (x y : Int) (hx : 0 ≤ x ∧ x < (l.length : Int)) (hy : 0 ≤ y ∧ y < (l.length : Int)) : ∃ c, i_SplitRevenue_1 x y A l l.sum = some c ∧ decide (c < 0) = rLt (Rn A l) x y := by
  have hs := sp_sum h
  obtain ⟨a, a1, a2, a3⟩ := idx_lt (l := l) hx.1 hx.2
  obtain ⟨b, b1, b2, b3⟩ := idx_lt (l := l) hy.1 hy.2
  have qa := qr_ok h.1 (sp_mem h a3).1 hs.1 (sp_mem h a3).2
  have qb := qr_ok h.1 (sp_mem h b3).1 hs.1 (sp_mem h b3).2
  have ea : Rn A l x = Rq A l.sum a := by have := sp_at (A := A) a2; rwa [show ((x.toNat : Nat) : Int) = x by omega] at this
  have eb : Rn A l y = Rq A l.sum b := by have := sp_at (A := A) b2; rwa [show ((y.toNat : Nat) : Int) = y by omega] at this
  unfold i_SplitRevenue_1 rLt
  rw [b1, a1]
  simp only [Option.bind_some]
  rw [chk_of (show (l.sum : Int) ≠ 0 by omega), w64_id (x := A * b) (by omega), w64_id (x := A * a) (by omega), compare_int, ea, eb]
  refine ⟨_, rfl, ?_⟩
  show decide ((if Rq A l.sum b < Rq A l.sum a then (-1 : Int) else if Rq A l.sum a < Rq A l.sum b then 1 else 0) < 0) = _
  by_cases c : Rq A l.sum b < Rq A l.sum a
  · simp [c]
  · by_cases c2 : Rq A l.sum a < Rq A l.sum b <;> simp [c, c2]
theorem stableSp : slices_SortStableFunc_int_w__i_SplitRevenue_1 (rng l.length) A l l.sum = some (rord (Rn A l) l.length) := by
  have hlen := h.2.1
  have hr := rng_len l.length
  have s1 : slices_stableCmpFunc_int_w__i_SplitRevenue_1_L1 ((rng l.length).length : Int) A l l.sum ((0 : Int), (20 : Int), rng l.length) = some (.dn (0, rng l.length)) := by
    unfold slices_stableCmpFunc_int_w__i_SplitRevenue_1_L1
    have : ¬ (20 : Int) ≤ ((rng l.length).length : Int) := by omega
    simp [this]
  have s2 : ∀ l' : List Int, slices_stableCmpFunc_int_w__i_SplitRevenue_1_L3 ((rng l.length).length : Int) A l l.sum ((20 : Int), l') = some (.dn l') := fun l' => by
    unfold slices_stableCmpFunc_int_w__i_SplitRevenue_1_L3
    have : ¬ (20 : Int) < ((rng l.length).length : Int) := by omega
    simp [this]
  have s3 : slices_insertionSortCmpFunc_int_w__i_SplitRevenue_1 (rng l.length) 0 ((rng l.length).length : Int) A l l.sum = some (Pdq.isort (rLt (Rn A l)) (rng l.length)) :=
    Pdq.insertion_stU (U := fun x => 0 ≤ x ∧ x < (l.length : Int)) (cmpSp h) (rng l.length) (by omega) fun x hx => rng_mem.1 hx
  unfold slices_SortStableFunc_int_w__i_SplitRevenue_1 slices_stableCmpFunc_int_w__i_SplitRevenue_1
  rw [iter_dn s1]
  simp only [Option.bind_some]
  rw [s3]
  simp only [Option.bind_some]
  rw [iter_dn (s2 _)]; rfl
theorem iSp2 : iter (i_SplitRevenue_L2 A l l.sum) ((0 : Int), List.replicate (l.length : Int).toNat (0 : Int), List.replicate (l.length : Int).toNat (0 : Int)) = some (l.map (Fq A l.sum), rng l.length) := by
  have hs := sp_sum h
  have hlen := h.2.1
  refine Tot.val (Tot.iter (fun m s => ∃ k : Nat, s.1 = (k : Int) ∧ m + k = l.length ∧ s.2.1.length = l.length ∧ s.2.2.length = l.length ∧ (∀ j, j < k → s.2.1[j]? = (l.map (Fq A l.sum))[j]?) ∧ ∀ j, j < k → s.2.2[j]? = some (j : Int)) (n := l.length) ⟨0, rfl, by omega, by simp, by simp, fun j hj => by omega, fun j hj => by omega⟩ ?_)
  rintro m ⟨v, a, b⟩ ⟨k, hv, hm, ha, hb, hak, hbk⟩
  simp only at hv ha hb hak hbk
  subst hv
  unfold i_SplitRevenue_L2
  refine .iteP (fun hc => ?_) (fun hc => .dn ?_)
  · obtain ⟨z, hz⟩ := get_ex (l := l) (i := k) (by omega)
    obtain ⟨y, hy⟩ := get_ex (l := a) (i := k) (by omega)
    obtain ⟨w, hw⟩ := get_ex (l := b) (i := k) (by omega)
    have hzm := sp_mem h (List.mem_of_getElem? hz)
    have hq := qr_ok h.1 hzm.1 hs.1 hzm.2
    have hq2 := hq.2.1
    have hA := h.1
    have eF : w64 ((w64 (A * z)).tdiv l.sum) = Fq A l.sum z := by rw [w64_id (x := A * z) (by omega)]; exact w64_id (by unfold Fq at hq2; omega)
    refine .eq (ixs hz) (.chk (by omega) (.eq (ixs hy) (.eq (ixs hw) (.nx ⟨m - 1, by omega, k + 1, w64_succ (by omega), by omega, ?_, ?_, fun j hj => ?_, fun j hj => ?_⟩))))
    · dsimp only; rw [List.length_set]; exact ha
    · dsimp only; rw [List.length_set]; exact hb
    · dsimp only
      rw [Int.toNat_natCast, eF]
      by_cases hjk : j = k
      · subst hjk; rw [List.getElem?_set_self (by omega), List.getElem?_map, hz]; rfl
      · rw [List.getElem?_set_ne (by omega)]; exact hak j (by omega)
    · dsimp only
      rw [Int.toNat_natCast]
      by_cases hjk : j = k
      · subst hjk; rw [List.getElem?_set_self (by omega)]
      · rw [List.getElem?_set_ne (by omega)]; exact hbk j (by omega)
  · have hk : k = l.length := by omega
    subst hk
    congr 1
    · apply List.ext_getElem?
      intro j
      by_cases hj : j < l.length
      · exact hak j hj
      · rw [List.getElem?_eq_none (by omega), List.getElem?_eq_none (by rw [List.length_map]; omega)]
    · apply List.ext_getElem?
      intro j
      by_cases hj : j < l.length
      · rw [hbk j hj]; unfold rng; rw [List.getElem?_map, List.getElem?_range hj]; rfl
      · rw [List.getElem?_eq_none (by omega), List.getElem?_eq_none (by rw [rng_len]; omega)]
theorem iSp3 (r7 : Int) (h7 : r7 = (l.map (Fq A l.sum)).sum) : iter (i_SplitRevenue_L3 A (rord (Rn A l) l.length) r7) ((0 : Int), l.map (Fq A l.sum)) = some (spl0 A l) := by
  have hd := sp_d h
  have hlen := h.2.1
  have ew : (w64 (A - r7)).toNat = spD A l := by rw [h7, w64_id (by omega)]; rfl
  have hD : spD A l ≤ 10 ∧ spD A l < l.length := by unfold spD; omega
  have hrl := rord_len (Rn A l) l.length
  have htl : ((rord (Rn A l) l.length).take (spD A l)).length = spD A l := by rw [List.length_take, rord_len]; omega
  refine Tot.val (Tot.iter (fun m s => ∃ k : Nat, s.1 = (k : Int) ∧ m + k = spD A l ∧ s.2 = incs (l.map (Fq A l.sum)) ((rord (Rn A l) l.length).take k)) (n := spD A l) ⟨0, rfl, by omega, rfl⟩ ?_)
  rintro m ⟨v, a⟩ ⟨k, hv, hm, ha⟩
  simp only at hv ha
  subst hv; subst ha
  unfold i_SplitRevenue_L3
  simp only [ew]
  have e0 : ((rord (Rn A l) l.length).take (spD A l)).drop (0 : Int).toNat = (rord (Rn A l) l.length).take (spD A l) := rfl
  rw [e0, htl]
  refine .iteP (fun hc => ?_) (fun hc => .dn (by unfold spl0; rw [show spD A l = k by omega]))
  have hk : k < spD A l := by omega
  obtain ⟨x, hx⟩ := get_ex (l := rord (Rn A l) l.length) (i := k) (by omega)
  have hxm := (rord_mem (Rn A l)).1 (List.mem_of_getElem? hx)
  have hil := incs_len (l.map (Fq A l.sum)) _ ((rord (Rn A l) l.length).take k) rfl
  rw [List.length_map] at hil
  obtain ⟨z, z1, z2, z3⟩ := idx_lt (l := incs (l.map (Fq A l.sum)) ((rord (Rn A l) l.length).take k)) hxm.1 (by omega)
  have hb := (incs_ok (sp_F h) _ ((rord (Rn A l) l.length).take k) rfl fun x hx => by rw [List.length_map]; exact (rord_mem _).1 (List.mem_of_mem_take hx)).2 z z3
  rw [List.length_take] at hb
  refine .eq (ixs (by rw [List.getElem?_take_of_lt hk]; exact hx)) (.eq z1 (.eq z1 (.nx ⟨m - 1, by omega, k + 1, w64_succ (by omega), by omega, ?_⟩)))
  dsimp only
  rw [take_succ hx, incs_snoc, w64_id (by omega), List.getD_eq_getElem?_getD, z2]; rfl
end
theorem sp_sumeq {A : Int} {l : List Int} (h1 : 1 ≤ (l.length : Int) ∧ (l.length : Int) ≤ 10) (h2 : ∀ (i : Nat) x, l[i]? = some x → 0 ≤ x ∧ x ≤ 10000) : i_total l = some l.sum ∧ 0 ≤ l.sum ∧ l.sum ≤ 100000 := by
  have hall : ∀ y ∈ l, 0 ≤ y ∧ y ≤ 10000 := fun y hy => by
    obtain ⟨i, hi⟩ := List.getElem?_of_mem hy
    exact h2 i y hi
  have := sum_bd (l := l) (M := 10000) hall
  exact ⟨total_eq l (by omega) fun x hx => by have := hall x hx; omega, by omega, by omega⟩
noncomputable def splR (A : Int) (l : List Int) : List Int × Bool := if SpP A l then (spl0 A l, true) else ([], false)
theorem iSplit_eq (A : Int) (l : List Int) (hl : l.length ≤ 100000) : i_SplitRevenue A l = some (splR A l) := by
  unfold i_SplitRevenue
  simp only [within_eq, Option.bind_some]
  by_cases h1 : 0 ≤ A ∧ A ≤ 1000000
  · by_cases h2 : 1 ≤ (l.length : Int) ∧ (l.length : Int) ≤ 10
    · simp only [h1, h2, and_self, decide_true, Bool.not_true, Bool.false_eq_true, if_false, Option.bind_some]
      rw [all_valR (hd := Classical.propDecidable _) (([] : List Int), false) l (fun _ x => 0 ≤ x ∧ x ≤ 10000) (fun i x hx => ?_) (by unfold i_SplitRevenue_L1; simp)]
      · by_cases h3 : ∀ (i : Nat) x, l[i]? = some x → 0 ≤ x ∧ x ≤ 10000
        · rw [if_pos h3]
          obtain ⟨t1, t2, t3⟩ := sp_sumeq (A := A) h2 h3
          rw [t1]
          simp only [Option.bind_some]
          by_cases h4 : 0 < l.sum
          · have h : SpP A l := ⟨h1, h2, h3, h4⟩
            have e0 : (l.sum == 0) = false := by simp; omega
            have hF := total_eq (l.map (Fq A l.sum)) (by rw [List.length_map]; omega) (sp_F h)
            have hd := sp_d h
            have hrl := rord_len (Rn A l) l.length
            have ew : w64 (A - (l.map (Fq A l.sum)).sum) = A - (l.map (Fq A l.sum)).sum := w64_id (by omega)
            simp only [e0, Bool.false_eq_true, if_false]
            rw [chk_of (by omega)]
            simp only [Option.bind_some, iSp2 h, stableSp h, hF, ew]
            rw [chk_of (by omega)]
            simp only [Option.bind_some, iSp3 h _ rfl]
            unfold splR; rw [if_pos h]
          · have e0 : (l.sum == 0) = true := by simp; omega
            simp only [e0, if_true]
            unfold splR; rw [if_neg (fun h => h4 h.2.2.2)]
        · rw [if_neg h3]
          unfold splR; rw [if_neg (fun h => h3 h.2.2.1)]
      · have hi := get_lt hx
        unfold i_SplitRevenue_L1
        by_cases c : 0 ≤ x ∧ x ≤ 10000
        · left; refine ⟨?_, c⟩
          simp (disch := omega) only [if_pos, if_neg, decide_eq_true_eq, decide_true, decide_false, Bool.not_true, Bool.not_false, Bool.false_eq_true, Bool.not_eq_true', decide_eq_false_iff_not, if_true, if_false, w64_id, chk_of, idx_nat, Option.bind_some, Option.map_some, Int.toNat_natCast, not_true_eq_false, not_false_eq_true, true_and, and_true, and_self, false_and, and_false, reduceIte, flb_go, flb_ret, beq_self_eq_true, ne_eq, bne_self_eq_false, Int.ofNat_lt.2 hi, hx, within_eq, c]
          rfl
        · right; refine ⟨?_, c⟩
          simp (disch := omega) only [if_pos, if_neg, decide_eq_true_eq, decide_true, decide_false, Bool.not_true, Bool.not_false, Bool.false_eq_true, Bool.not_eq_true', decide_eq_false_iff_not, if_true, if_false, w64_id, chk_of, idx_nat, Option.bind_some, Option.map_some, Int.toNat_natCast, not_true_eq_false, not_false_eq_true, true_and, and_true, and_self, false_and, and_false, reduceIte, flb_go, flb_ret, beq_self_eq_true, ne_eq, bne_self_eq_false, Int.ofNat_lt.2 hi, hx, within_eq, c]
    · simp only [h1, h2, and_self, decide_true, decide_false, Bool.not_true, Bool.not_false, Bool.false_eq_true, if_false, if_true, Option.bind_some]
      unfold splR; rw [if_neg (fun h => h2 h.2.1)]
  · simp only [h1, decide_false, Bool.not_false, if_true, Option.bind_some]
    unfold splR; rw [if_neg (fun h => h1 h.1)]
/-! Dividing revenue: the reference; draws; FnFares. -/
theorem sSplit_eq (A : Int) (l : List Int) (hl : l.length ≤ 100000) : s_SplitRevenue A l = some (splR A l) := by
  unfold s_SplitRevenue
  simp only [l1In_eq, Option.bind_some]
  by_cases h1 : 0 ≤ A ∧ A ≤ 1000000
  · by_cases h2 : 1 ≤ (l.length : Int) ∧ (l.length : Int) ≤ 10
    · simp only [h1, h2, and_self, decide_true, Bool.not_true, Bool.false_eq_true, if_false, Option.bind_some]
      refine Tot.val (.flb ((Tot.iter (fun m s => ∃ k : Nat, s.2 = (k : Int) ∧ m + k = l.length ∧ (∀ (i : Nat) x, i < k → l[i]? = some x → 0 ≤ x ∧ x ≤ 10000) ∧ s.1 = (l.take k).sum) (Q := fun x => (x = .go l.sum ∧ ∀ (i : Nat) x, l[i]? = some x → 0 ≤ x ∧ x ≤ 10000) ∨ (x = .ret (([] : List Int), false) ∧ ¬ ∀ (i : Nat) x, l[i]? = some x → 0 ≤ x ∧ x ≤ 10000)) (n := l.length) ⟨0, rfl, by omega, fun i x h => by omega, rfl⟩ ?_).mono fun x hx => ?_))
      · rintro m ⟨s, v⟩ ⟨k, hv, hm, hok, hs⟩
        simp only at hv hs
        subst hv; subst hs
        unfold s_SplitRevenue_L1
        refine .iteP (fun hc => ?_) (fun hc => .dn (.inl ⟨by rw [List.take_of_length_le (by omega)], fun i x hx => hok i x (by have := get_lt hx; omega) hx⟩))
        obtain ⟨x, hx⟩ := get_ex (l := l) (i := k) (by omega)
        refine .eq (ixs hx) (.eq (l1In_eq _ _ _) (.iteN (fun hn => .dn (.inr ⟨rfl, fun hall => hn (hall k x hx)⟩)) (fun hp => .eq (ixs hx) (.nx ⟨m - 1, by omega, k + 1, w64_succ (by omega), by omega, fun i y hi hy => ?_, ?_⟩))))
        · by_cases hik : i = k
          · subst hik; rw [hx] at hy; cases hy; exact hp
          · exact hok i y (by omega) hy
        · dsimp only
          have hb := sum_bd (l := l.take k) (M := 10000) fun y hy => by
            obtain ⟨i, hi⟩ := List.getElem?_of_mem hy
            have hik : i < k := by have := get_lt hi; rw [List.length_take] at this; omega
            rw [List.getElem?_take_of_lt hik] at hi
            exact hok i y hik hi
          have hlk : ((l.take k).length : Int) ≤ 10 := by rw [List.length_take]; omega
          rw [sum_take_succ hx, w64_id (by omega)]
      · rcases hx with ⟨rfl, h3⟩ | ⟨rfl, h3⟩
        · refine ⟨fun r e => (by cases e), fun u hu => ?_⟩
          cases hu
          obtain ⟨t1, t2, t3⟩ := sp_sumeq (A := A) h2 h3
          by_cases h4 : 0 < l.sum
          · have h : SpP A l := ⟨h1, h2, h3, h4⟩
            have hs := sp_sum h
            have hd := sp_d h
            refine .ite (fun hz => by simp at hz; omega) (fun _ => ?_)
            have hF := sp_F h
            refine .call (P := fun o => o = (A - (l.map (Fq A l.sum)).sum, l.map (Fq A l.sum), l.map (Rq A l.sum))) ?_ fun o ho => ?_
            · refine Tot.iter (fun m s => ∃ k : Nat, s.2.1 = (k : Int) ∧ m + k = l.length ∧ s.1 = A - ((l.take k).map (Fq A l.sum)).sum ∧ s.2.2.1 = (l.take k).map (Fq A l.sum) ∧ s.2.2.2 = (l.take k).map (Rq A l.sum)) (n := l.length) ⟨0, rfl, by omega, by simp, rfl, rfl⟩ ?_
              rintro m ⟨b, v, f, r⟩ ⟨k, hv, hm, hb, hf, hr⟩
              simp only at hv hb hf hr
              subst hv; subst hb; subst hf; subst hr
              unfold s_SplitRevenue_L2
              refine .iteP (fun hc => ?_) (fun hc => .dn (by rw [List.take_of_length_le (by omega)]))
              obtain ⟨z, hz⟩ := get_ex (l := l) (i := k) (by omega)
              have hzm := sp_mem h (List.mem_of_getElem? hz)
              have hq := qr_ok h.1 hzm.1 hs.1 hzm.2
              have hq2 := hq.2.1
              have hA := h.1
              have eF : w64 ((w64 (A * z)).tdiv l.sum) = Fq A l.sum z := by rw [w64_id (x := A * z) (by omega)]; exact w64_id (by unfold Fq at hq2; omega)
              have eR : (w64 (A * z)).tmod l.sum = Rq A l.sum z := by rw [w64_id (x := A * z) (by omega)]; rfl
              have hlen1 : ((l.take k).map (Fq A l.sum)).length = k := by rw [List.length_map, List.length_take]; omega
              have hlen2 : ((l.take k).map (Rq A l.sum)).length = k := by rw [List.length_map, List.length_take]; omega
              have hat : ((l.take k).map (Fq A l.sum) ++ [Fq A l.sum z])[k]? = some (Fq A l.sum z) := by
                rw [List.getElem?_append_right (by omega), hlen1, Nat.sub_self]; rfl
              have hbd := sum_bd (l := (l.take k).map (Fq A l.sum)) (M := 1000000) fun y hy => by
                obtain ⟨w, hw, rfl⟩ := List.mem_map.1 hy
                exact hF _ (List.mem_map_of_mem (List.mem_of_mem_take hw))
              rw [hlen1] at hbd
              refine .eq (ixs hz) ?_
              simp only [ixs hz, Option.bind_some]
              rw [eF, eR]
              refine .chk (by omega) (.chk (by rw [hlen1]; simp; omega) (.chk (by omega) (.chk (by rw [hlen2]; simp; omega) (.eq (ixs hat) (.nx ⟨m - 1, by omega, k + 1, w64_succ (by omega), by omega, ?_, ?_, ?_⟩)))))
              · dsimp only
                rw [take_succ hz, List.map_append, List.sum_append]
                simp only [List.map_cons, List.map_nil, List.sum_cons, List.sum_nil]
                rw [w64_id (by omega)]; omega
              · dsimp only; rw [take_succ hz, List.map_append]; rfl
              · dsimp only; rw [take_succ hz, List.map_append]; rfl
            · subst ho
              dsimp only
              have hR : ∀ (j : Nat) x, (l.map (Rq A l.sum))[j]? = some x → x = Rn A l (j : Int) ∧ 0 ≤ x := fun j x hx => by
                rw [List.getElem?_map] at hx
                obtain ⟨m, hm, rfl⟩ := Option.map_eq_some_iff.1 hx
                have hzm := sp_mem h (List.mem_of_getElem? hm)
                exact ⟨(sp_at hm).symm, (qr_ok h.1 hzm.1 hs.1 hzm.2).2.2.1.1⟩
              have hRl : (l.map (Rq A l.sum)).length = l.length := List.length_map ..
              have hD : spD A l ≤ 10 ∧ spD A l < l.length ∧ A - (l.map (Fq A l.sum)).sum = (spD A l : Int) := by unfold spD; omega
              rw [hD.2.2]
              refine .call (P := fun o => o = spl0 A l) ?_ fun o ho => .ok ?_
              · refine Tot.iter (fun m s => s.1 = (m : Int) ∧ ∃ k : Nat, m + k = spD A l ∧ s.2.1 = incs (l.map (Fq A l.sum)) ((rord (Rn A l) l.length).take k) ∧ s.2.2 = negs (l.map (Rq A l.sum)) ((rord (Rn A l) l.length).take k)) (n := spD A l) ⟨rfl, 0, by omega, rfl, rfl⟩ ?_
                rintro m ⟨b, f, r⟩ ⟨hb, k, hm, hf, hr⟩
                simp only at hb hf hr
                subst hb; subst hf; subst hr
                unfold s_SplitRevenue_L4
                refine .iteP (fun hc => ?_) (fun hc => .dn (by unfold spl0; rw [show spD A l = k by omega]))
                have hrl := rord_len (Rn A l) l.length
                obtain ⟨x, hx⟩ := get_ex (l := rord (Rn A l) l.length) (i := k) (by omega)
                have hxm := (rord_mem (Rn A l)).1 (List.mem_of_getElem? hx)
                have hnx := next_max hR (k := k) (by omega) (by omega) (x := x) (by rw [hRl]; exact hx)
                rw [hRl] at hnx
                have hil := incs_len (l.map (Fq A l.sum)) _ ((rord (Rn A l) l.length).take k) rfl
                rw [List.length_map] at hil
                have hnl := (negs_at (l.map (Rq A l.sum)) _ ((rord (Rn A l) l.length).take k) rfl fun y hy => by rw [hRl]; exact (rord_mem _).1 (List.mem_of_mem_take hy)).1
                obtain ⟨z, z1, z2, z3⟩ := idx_lt (l := incs (l.map (Fq A l.sum)) ((rord (Rn A l) l.length).take k)) hxm.1 (by omega)
                obtain ⟨y, y1, y2, y3⟩ := idx_lt (l := negs (l.map (Rq A l.sum)) ((rord (Rn A l) l.length).take k)) hxm.1 (by omega)
                have hbz := (incs_ok hF _ ((rord (Rn A l) l.length).take k) rfl fun x hx => by rw [List.length_map]; exact (rord_mem _).1 (List.mem_of_mem_take hx)).2 z z3
                rw [List.length_take] at hbz
                refine .eq hnx (.eq z1 (.eq z1 (.eq y1 (.nx ⟨m - 1, by omega, ?_, k + 1, by omega, ?_, ?_⟩))))
                · dsimp only; rw [w64_id (by omega)]; omega
                · dsimp only
                  rw [take_succ hx, incs_snoc, w64_id (by omega), List.getD_eq_getElem?_getD, z2]; rfl
                · dsimp only
                  rw [take_succ hx, negs_snoc]
              · subst ho
                unfold splR; rw [if_pos h]
          · refine .ite (fun _ => .ok ?_) (fun hz => by simp at hz; omega)
            unfold splR; rw [if_neg (fun h => h4 h.2.2.2)]
        · refine ⟨fun r e => ?_, fun u hu => by cases hu⟩
          cases e
          unfold splR; rw [if_neg (fun h => h3 h.2.2.1)]
    · simp only [h1, h2, and_self, decide_true, decide_false, Bool.not_true, Bool.not_false, Bool.false_eq_true, if_false, if_true, Option.bind_some]
      unfold splR; rw [if_neg (fun h => h2 h.2.1)]
  · simp only [h1, decide_false, Bool.not_false, if_true, Option.bind_some]
    unfold splR; rw [if_neg (fun h => h1 h.1)]
theorem rSum_ok {l : List Int} (hl : l.length ≤ 1000) (hb : ∀ x ∈ l, 0 ≤ x ∧ x ≤ 10000000) : v_rSum l = some l.sum := by
  unfold v_rSum
  refine Tot.val (.call (P := fun o => o = l.sum) ?_ fun o ho => .ok ho)
  refine Tot.iter (fun m s => ∃ k : Nat, s.2 = (k : Int) ∧ m + k = l.length ∧ s.1 = (l.take k).sum) (n := l.length) ⟨0, rfl, by omega, rfl⟩ ?_
  rintro m ⟨s, v⟩ ⟨k, hv, hm, hs⟩
  simp only at hv hs
  subst hv; subst hs
  unfold v_rSum_L1
  refine .iteP (fun hc => ?_) (fun hc => .dn (by rw [List.take_of_length_le (by omega)]))
  obtain ⟨x, hx⟩ := get_ex (l := l) (i := k) (by omega)
  have hxb := hb x (List.mem_of_getElem? hx)
  have hs := sum_bd (l := l.take k) (M := 10000000) fun y hy => hb y (List.mem_of_mem_take hy)
  have hlk : ((l.take k).length : Int) ≤ 1000 := by rw [List.length_take]; omega
  refine .eq (ixs hx) (.nx ⟨m - 1, by omega, k + 1, w64_succ (by omega), by omega, ?_⟩)
  dsimp only; rw [sum_take_succ hx, w64_id (by omega)]
/-! Draws. -/
theorem zoned_ok {k : Nat} {c : l1Cur} (h : Cur k c) (hk : k ≤ 1000000) : Tot (s_l1Cur_zoned c) fun r => Cur (k + 10000) r.2.2 ∧ Bd r.1 ∧ r.2.1.length ≤ 2000 := by
  unfold s_l1Cur_zoned
  refine .call (anyNetwork_ok h (by omega)) fun r ⟨hc, hb⟩ => ?_
  refine .call (P := fun o => Cur (k + 5000) ⟨o.1, o.2.1, ⟨o.2.2.1⟩⟩ ∧ o.2.2.2.length ≤ 1000) ?_ fun ⟨v4, v5, v6, i1⟩ ⟨hc1, hl1⟩ => ?_
  · have hn := hb.1
    refine Tot.iter (fun m s => ∃ j : Nat, s.1 = (j : Int) ∧ m + j = r.1.Stops.length ∧ s.2.2.2.2.length = j ∧ Cur (k + 1000 + 2 * j) ⟨s.2.1, s.2.2.1, ⟨s.2.2.2.1⟩⟩) (n := r.1.Stops.length) ⟨0, rfl, by omega, rfl, hc⟩ ?_
    rintro m ⟨v, v1, v2, v3, i⟩ ⟨j, hv, hm, hl, hcur⟩
    simp only at hv hl hcur
    subst hv
    unfold s_l1Cur_zoned_L1
    exact .iteP (fun hc => .call (t_pick 3 hcur (by omega)) fun r1 ⟨hr1, _⟩ => .chk (by simp; omega) (.nx ⟨m - 1, by omega, j + 1, w64_succ (by omega), by omega, by simp; omega, hr1.mono (by omega)⟩)) (fun hc => .dn ⟨hcur.mono (by omega), by dsimp only; omega⟩)
  · dsimp only at hc1 hl1
    refine .call (P := fun o => Cur (k + 10000) ⟨o.1, o.2.1, ⟨o.2.2.1⟩⟩ ∧ o.2.2.2.length ≤ 2000) ?_ fun ⟨v7, v8, v9, i2⟩ ⟨q1, q2⟩ => .ok ⟨q1, hb, q2⟩
    refine .call (t_pick 40 hc1 (by omega)) fun r2 ⟨hc2, _⟩ => .ite (fun _ => .chk (by simp; omega) (.ok ⟨hc2.mono (by omega), by simp; omega⟩)) (fun _ => .ite (fun _ => .iteP (fun hp => .call (t_among _ (by simp) hc2 (by omega)) fun r3 ⟨hc3, _⟩ => .idx (by omega) hp fun e _ => .ok ⟨hc3.mono (by omega), by dsimp only; rw [List.length_set]; omega⟩) (fun _ => .ok ⟨hc2.mono (by omega), by dsimp only; omega⟩)) (fun _ => .ok ⟨hc2.mono (by omega), by dsimp only; omega⟩))
theorem leg21_ok {k : Nat} {c : l1Cur} (n : Network) (h : Cur k c) (hk : k ≤ 1000000) : Tot (s_l1Cur_leg21 c n) fun r => Cur (k + 100) r.2 := by
  unfold s_l1Cur_leg21
  refine .ite (fun _ => .ok (h.mono (by omega))) (fun hz => ?_)
  have hpos : (0 : Int) < (n.Lines.length : Int) := by
    have : (n.Lines.length : Int) ≠ 0 := by simpa using hz
    omega
  refine .call (t_pick _ h (by omega)) fun r ⟨hc, h0, h1⟩ => .idx h0 (by omega) fun e _ => .call (P := fun _ => True) (by unfold s_l1Most; exact .ite (fun _ => .ok trivial) fun _ => .ok trivial) fun r1 _ => .call (t_pick _ hc (by omega)) fun r2 ⟨hc2, _⟩ => .call (t_pick 3 hc2 (by omega)) fun r3 ⟨hc3, _⟩ => .call (P := fun _ => True) (by unfold s_l1Least; exact .ite (fun _ => .ok trivial) fun _ => .ok trivial) fun r4 _ => ?_
  refine .call (P := fun o => Cur (k + 100) ⟨o.1, o.2.1, ⟨o.2.2.1⟩⟩) ?_ fun ⟨v, v1, v2, v3⟩ q => .ok q
  refine .call (t_one 40 hc3 (by omega)) fun r5 hc5 => .ite (fun _ => ?_) (fun _ => .ok (hc5.mono (by omega)))
  exact .call (t_pick 3 hc5 (by omega)) fun r6 ⟨hc6, h60, h61⟩ => .call (t_among _ (by simp) hc6 (by omega)) fun r7 ⟨hc7, _⟩ => .idx h60 (by simp; omega) fun e _ => .ok (hc7.mono (by omega))
theorem drawJF_ok (code : List UInt8) : Tot (s_DrawJourneyFare code) fun r => Bd r.1 ∧ r.2.1.length ≤ 2000 ∧ r.2.2.1.Zones.length ≤ 1000 ∧ r.2.2.2.length ≤ 1000 := by
  have h0 := (cur0 code).mono (k' := 10) (by omega)
  unfold s_DrawJourneyFare
  refine .call (zoned_ok h0 (by omega)) fun r ⟨hc, hb, hl⟩ => .call (t_pick 24 hc (by omega)) fun r1 ⟨hc1, h10, h11⟩ => .chk (by omega) ?_
  have hq : 0 ≤ r1.1.tdiv 6 ∧ r1.1.tdiv 6 ≤ 3 := by
    rw [Int.tdiv_eq_ediv_of_nonneg h10]; omega
  have e1 : w64 (r1.1.tdiv 6) = r1.1.tdiv 6 := w64_id (by omega)
  have e2 : w64 (5 + r1.1.tdiv 6) = 5 + r1.1.tdiv 6 := w64_id (by omega)
  rw [e1, e2]
  refine .chk (by simp; omega) (.call (t_among _ ?_ hc1 (by omega)) fun r2 ⟨hc2, hm2⟩ => ?_)
  · intro h
    have := congrArg List.length h
    rw [List.length_drop, List.length_take] at this
    simp at this; omega
  have hr2 : 0 ≤ r2.1 ∧ r2.1 ≤ 7 := by
    have := List.mem_of_mem_take (List.mem_of_mem_drop hm2)
    simp at this; omega
  refine .call (P := fun o => Cur 30000 ⟨o.1, o.2.1, ⟨o.2.2.1⟩⟩ ∧ o.2.2.2.length ≤ 1000) ?_ fun ⟨v4, v5, v6, k1⟩ ⟨hc3, hl3⟩ => .call (prices_ok hc3 (by omega)) fun r5 ⟨hc5, hz⟩ => .ok ⟨hb, hl, by dsimp only; omega, hl3⟩
  refine Tot.iter (fun m s => s.1 = (m : Int) ∧ m + s.2.2.2.2.length ≤ 7 ∧ Cur (10100 + 100 * (7 - m)) ⟨s.2.1, s.2.2.1, ⟨s.2.2.2.1⟩⟩) (n := r2.1.toNat) ⟨by dsimp only; omega, by simp; omega, hc2.mono (by omega)⟩ ?_
  rintro m ⟨v, v1, v2, v3, i⟩ ⟨hv, hl, hcur⟩
  simp only at hv hl hcur
  subst hv
  unfold s_DrawJourneyFare_L1
  refine .iteP (fun hc => .call (leg21_ok _ hcur (by omega)) fun r3 hc3 => .chk (by simp; omega) (.nx ⟨m - 1, by omega, ?_, by simp; omega, hc3.mono (by omega)⟩)) (fun hc => .dn ⟨hcur.mono (by omega), by dsimp only; omega⟩)
  dsimp only; rw [w64_id (by omega)]; omega
theorem drawSF_ok (code : List UInt8) : Tot (s_DrawSingleFare code) fun r => r.1.Zones.length ≤ 1000 ∧ 0 ≤ r.2 ∧ r.2 ≤ 100 := by
  have h0 := (cur0 code).mono (k' := 10) (by omega)
  unfold s_DrawSingleFare
  refine .call (prices_ok h0 (by omega)) fun r ⟨hc, hl⟩ => .call (t_pick 24 hc (by omega)) fun r1 ⟨hc1, h10, h11⟩ => .chk (by omega) ?_
  have hq : 0 ≤ r1.1.tdiv 11 ∧ r1.1.tdiv 11 ≤ 2 := by
    rw [Int.tdiv_eq_ediv_of_nonneg h10]; omega
  have e1 : w64 (r1.1.tdiv 11) = r1.1.tdiv 11 := w64_id (by omega)
  have e2 : w64 (5 + r1.1.tdiv 11) = 5 + r1.1.tdiv 11 := w64_id (by omega)
  rw [e1, e2]
  refine .chk (by simp; omega) (.call (t_among _ ?_ hc1 (by omega)) fun r2 ⟨hc2, hm2⟩ => .ok ⟨by dsimp only; omega, ?_⟩)
  · intro h
    have := congrArg List.length h
    rw [List.length_drop, List.length_take] at this
    simp at this; omega
  · have := List.mem_of_mem_take (List.mem_of_mem_drop hm2)
    simp at this; dsimp only; omega
theorem drawSp_ok (code : List UInt8) : Tot (s_DrawSplitRevenue code) fun r => r.2.length ≤ 1000 := by
  have h0 := (cur0 code).mono (k' := 10) (by omega)
  unfold s_DrawSplitRevenue
  refine .call (t_pick 5 h0 (by omega)) fun r ⟨hc, h0, h1⟩ => ?_
  refine .call (P := fun o => Cur 200 ⟨o.1, o.2.1, ⟨o.2.2.1⟩⟩ ∧ 1 ≤ o.2.2.2.length ∧ o.2.2.2.length ≤ 5) ?_ fun ⟨v4, v5, v6, n1⟩ ⟨hc1, hl1, hl2⟩ => ?_
  · refine Tot.iter (fun m s => s.1 = (m : Int) ∧ 1 ≤ m + s.2.2.2.2.length ∧ m + s.2.2.2.2.length ≤ 5 ∧ Cur (12 + 2 * (5 - m)) ⟨s.2.1, s.2.2.1, ⟨s.2.2.2.1⟩⟩) (n := 1 + r.1.toNat) ⟨by dsimp only; rw [w64_id (by omega)]; omega, (by simp <;> omega), (by simp <;> omega), hc.mono (by omega)⟩ ?_
    rintro m ⟨v, v1, v2, v3, i⟩ ⟨hv, hl, hl2, hcur⟩
    simp only at hv hl hl2 hcur
    subst hv
    unfold s_DrawSplitRevenue_L1
    refine .iteP (fun hc => .call (t_among _ (by simp) hcur (by omega)) fun r3 ⟨hc3, _⟩ => .chk (by simp; omega) (.nx ⟨m - 1, by omega, ?_, (by simp <;> omega), (by simp; omega), hc3.mono (by omega)⟩)) (fun hc => .dn ⟨hcur.mono (by omega), by dsimp only; omega, by dsimp only; omega⟩)
    dsimp only; rw [w64_id (by omega)]; omega
  · dsimp only at hc1 hl1 hl2
    refine .call (P := fun o => Cur 1000 ⟨o.1, o.2.1, ⟨o.2.2.1⟩⟩ ∧ o.2.2.2.length ≤ 1000) ?_ fun ⟨v7, v8, v9, n2⟩ ⟨hc2, hl3⟩ => ?_
    · refine .call (t_pick 40 hc1 (by omega)) fun r2 ⟨hc2, _⟩ => .ite (fun _ => .call (t_among _ (by simp) hc2 (by omega)) fun r3 ⟨hc3, _⟩ => .idx (by omega) (by omega) fun e _ => .ok ⟨hc3.mono (by omega), by dsimp only; rw [List.length_set]; omega⟩) (fun _ => .ite (fun _ => ?_) (fun _ => .ok ⟨hc2.mono (by omega), by dsimp only; omega⟩))
      refine .call (P := fun o => Cur 1000 ⟨o.1, o.2.1, ⟨o.2.2.1⟩⟩ ∧ o.2.2.2.length ≤ 1000) ?_ fun ⟨v13, v14, v15, n4⟩ q => .ok q
      refine Tot.iter (fun m s => m + s.2.2.2.length = 12 ∧ Cur (202 + 2 * (12 - m)) ⟨s.1, s.2.1, ⟨s.2.2.1⟩⟩) (n := 12 - n1.length) ⟨by dsimp only; omega, hc2.mono (by omega)⟩ ?_
      rintro m ⟨v10, v11, v12, i⟩ ⟨hl, hcur⟩
      simp only at hl hcur
      unfold s_DrawSplitRevenue_L2
      refine .call (t_pick 2 hcur (by omega)) fun r4 ⟨hc4, h40, h41⟩ => ?_
      have e1 : w64 (10 + r4.1) = 10 + r4.1 := w64_id (by omega)
      rw [e1]
      exact .iteP (fun hc => .chk (by simp; omega) (.nx ⟨m - 1, by omega, by simp; omega, hc4.mono (by omega)⟩)) (fun hc => .dn ⟨hc4.mono (by omega), by dsimp only; omega⟩)
    · dsimp only at hc2 hl3
      refine .call (t_pick 24 hc2 (by omega)) fun r5 ⟨hc5, h50, h51⟩ => .chk (by omega) ?_
      have hq : 0 ≤ r5.1.tdiv 11 ∧ r5.1.tdiv 11 ≤ 2 := by
        rw [Int.tdiv_eq_ediv_of_nonneg h50]; omega
      have e1 : w64 (r5.1.tdiv 11) = r5.1.tdiv 11 := w64_id (by omega)
      have e2 : w64 (6 + r5.1.tdiv 11) = 6 + r5.1.tdiv 11 := w64_id (by omega)
      rw [e1, e2]
      refine .chk (by simp; omega) (.call (t_among _ ?_ hc5 (by omega)) fun r6 _ => .ok hl3)
      intro h
      have := congrArg List.length h
      rw [List.length_drop, List.length_take] at this
      simp at this; omega
theorem fares_true (code : List UInt8) : v_FnFares code = some true := by
  unfold v_FnFares
  rw [rBig_eq]
  refine Tot.val (Tot.eq rfl (.iteP (fun _ => .ok rfl) (fun hlen => ?_)))
  refine .call (drawJF_ok code) fun ⟨n, zones, p, legs⟩ ⟨hb, hzl, hpl, hll⟩ => ?_
  dsimp only at hb hzl hpl hll ⊢
  refine .eq (iJF_eq hb hzl hpl legs hll) (.eq (sJF_eq hb hzl hpl legs hll) ?_)
  have hJ : (JF n zones p legs).2 = true → Good n ∧ ZonesP n zones := fun h => by
    unfold JF at h
    by_cases c : (Good n ∧ ZonesP n zones) ∧ legs.length ≤ 6 ∧ ∀ l ∈ legs, LegOK n l
    · exact c.1
    · rw [if_neg c] at h; cases h
  refine .call (P := fun v => v = false) (.ite (fun h => by simp at h) (fun _ => .ite (fun h => by simp at h) (fun _ => .ite (fun ht => .eq (validZ_eq hb hzl) (.ok ?_)) (fun _ => .ok rfl)))) fun v hv => ?_
  · have := hJ ht; simp [this]
  subst hv
  refine .ite (fun h => by cases h) (fun _ => ?_)
  refine .flb (Tot.mono (P := fun v => v = .go ()) ?_ fun v hv => ⟨fun r e => (by rw [hv] at e; cases e), fun u _ => ?_⟩)
  · refine Tot.iter (fun m (s : Int) => ∃ j : Nat, s = (j : Int) ∧ m + j = legs.length) (n := legs.length) ⟨0, rfl, by omega⟩ ?_
    rintro m s ⟨j, rfl, hm⟩
    unfold v_FnFares_L2
    dsimp only
    refine .call (P := fun b => b = true → (JF n zones p legs).2 = true ∧ j < legs.length) (.iteP (fun h => .ok fun hf => ⟨hf, by omega⟩) (fun _ => .ok fun h => by cases h)) fun b hb2 => .ite (fun hbt => ?_) (fun _ => .dn rfl)
    obtain ⟨hf, hj⟩ := hb2 hbt
    obtain ⟨l, hl⟩ := get_ex hj
    obtain ⟨hv, ⟨a, b', c, e, hL⟩, h1, h2⟩ := JF_one hf hl
    have ew : w64 ((j : Int) + 1) = ((j + 1 : Nat) : Int) := w64_succ (by omega)
    have hsl : (legs.take (w64 ((j : Int) + 1)).toNat).drop ((j : Int)).toNat = [l] := by
      rw [ew, Int.toNat_natCast, Int.toNat_natCast, take_succ hl, List.drop_append_of_le_length (by rw [List.length_take]; omega), List.drop_eq_nil_of_le (by rw [List.length_take]; omega)]; rfl
    rw [hsl]
    obtain ⟨rfl, hL'⟩ := id hL
    have hi := ixs hl
    refine .chk (by rw [ew]; omega) (.eq (iJF_eq hb hzl hpl _ (by simp)) (.eq hi (.eq (by rfl) (.eq hi (.eq (by rfl) (.eq hi (.eq (by rfl) (.call (ztw_ok hb hzl hv.1 hv.2 hL) fun r ⟨r1, r2, r3⟩ => ?_))))))))
    refine .call (P := fun v => v = false) (.ite (fun h => by simp [h1] at h) (fun _ => .ite (fun h => by simp [r1] at h) (fun _ => .ok (decide_eq_false (by omega))))) fun v hv => ?_
    subst hv
    refine .ite (fun h => by cases h) (fun _ => ?_)
    refine .flb (Tot.mono (P := fun v => v = .go ()) ?_ fun v hv => ⟨fun r e => (by rw [hv] at e; cases e), fun u _ => .nx ⟨m - 1, by omega, j + 1, ew, by omega⟩⟩)
    refine Tot.iter (fun q (s : Int) => ∃ i : Nat, s = (i : Int) ∧ q + i = r.1.length) (n := r.1.length) ⟨0, rfl, by omega⟩ ?_
    rintro q s ⟨i, rfl, hq⟩
    unfold v_FnFares_L1
    refine .iteP (fun hc => ?_) (fun hc => .dn rfl)
    obtain ⟨x, hx⟩ := get_ex (l := r.1) (i := i) (by omega)
    exact .eq (ixs hx) (.eq (rHas_true (by dsimp only; omega) (r3 x (List.mem_of_getElem? hx))) (.ite (fun h => by cases h) (fun _ => .nx ⟨q - 1, by omega, i + 1, w64_succ (by omega), by omega⟩)))
  refine .call (drawSF_ok code) fun ⟨q, count⟩ ⟨hql, hc0, hc1⟩ => ?_
  dsimp only at hql hc0 hc1 ⊢
  refine .eq (iSF_eq hql count) (.eq (sSF_eq hql count) (.call (P := fun v => v = false) (.ite (fun h => by simp at h) (fun _ => .ok (by simp))) fun v hv => ?_))
  subst hv
  refine .ite (fun h => by cases h) (fun _ => .eq (iSF_eq hql _) ?_)
  have ew : w64 (count + 1) = count + 1 := w64_id (by omega)
  rw [ew]
  refine .call (P := fun v => v = false) (.ite (fun h1 => .ite (fun h2 => .ok (decide_eq_false ?_)) (fun _ => .ok rfl)) (fun _ => .ok rfl)) fun v hv => ?_
  · have := SF_mono h1 h2 (by omega); omega
  subst hv
  refine .ite (fun h => by cases h) (fun _ => ?_)
  refine .call (drawSp_ok code) fun ⟨amount, mins⟩ hml => ?_
  dsimp only at hml ⊢
  refine .eq (iSplit_eq amount mins (by omega)) (.eq (sSplit_eq amount mins (by omega)) (.call (P := fun v => v = true) (.ite (fun _ => ?_) (fun h => by simp at h)) fun v hv => .ok hv))
  unfold splR
  by_cases h : SpP amount mins
  · rw [if_pos h]
    dsimp only
    obtain ⟨q1, q2, q3⟩ := spl_ok h
    exact .eq (rInts_refl _ (by omega)) (.ite (fun _ => .ite (fun h => by cases h) (fun _ => .eq (rSum_ok (by omega) fun x hx => by have := q3 x hx; omega) (.ok (by rw [q2]; simp)))) (fun h => by cases h))
  · rw [if_neg h]
    dsimp only
    exact .eq (rInts_refl _ (by simp)) (.ite (fun _ => .ite (fun _ => .ok rfl) (fun h => by cases h)) (fun h => by cases h))
end Go.Proofs.Ytfknbpimkleimaa
