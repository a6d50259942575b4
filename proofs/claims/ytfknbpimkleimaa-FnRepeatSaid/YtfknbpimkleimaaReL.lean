/- The plain law: what the models compute, no program in sight. -/
import Derived.Test.YtfknbpimkleimaaReM
import Derived.Test.YtfknbpimkleimaaAbStb
namespace Go.Proofs.Ytfknbpimkleimaa
open Go Go.Ab
set_option maxHeartbeats 4000000
set_option linter.unusedVariables false
set_option linter.unusedSimpArgs false
/-! The cursor of the draws: it always answers. -/
def Cur (k : Nat) (c : l1Cur) : Prop := 0 ≤ c.at_ ∧ c.at_ ≤ k
theorem Cur.mono {k k' : Nat} {c : l1Cur} (h : Cur k c) (hk : k ≤ k') : Cur k' c := ⟨h.1, by have := h.2; omega⟩
theorem next_ok {k : Nat} {c : l1Cur} (h : Cur k c) (hk : k ≤ 4000000000) : ∃ r, s_l1Cur_next c = some r ∧ Cur (k + 1) r.2 ∧ 0 ≤ r.1 ∧ r.1 ≤ 255 := by
  obtain ⟨h0, h1⟩ := h
  have hw : w64 (c.at_ + 1) = c.at_ + 1 := w64_id (by omega)
  have hcur : ∀ s, Cur (k + 1) ⟨c.code_, w64 (c.at_ + 1), s⟩ := fun s => by rw [hw]; exact ⟨by show 0 ≤ c.at_ + 1; omega, by show c.at_ + 1 ≤ _; omega⟩
  unfold s_l1Cur_next
  have hv : ∃ v, (if (decide (c.at_ < (c.code_.length : Int))) = true then (idx c.code_ c.at_).bind fun e1 => some (w64 ((e1.toNat : Int))) else some 0) = some v ∧ 0 ≤ v ∧ v ≤ 255 := by
    by_cases hlt : c.at_ < c.code_.length
    · obtain ⟨x, hx, _, _⟩ := idx_lt h0 hlt
      have := x.toNat_lt
      refine ⟨(x.toNat : Int), ?_, by omega, by omega⟩
      simp only [hlt, decide_true, if_true, hx, Option.bind_some]
      rw [w64_id (by omega)]
    · exact ⟨0, by simp [hlt], by omega, by omega⟩
  obtain ⟨v, hv, hv0, hv1⟩ := hv
  rw [hv]
  simp only [Option.bind_some]
  split
  · exact ⟨_, rfl, hcur _, hv0, hv1⟩
  · rw [chk_of (by omega)]
    exact ⟨_, rfl, hcur _, and255 _⟩
theorem pick_ok {k : Nat} {c : l1Cur} (n : Int) (h : Cur k c) (hk : k ≤ 3000000000) : ∃ r, s_l1Cur_pick c n = some r ∧ Cur (k + 2) r.2 ∧ 0 ≤ r.1 ∧ (r.1 < n ∨ r.1 = 0) := by
  unfold s_l1Cur_pick
  by_cases hn : n ≤ 1
  · exact ⟨(0, c), by simp [hn], h.mono (by omega), by simp, .inr rfl⟩
  · obtain ⟨r, hr, hc, h0, h1⟩ := next_ok h (by omega)
    have hn' : decide (n ≤ 1) = false := by simpa using hn
    simp only [hn', Bool.false_eq_true, if_false, hr, Option.bind_some]
    have hne : chk (n ≠ 0) = some () := chk_of (by omega)
    by_cases h2 : 200 < n
    · obtain ⟨r', hr', hc', h0', h1'⟩ := next_ok hc (by omega)
      have e1 : w64 (r.1 * 256) = r.1 * 256 := w64_id (by omega)
      have e2 : w64 (r.1 * 256 + r'.1) = r.1 * 256 + r'.1 := w64_id (by omega)
      have h3 := tmod_rng (a := r.1 * 256 + r'.1) (b := n) (by omega) (by omega)
      simp only [h2, decide_true, if_true, hr', Option.bind_some, hne, e1, e2]
      exact ⟨_, rfl, hc'.mono (by omega), h3.1, .inl h3.2⟩
    · have h2' : decide (200 < n) = false := by simpa using h2
      have h3 := tmod_rng (a := r.1) (b := n) (by omega) (by omega)
      simp only [h2', Bool.false_eq_true, if_false, Option.bind_some, hne]
      exact ⟨_, rfl, hc.mono (by omega), h3.1, .inl h3.2⟩
theorem amongw_ok {k : Nat} {c : l1Cur} (l : List Int) (hl : l ≠ []) (h : Cur k c) (hk : k ≤ 3000000000) : ∃ r, s_l1Cur_among_w c l = some r ∧ Cur (k + 2) r.2 ∧ r.1 ∈ l := by
  unfold s_l1Cur_among_w
  obtain ⟨r, hr, hc, h0, h1⟩ := pick_ok (l.length : Int) h hk
  have hpos : 0 < l.length := List.length_pos_iff.2 hl
  obtain ⟨x, hx, _, hm⟩ := idx_lt (l := l) h0 (by omega)
  simp only [hr, Option.bind_some, hx]
  exact ⟨_, rfl, hc, hm⟩
theorem among_ok {k : Nat} {c : l1Cur} (l : List Int) (hl : l ≠ []) (h : Cur k c) (hk : k ≤ 3000000000) : ∃ r, s_l1Cur_among c l = some r ∧ Cur (k + 2) r.2 ∧ r.1 ∈ l := by
  have : s_l1Cur_among c l = s_l1Cur_among_w c l := rfl
  rw [this]; exact amongw_ok l hl h hk
theorem one_ok {k : Nat} {c : l1Cur} (n : Int) (h : Cur k c) (hk : k ≤ 3000000000) : ∃ r, s_l1Cur_one c n = some r ∧ Cur (k + 2) r.2 := by
  unfold s_l1Cur_one
  obtain ⟨r, hr, hc, _, _⟩ := pick_ok n h hk
  simp only [hr, Option.bind_some]
  exact ⟨_, rfl, hc⟩
theorem of_ok {k : Nat} {c : l1Cur} (l : List ByteArray) (hl : l ≠ []) (h : Cur k c) (hk : k ≤ 3000000000) : ∃ r, s_l1Cur_of c l = some r ∧ Cur (k + 2) r.2 ∧ r.1 ∈ l := by
  unfold s_l1Cur_of
  obtain ⟨r, hr, hc, h0, h1⟩ := pick_ok (l.length : Int) h hk
  have hpos : 0 < l.length := List.length_pos_iff.2 hl
  obtain ⟨x, hx, _, hm⟩ := idx_lt (l := l) h0 (by omega)
  simp only [hr, Option.bind_some, hx]
  exact ⟨_, rfl, hc, hm⟩
theorem ofw_ok {k : Nat} {c : l1Cur} (l : List ByteArray) (hl : l ≠ []) (h : Cur k c) (hk : k ≤ 3000000000) : ∃ r, s_l1Cur_of_w c l = some r ∧ Cur (k + 2) r.2 ∧ r.1 ∈ l := by
  have : s_l1Cur_of_w c l = s_l1Cur_of c l := rfl
  rw [this]; exact of_ok l hl h hk
theorem cur0 (code : List UInt8) : Cur 0 ⟨code, 0, ⟨0⟩⟩ := ⟨by show (0 : Int) ≤ 0; omega, by show (0 : Int) ≤ _; omega⟩
/-! Networks: when they are valid, for the program and for the reference. -/
theorem within_eq (n lo hi : Int) : i_within n lo hi = some (decide (lo ≤ n ∧ n ≤ hi)) := by
  unfold i_within
  by_cases h : lo ≤ n <;> simp [h]
theorem l1In_eq (n lo hi : Int) : s_l1In n lo hi = some (decide (lo ≤ n ∧ n ≤ hi)) := by
  unfold s_l1In
  by_cases h : lo ≤ n <;> simp [h]
/-- Byte i of a name. -/
def ChOK (i : Nat) (c : UInt8) : Prop := (97 ≤ (c.toNat : Int) ∧ (c.toNat : Int) ≤ 122) ∨ (i ≠ 0 ∧ 48 ≤ (c.toNat : Int) ∧ (c.toNat : Int) ≤ 57)
def NameOK (s : ByteArray) : Prop := (1 ≤ s.size ∧ s.size ≤ 8) ∧ ∀ (i : Nat) c, s.data.toList[i]? = some c → ChOK i c
open Classical in
noncomputable instance (s : ByteArray) : Decidable (NameOK s) := Classical.propDecidable _
theorem size_list (s : ByteArray) : s.data.toList.length = s.size := by simp
theorem getD_of {α : Type} {l : List α} {i : Nat} {x d : α} (h : l[i]? = some x) : l.getD i d = x := by rw [List.getD_eq_getElem?_getD, h]; rfl

theorem isName_eq (s : ByteArray) : i_isName s = some (decide (NameOK s)) := by
  unfold i_isName
  by_cases h1 : 1 ≤ s.size ∧ s.size ≤ 8
  · have e1 : decide ((s.size : Int) < 1) = false := by simp; omega
    have e2 : decide (8 < (s.size : Int)) = false := by simp; omega
    simp only [e1, e2, Bool.false_eq_true, if_false, Option.bind_some]
    have hsz := size_list s
    have key := all_loop s.data.toList ChOK (step := i_isName_L1 s) ?_ ?_ 0 0 rfl (by omega)
    · rcases key with ⟨g1, g2⟩ | ⟨g1, g2⟩
      · rw [g1, flb_go]
        have : NameOK s := ⟨h1, fun i c hc => g2 i c (by omega) hc⟩
        simp [this]
      · rw [g1, flb_ret]
        have : ¬ NameOK s := fun hn => g2 fun i c _ hc => hn.2 i c hc
        simp [this]
    · intro i x hx
      have hi := (List.getElem?_eq_some_iff.1 hx).1
      have hg : s.data.toList.getD (i : Int).toNat 0 = x := by rw [Int.toNat_natCast]; exact getD_of hx
      have hc : chk ((0 : Int) ≤ (i : Int) ∧ (i : Int) < (s.size : Int)) = some () := chk_of (by omega)
      have hlt : decide ((i : Int) < (s.size : Int)) = true := by simp; omega
      unfold i_isName_L1
      simp only [hlt, if_true, hc, hg, Option.bind_some, w64_succ (n := i) (by omega)]
      unfold ChOK
      by_cases a1 : (97 : Int) ≤ (x.toNat : Int)
      · by_cases a2 : (x.toNat : Int) ≤ 122
        · left; refine ⟨by simp [a1, a2], .inl ⟨a1, a2⟩⟩
        · right
          refine ⟨?_, by omega⟩
          have b1 : decide ((x.toNat : Int) < 48) = false := by simp; omega
          have b2 : decide ((57 : Int) < (x.toNat : Int)) = true := by simp; omega
          have c1 : ¬ (x.toNat : Int) < 48 := by omega
          have c2 : (57 : Int) < (x.toNat : Int) := by omega
          by_cases hi0 : i = 0
          · simp [a1, a2, hi0]
          · have hi0' : ((i : Int) == 0) = false := by simp; omega
            simp [a1, a2, hi0', c1, c2]
      · by_cases hi0 : i = 0
        · right
          refine ⟨by simp [a1, hi0], by omega⟩
        · have hi0' : ((i : Int) == 0) = false := by simp; omega
          by_cases b1 : (x.toNat : Int) < 48
          · right
            refine ⟨by simp [a1, hi0', b1], by omega⟩
          · by_cases b2 : (57 : Int) < (x.toNat : Int)
            · right
              refine ⟨by simp [a1, hi0', b1, b2], by omega⟩
            · left
              refine ⟨by simp [a1, hi0', b1, b2], .inr ⟨hi0, by omega, by omega⟩⟩
    · unfold i_isName_L1
      rw [hsz]
      simp
  · have : ¬ NameOK s := fun h => h1 h.1
    have e : (if (decide ((s.size : Int) < 1)) = true then some true else some (decide (8 < (s.size : Int)))) = some true := by
      by_cases h2 : s.size < 1
      · have : decide ((s.size : Int) < 1) = true := by simp; omega
        simp [this]
      · have e1 : decide ((s.size : Int) < 1) = false := by simp; omega
        have e2 : decide (8 < (s.size : Int)) = true := by simp; omega
        simp [e1, e2]
    rw [e]
    simp [this]

theorem l2Name_eq (s : ByteArray) : s_l2Name s = some (decide (NameOK s)) := by
  unfold s_l2Name
  rw [l1In_eq]
  simp only [Option.bind_some]
  by_cases h1 : 1 ≤ s.size ∧ s.size ≤ 8
  · have e1 : decide ((1 : Int) ≤ (s.size : Int) ∧ (s.size : Int) ≤ 8) = true := by simp; omega
    have hsz := size_list s
    obtain ⟨x0, hx0⟩ := get_ex (l := s.data.toList) (i := 0) (by omega)
    have hg0 : s.data.toList.getD (0 : Int).toNat 0 = x0 := getD_of hx0
    have hc0 : chk ((0 : Int) ≤ 0 ∧ 0 < (s.size : Int)) = some () := chk_of (by omega)
    simp only [e1, Bool.not_true, Bool.false_eq_true, if_false, hc0, hg0, Option.bind_some]
    by_cases a0 : 97 ≤ (x0.toNat : Int) ∧ (x0.toNat : Int) ≤ 122
    · have b1 : decide ((x0.toNat : Int) < 97) = false := by simp; omega
      have b2 : decide ((122 : Int) < (x0.toNat : Int)) = false := by simp; omega
      simp only [b1, b2, Bool.false_eq_true, if_false, Option.bind_some]
      have key := all_loop s.data.toList ChOK (step := s_l2Name_L1 s) ?_ ?_ 0 0 rfl (by omega)
      · rcases key with ⟨g1, g2⟩ | ⟨g1, g2⟩
        · rw [g1, flb_go]
          have : NameOK s := ⟨h1, fun i c hc => g2 i c (by omega) hc⟩
          simp [this]
        · rw [g1, flb_ret]
          have : ¬ NameOK s := fun hn => g2 fun i c _ hc => hn.2 i c hc
          simp [this]
      · intro i x hx
        have hi := (List.getElem?_eq_some_iff.1 hx).1
        have hg : s.data.toList.getD (i : Int).toNat 0 = x := by rw [Int.toNat_natCast]; exact getD_of hx
        have hc : chk ((0 : Int) ≤ (i : Int) ∧ (i : Int) < (s.size : Int)) = some () := chk_of (by omega)
        have hlt : decide ((i : Int) < (s.size : Int)) = true := by simp; omega
        have h0 : i = 0 → x = x0 := fun h => by subst h; rw [hx0] at hx; cases hx; rfl
        unfold s_l2Name_L1
        simp only [hlt, if_true, hc, hg, Option.bind_some, w64_succ (n := i) (by omega)]
        unfold ChOK
        by_cases a1 : (x.toNat : Int) < 97
        · have hi0 : i ≠ 0 := fun h => by have := h0 h; subst this; omega
          by_cases c1 : (x.toNat : Int) < 48
          · right; refine ⟨by simp [a1, c1], by omega⟩
          · by_cases c2 : (57 : Int) < (x.toNat : Int)
            · right; refine ⟨by simp [a1, c1, c2], by omega⟩
            · left; refine ⟨by simp [a1, c1, c2], .inr ⟨hi0, by omega, by omega⟩⟩
        · by_cases a2 : (122 : Int) < (x.toNat : Int)
          · right
            have c1 : ¬ (x.toNat : Int) < 48 := by omega
            have c2 : (57 : Int) < (x.toNat : Int) := by omega
            refine ⟨by simp [a1, a2, c1, c2], by omega⟩
          · left; refine ⟨by simp [a1, a2], .inl ⟨by omega, by omega⟩⟩
      · unfold s_l2Name_L1
        rw [hsz]
        simp
    · have : ¬ NameOK s := fun hn => by
        have := hn.2 0 x0 hx0
        unfold ChOK at this
        omega
      have e : (if (decide ((x0.toNat : Int) < 97)) = true then some true else some (decide ((122 : Int) < (x0.toNat : Int)))) = some true := by
        by_cases h2 : (x0.toNat : Int) < 97
        · simp [h2]
        · have : (122 : Int) < (x0.toNat : Int) := by omega
          simp [h2, this]
      rw [e]
      simp [this]
  · have e1 : decide ((1 : Int) ≤ (s.size : Int) ∧ (s.size : Int) ≤ 8) = false := by simp; omega
    have : ¬ NameOK s := fun h => h1 h.1
    simp [e1, this]

/-! Searches -/
theorem index_str_eq (l : List ByteArray) (hl : l.length ≤ 4000000000) (v : ByteArray) : slices_Index_string l v = some (fixI (fun e => v.toList == e.toList) l) := by
  unfold slices_Index_string
  refine find_val l (fun e => v.toList == e.toList) (fun i x hx => ?_) (by unfold slices_Index_string_L1; simp)
  have hi := (List.getElem?_eq_some_iff.1 hx).1
  unfold slices_Index_string_L1
  have hlt : decide ((i : Int) < (l.length : Int)) = true := by simp; omega
  simp only [hlt, if_true, idx_nat, hx, Option.bind_some, w64_succ (n := i) (by omega)]
  split <;> rfl
theorem index_int_eq (l : List Int) (hl : l.length ≤ 4000000000) (v : Int) : slices_Index_int l v = some (fixI (fun e => v == e) l) := by
  unfold slices_Index_int
  refine find_val l (fun e => v == e) (fun i x hx => ?_) (by unfold slices_Index_int_L1; simp)
  have hi := (List.getElem?_eq_some_iff.1 hx).1
  unfold slices_Index_int_L1
  have hlt : decide ((i : Int) < (l.length : Int)) = true := by simp; omega
  simp only [hlt, if_true, idx_nat, hx, Option.bind_some, w64_succ (n := i) (by omega)]
  split <;> rfl
theorem l2Place_eq (x : Line) (hl : x.Stops.length ≤ 4000000000) (v : Int) : s_l2Place x v = some (fixI (fun e => v == e) x.Stops) := by
  have hc : fixI (fun e => v == e) x.Stops = fixI (fun e => e == v) x.Stops := fixI_congr _ fun e => BEq.comm
  rw [hc]
  unfold s_l2Place
  refine find_val x.Stops (fun e => e == v) (fun i y hx => ?_) (by unfold s_l2Place_L1; simp)
  have hi := (List.getElem?_eq_some_iff.1 hx).1
  unfold s_l2Place_L1
  have hlt : decide ((i : Int) < (x.Stops.length : Int)) = true := by simp; omega
  simp only [hlt, if_true, idx_nat, hx, Option.bind_some, w64_succ (n := i) (by omega)]
  split <;> rfl
theorem bl_comm (a b : List UInt8) : (a == b) = (b == a) := BEq.comm
theorem l2Find_eq (l : List ByteArray) (hl : l.length ≤ 4000000000) (v : ByteArray) : s_l2Find l v = some (fixI (fun e => v.toList == e.toList) l) := by
  rw [fixI_congr l (q := fun e => e.toList == v.toList) fun e => bl_comm _ _]
  unfold s_l2Find
  refine find_val l (fun e => e.toList == v.toList) (fun i x hx => ?_) (by unfold s_l2Find_L1; simp)
  have hi := (List.getElem?_eq_some_iff.1 hx).1
  unfold s_l2Find_L1
  have hlt : decide ((i : Int) < (l.length : Int)) = true := by simp; omega
  simp only [hlt, if_true, idx_nat, hx, Option.bind_some, w64_succ (n := i) (by omega)]
  split <;> rfl
theorem l2LineNamed_eq (n : Network) (hl : n.Lines.length ≤ 4000000000) (v : ByteArray) : s_l2LineNamed n v = some (fixI (fun e => v.toList == e.toList) (n.Lines.map (·.Name))) := by
  rw [fixI_map, fixI_congr n.Lines (q := fun e => e.Name.toList == v.toList) fun e => bl_comm _ _]
  unfold s_l2LineNamed
  refine find_val n.Lines (fun e => e.Name.toList == v.toList) (fun i x hx => ?_) (by unfold s_l2LineNamed_L1; simp)
  have hi := (List.getElem?_eq_some_iff.1 hx).1
  unfold s_l2LineNamed_L1
  have hlt : decide ((i : Int) < (n.Lines.length : Int)) = true := by simp; omega
  simp only [hlt, if_true, idx_nat, hx, Option.bind_some, w64_succ (n := i) (by omega)]
  split <;> rfl
def NamesP (l : List ByteArray) : Prop := ∀ (i : Nat) x, l[i]? = some x → NameOK x ∧ fixI (fun e => x.toList == e.toList) l = (i : Int)
def LineP (st : Nat) (x : Line) : Prop := (2 ≤ x.Stops.length ∧ x.Stops.length ≤ 6) ∧ (x.Runs.length : Int) = (x.Stops.length : Int) - 1 ∧
  (∀ (i : Nat) e, x.Stops[i]? = some e → (0 ≤ e ∧ e < (st : Int)) ∧ fixI (fun y => e == y) x.Stops = (i : Int)) ∧ ∀ (i : Nat) r, x.Runs[i]? = some r → 1 ≤ r ∧ r ≤ 60
def Good (n : Network) : Prop := (2 ≤ n.Stops.length ∧ n.Stops.length ≤ 8) ∧ (1 ≤ n.Lines.length ∧ n.Lines.length ≤ 5) ∧ NamesP n.Stops ∧ NamesP (n.Lines.map (·.Name)) ∧ ∀ (i : Nat) x, n.Lines[i]? = some x → LineP n.Stops.length x
noncomputable instance (l : List ByteArray) : Decidable (NamesP l) := Classical.propDecidable _
noncomputable instance (st : Nat) (x : Line) : Decidable (LineP st x) := Classical.propDecidable _
noncomputable instance (n : Network) : Decidable (Good n) := Classical.propDecidable _
/-- No list is too long. -/
def Bd (n : Network) : Prop := n.Stops.length ≤ 1000 ∧ n.Lines.length ≤ 1000 ∧ ∀ x ∈ n.Lines, x.Stops.length ≤ 1000 ∧ x.Runs.length ≤ 1000

theorem areNames_eq (l : List ByteArray) (hl : l.length ≤ 1000) : i_areNames l = some (decide (NamesP l)) := by
  unfold i_areNames
  rw [all_val (hd := Classical.propDecidable _) l (fun i x => NameOK x ∧ fixI (fun e => x.toList == e.toList) l = (i : Int)) (fun i x hx => ?_) (by unfold i_areNames_L1; simp)]
  · by_cases h : NamesP l
    · rw [if_pos (show ∀ (i : Nat) x, l[i]? = some x → NameOK x ∧ fixI (fun e => x.toList == e.toList) l = (i : Int) from h)]; simp [h]
    · rw [if_neg (show ¬ ∀ (i : Nat) x, l[i]? = some x → NameOK x ∧ fixI (fun e => x.toList == e.toList) l = (i : Int) from h)]; simp [h]
  · have hi := (List.getElem?_eq_some_iff.1 hx).1
    unfold i_areNames_L1
    have hlt : decide ((i : Int) < (l.length : Int)) = true := by simp; omega
    simp only [hlt, if_true, idx_nat, hx, Option.bind_some, isName_eq, index_str_eq l (by omega), w64_succ (n := i) (by omega)]
    by_cases h1 : NameOK x
    · by_cases h2 : fixI (fun e => x.toList == e.toList) l = (i : Int)
      · left; simp [h1, h2]
      · right; simp [h1, h2]
    · right; simp [h1]

theorem lineNames_eq (n : Network) (hl : n.Lines.length ≤ 1000) : i_lineNames n = some (n.Lines.map (·.Name)) := by
  unfold i_lineNames
  rw [chk_of (by omega)]
  simp only [Option.bind_some]
  rw [fill_loop (fun x : Line => x.Name) n.Lines _ (by simp) (fun i a x y ha hy hx => ?_) (fun a ha => ?_)]
  · rfl
  · have hi := (List.getElem?_eq_some_iff.1 hx).1
    unfold i_lineNames_L1
    have hlt : decide ((i : Int) < (n.Lines.length : Int)) = true := by simp; omega
    simp only [hlt, if_true, idx_nat, hx, hy, Option.bind_some, w64_succ (n := i) (by omega), Int.toNat_natCast]
  · unfold i_lineNames_L1; simp

theorem isStop_eq (n : Network) (e : Int) : i_isStop n e = some (decide (0 ≤ e ∧ e < (n.Stops.length : Int))) := by
  unfold i_isStop
  by_cases h : 0 ≤ e <;> simp [h]
theorem isLine_eq (n : Network) (e : Int) : i_isLine n e = some (decide (0 ≤ e ∧ e < (n.Lines.length : Int))) := by
  unfold i_isLine
  by_cases h : 0 ≤ e <;> simp [h]

theorem isValidLine_eq (n : Network) (l : Line) (h1 : l.Stops.length ≤ 1000) (h2 : l.Runs.length ≤ 1000) : i_isValidLine n l = some (decide (LineP n.Stops.length l)) := by
  unfold i_isValidLine
  rw [within_eq]
  have e0 : w64 ((l.Stops.length : Int) - 1) = (l.Stops.length : Int) - 1 := w64_id (by omega)
  simp only [Option.bind_some, e0]
  by_cases a1 : 2 ≤ l.Stops.length ∧ l.Stops.length ≤ 6
  · have d1 : decide ((2 : Int) ≤ (l.Stops.length : Int) ∧ (l.Stops.length : Int) ≤ 6) = true := by simp; omega
    simp only [d1, Bool.not_true, Bool.false_eq_true, if_false]
    by_cases a2 : (l.Runs.length : Int) = (l.Stops.length : Int) - 1
    · have d2 : ((l.Runs.length : Int) != (l.Stops.length : Int) - 1) = false := by simp [a2]
      simp only [d2, Option.bind_some, Bool.false_eq_true, if_false]
      rw [all_val (hd := Classical.propDecidable _) l.Stops (fun i e => (0 ≤ e ∧ e < (n.Stops.length : Int)) ∧ fixI (fun y => e == y) l.Stops = (i : Int)) (fun i x hx => ?_) (by unfold i_isValidLine_L1; simp)]
      · rw [all_val (hd := Classical.propDecidable _) l.Runs (fun i r => 1 ≤ r ∧ r ≤ 60) (fun i x hx => ?_) (by unfold i_isValidLine_L2; simp)]
        · by_cases b1 : ∀ (i : Nat) e, l.Stops[i]? = some e → (0 ≤ e ∧ e < (n.Stops.length : Int)) ∧ fixI (fun y => e == y) l.Stops = (i : Int)
          · rw [if_pos b1]
            by_cases b2 : ∀ (i : Nat) r, l.Runs[i]? = some r → 1 ≤ r ∧ r ≤ 60
            · rw [if_pos b2]
              have : LineP n.Stops.length l := ⟨a1, a2, b1, b2⟩
              simp [this]
            · rw [if_neg b2]
              have : ¬ LineP n.Stops.length l := fun h => b2 h.2.2.2
              simp [this]
          · rw [if_neg b1]
            have : ¬ LineP n.Stops.length l := fun h => b1 h.2.2.1
            simp [this]
        · have hi := (List.getElem?_eq_some_iff.1 hx).1
          unfold i_isValidLine_L2
          have hlt : decide ((i : Int) < (l.Runs.length : Int)) = true := by simp; omega
          simp only [hlt, if_true, idx_nat, hx, Option.bind_some, within_eq, w64_succ (n := i) (by omega)]
          by_cases b : 1 ≤ x ∧ x ≤ 60
          · left; simp [b]
          · right; simp [b]
      · have hi := (List.getElem?_eq_some_iff.1 hx).1
        unfold i_isValidLine_L1
        have hlt : decide ((i : Int) < (l.Stops.length : Int)) = true := by simp; omega
        simp only [hlt, if_true, idx_nat, hx, Option.bind_some, isStop_eq, index_int_eq l.Stops (by omega), w64_succ (n := i) (by omega)]
        by_cases b1 : 0 ≤ x ∧ x < (n.Stops.length : Int)
        · by_cases b2 : fixI (fun y => x == y) l.Stops = (i : Int)
          · left; simp [b1, b2]
          · right; simp [b1, b2]
        · right; simp [b1]
    · have d2 : ((l.Runs.length : Int) != (l.Stops.length : Int) - 1) = true := by simp [a2]
      have : ¬ LineP n.Stops.length l := fun h => a2 h.2.1
      simp [d2, this]
  · have d1 : decide ((2 : Int) ≤ (l.Stops.length : Int) ∧ (l.Stops.length : Int) ≤ 6) = false := by simp; omega
    have : ¬ LineP n.Stops.length l := fun h => a1 h.1
    simp [d1, this]

theorem l2Line_eq (l : Line) (st : Nat) (hst : st ≤ 1000) (h1 : l.Stops.length ≤ 1000) (h2 : l.Runs.length ≤ 1000) : s_l2Line l (st : Int) = some (decide (NameOK l.Name ∧ LineP st l)) := by
  unfold s_l2Line
  rw [l2Name_eq]
  have e0 : w64 ((l.Stops.length : Int) - 1) = (l.Stops.length : Int) - 1 := w64_id (by omega)
  have e1 : w64 ((st : Int) - 1) = (st : Int) - 1 := w64_id (by omega)
  simp only [Option.bind_some, e0, l1In_eq]
  by_cases a0 : NameOK l.Name
  · simp only [a0, decide_true, Bool.not_true, Bool.false_eq_true, if_false, true_and]
    by_cases a1 : 2 ≤ l.Stops.length ∧ l.Stops.length ≤ 6
    · have d1 : decide ((2 : Int) ≤ (l.Stops.length : Int) ∧ (l.Stops.length : Int) ≤ 6) = true := by simp; omega
      simp only [d1, Bool.not_true, Bool.false_eq_true, if_false]
      by_cases a2 : (l.Runs.length : Int) = (l.Stops.length : Int) - 1
      · have d2 : ((l.Runs.length : Int) != (l.Stops.length : Int) - 1) = false := by simp [a2]
        simp only [d2, Option.bind_some, Bool.false_eq_true, if_false]
        rw [all_val (hd := Classical.propDecidable _) l.Stops (fun i e => (0 ≤ e ∧ e < (st : Int)) ∧ fixI (fun y => e == y) l.Stops = (i : Int)) (fun i x hx => ?_) (by unfold s_l2Line_L1; simp)]
        · rw [all_val (hd := Classical.propDecidable _) l.Runs (fun i r => 1 ≤ r ∧ r ≤ 60) (fun i x hx => ?_) (by unfold s_l2Line_L2; simp)]
          · by_cases b1 : ∀ (i : Nat) e, l.Stops[i]? = some e → (0 ≤ e ∧ e < (st : Int)) ∧ fixI (fun y => e == y) l.Stops = (i : Int)
            · rw [if_pos b1]
              by_cases b2 : ∀ (i : Nat) r, l.Runs[i]? = some r → 1 ≤ r ∧ r ≤ 60
              · rw [if_pos b2]
                have : LineP st l := ⟨a1, a2, b1, b2⟩
                simp [this]
              · rw [if_neg b2]
                have : ¬ LineP st l := fun h => b2 h.2.2.2
                simp [this]
            · rw [if_neg b1]
              have : ¬ LineP st l := fun h => b1 h.2.2.1
              simp [this]
          · have hi := (List.getElem?_eq_some_iff.1 hx).1
            unfold s_l2Line_L2
            have hlt : decide ((i : Int) < (l.Runs.length : Int)) = true := by simp; omega
            simp only [hlt, if_true, idx_nat, hx, Option.bind_some, l1In_eq, w64_succ (n := i) (by omega)]
            by_cases b : 1 ≤ x ∧ x ≤ 60
            · left; simp [b]
            · right; simp [b]
        · have hi := (List.getElem?_eq_some_iff.1 hx).1
          unfold s_l2Line_L1
          have hlt : decide ((i : Int) < (l.Stops.length : Int)) = true := by simp; omega
          simp only [hlt, if_true, idx_nat, hx, Option.bind_some, l1In_eq, e1, l2Place_eq l (by omega), w64_succ (n := i) (by omega)]
          by_cases b1 : 0 ≤ x ∧ x < (st : Int)
          · have d3 : decide (0 ≤ x ∧ x ≤ (st : Int) - 1) = true := by simp; omega
            by_cases b2 : fixI (fun y => x == y) l.Stops = (i : Int)
            · left; simp only [d3]; simp [b1, b2]
            · right; simp only [d3]; simp [b1, b2]
          · have d3 : decide (0 ≤ x ∧ x ≤ (st : Int) - 1) = false := by simp; omega
            right; simp only [d3]; simp [b1]
      · have d2 : ((l.Runs.length : Int) != (l.Stops.length : Int) - 1) = true := by simp [a2]
        have : ¬ LineP st l := fun h => a2 h.2.1
        simp [d2, this]
    · have d1 : decide ((2 : Int) ≤ (l.Stops.length : Int) ∧ (l.Stops.length : Int) ≤ 6) = false := by simp; omega
      have : ¬ LineP st l := fun h => a1 h.1
      simp [d1, this]
  · simp [a0]

theorem valid_eq (n : Network) (h : Bd n) : i_IsValidNetwork n = some (decide (Good n)) := by
  obtain ⟨h1, h2, h3⟩ := h
  unfold i_IsValidNetwork
  simp only [within_eq, Option.bind_some, areNames_eq n.Stops h1, lineNames_eq n h2, areNames_eq (n.Lines.map (·.Name)) (by simpa using h2)]
  by_cases a1 : 2 ≤ n.Stops.length ∧ n.Stops.length ≤ 8
  · have d1 : decide ((2 : Int) ≤ (n.Stops.length : Int) ∧ (n.Stops.length : Int) ≤ 8) = true := by simp; omega
    simp only [d1, Bool.not_true, Bool.false_eq_true, if_false]
    by_cases a2 : 1 ≤ n.Lines.length ∧ n.Lines.length ≤ 5
    · have d2 : decide ((1 : Int) ≤ (n.Lines.length : Int) ∧ (n.Lines.length : Int) ≤ 5) = true := by simp; omega
      simp only [d2, Bool.not_true, Bool.false_eq_true, if_false]
      by_cases a3 : NamesP n.Stops
      · simp only [a3, decide_true, Bool.not_true, Bool.false_eq_true, if_false]
        by_cases a4 : NamesP (n.Lines.map (·.Name))
        · simp only [a4, decide_true, Bool.not_true, Option.bind_some, Bool.false_eq_true, if_false]
          rw [all_val (hd := Classical.propDecidable _) n.Lines (fun i x => LineP n.Stops.length x) (fun i x hx => ?_) (by unfold i_IsValidNetwork_L1; simp)]
          · by_cases b1 : ∀ (i : Nat) x, n.Lines[i]? = some x → LineP n.Stops.length x
            · rw [if_pos b1]
              have : Good n := ⟨a1, a2, a3, a4, b1⟩
              simp [this]
            · rw [if_neg b1]
              have : ¬ Good n := fun h => b1 h.2.2.2.2
              simp [this]
          · have hi := (List.getElem?_eq_some_iff.1 hx).1
            obtain ⟨g1, g2⟩ := h3 x (List.mem_of_getElem? hx)
            unfold i_IsValidNetwork_L1
            have hlt : decide ((i : Int) < (n.Lines.length : Int)) = true := by simp; omega
            simp only [hlt, if_true, idx_nat, hx, Option.bind_some, isValidLine_eq n x g1 g2, w64_succ (n := i) (by omega)]
            by_cases b : LineP n.Stops.length x
            · left; simp [b]
            · right; simp [b]
        · have : ¬ Good n := fun h => a4 h.2.2.2.1
          simp [a4, this]
      · have : ¬ Good n := fun h => a3 h.2.2.1
        simp [a3, this]
    · have d2 : decide ((1 : Int) ≤ (n.Lines.length : Int) ∧ (n.Lines.length : Int) ≤ 5) = false := by simp; omega
      have : ¬ Good n := fun h => a2 h.2.1
      simp [d2, this]
  · have d1 : decide ((2 : Int) ≤ (n.Stops.length : Int) ∧ (n.Stops.length : Int) ≤ 8) = false := by simp; omega
    have : ¬ Good n := fun h => a1 h.1
    simp [d1, this]

theorem good_eq (n : Network) (h : Bd n) : s_l2Good n = some (decide (Good n)) := by
  obtain ⟨h1, h2, h3⟩ := h
  unfold s_l2Good
  simp only [l1In_eq, Option.bind_some]
  by_cases a1 : 2 ≤ n.Stops.length ∧ n.Stops.length ≤ 8
  · have d1 : decide ((2 : Int) ≤ (n.Stops.length : Int) ∧ (n.Stops.length : Int) ≤ 8) = true := by simp; omega
    simp only [d1, Bool.not_true, Bool.false_eq_true, if_false]
    by_cases a2 : 1 ≤ n.Lines.length ∧ n.Lines.length ≤ 5
    · have d2 : decide ((1 : Int) ≤ (n.Lines.length : Int) ∧ (n.Lines.length : Int) ≤ 5) = true := by simp; omega
      simp only [d2, Bool.not_true, Option.bind_some, Bool.false_eq_true, if_false]
      rw [all_val (hd := Classical.propDecidable _) n.Stops (fun i x => NameOK x ∧ fixI (fun e => x.toList == e.toList) n.Stops = (i : Int)) (fun i x hx => ?_) (by unfold s_l2Good_L1; simp)]
      · rw [all_val (hd := Classical.propDecidable _) n.Lines (fun i x => (NameOK x.Name ∧ LineP n.Stops.length x) ∧ fixI (fun e => x.Name.toList == e.toList) (n.Lines.map (·.Name)) = (i : Int)) (fun i x hx => ?_) (by unfold s_l2Good_L2; simp)]
        · by_cases b1 : NamesP n.Stops
          · rw [if_pos (show ∀ (i : Nat) x, n.Stops[i]? = some x → NameOK x ∧ fixI (fun e => x.toList == e.toList) n.Stops = (i : Int) from b1)]
            by_cases b2 : ∀ (i : Nat) x, n.Lines[i]? = some x → (NameOK x.Name ∧ LineP n.Stops.length x) ∧ fixI (fun e => x.Name.toList == e.toList) (n.Lines.map (·.Name)) = (i : Int)
            · rw [if_pos b2]
              have : Good n := ⟨a1, a2, b1, fun i y hy => by
                rw [List.getElem?_map] at hy
                obtain ⟨x, hx, rfl⟩ := Option.map_eq_some_iff.1 hy
                exact ⟨(b2 i x hx).1.1, (b2 i x hx).2⟩, fun i x hx => (b2 i x hx).1.2⟩
              simp [this]
            · rw [if_neg b2]
              have : ¬ Good n := fun h => b2 fun i x hx => by
                have h4 := h.2.2.2.1 i x.Name (by rw [List.getElem?_map, hx]; rfl)
                exact ⟨⟨h4.1, h.2.2.2.2 i x hx⟩, h4.2⟩
              simp [this]
          · rw [if_neg (show ¬ ∀ (i : Nat) x, n.Stops[i]? = some x → NameOK x ∧ fixI (fun e => x.toList == e.toList) n.Stops = (i : Int) from b1)]
            have : ¬ Good n := fun h => b1 h.2.2.1
            simp [this]
        · have hi := (List.getElem?_eq_some_iff.1 hx).1
          obtain ⟨g1, g2⟩ := h3 x (List.mem_of_getElem? hx)
          unfold s_l2Good_L2
          have hlt : decide ((i : Int) < (n.Lines.length : Int)) = true := by simp; omega
          simp only [hlt, if_true, idx_nat, hx, Option.bind_some, l2Line_eq x n.Stops.length h1 g1 g2, l2LineNamed_eq n (by omega), w64_succ (n := i) (by omega)]
          by_cases b1 : NameOK x.Name ∧ LineP n.Stops.length x
          · by_cases b2 : fixI (fun e => x.Name.toList == e.toList) (n.Lines.map (·.Name)) = (i : Int)
            · left; simp [b1, b2]
            · right; simp [b1, b2]
          · right; simp [b1]
      · have hi := (List.getElem?_eq_some_iff.1 hx).1
        unfold s_l2Good_L1
        have hlt : decide ((i : Int) < (n.Stops.length : Int)) = true := by simp; omega
        simp only [hlt, if_true, idx_nat, hx, Option.bind_some, l2Name_eq, l2Find_eq n.Stops (by omega), w64_succ (n := i) (by omega)]
        by_cases b1 : NameOK x
        · by_cases b2 : fixI (fun e => x.toList == e.toList) n.Stops = (i : Int)
          · left; simp [b1, b2]
          · right; simp [b1, b2]
        · right; simp [b1]
    · have d2 : decide ((1 : Int) ≤ (n.Lines.length : Int) ∧ (n.Lines.length : Int) ≤ 5) = false := by simp; omega
      have : ¬ Good n := fun h => a2 h.2.1
      simp [d2, this]
  · have d1 : decide ((2 : Int) ≤ (n.Stops.length : Int) ∧ (n.Stops.length : Int) ≤ 8) = false := by simp; omega
    have : ¬ Good n := fun h => a1 h.1
    simp [d1, this]
/-! Copies, reversed lists, the reversed line. -/
theorem cloneI_eq (l : List Int) (h : l.length ≤ 1000) : slices_Clone_int l = some l := by
  unfold slices_Clone_int
  rw [chk_of (by simp; omega)]; rfl
theorem cloneS_eq (l : List ByteArray) (h : l.length ≤ 1000) : slices_Clone_string l = some l := by
  unfold slices_Clone_string
  rw [chk_of (by simp; omega)]; rfl
theorem copyLine_eq (x : Line) (h1 : x.Stops.length ≤ 1000) (h2 : x.Runs.length ≤ 1000) : i_copyLine x = some x := by
  unfold i_copyLine
  rw [cloneI_eq _ h1, cloneI_eq _ h2]; rfl
theorem l1Own_eq (l : List Int) (h : l.length ≤ 1000) : s_l1Own_f l = some l := by
  unfold s_l1Own_f
  rw [chk_of (by simp; omega)]; rfl
theorem l2Own_eq (n : Network) (h : Bd n) : s_l2Own n = some n := by
  obtain ⟨h1, h2, h3⟩ := h
  unfold s_l2Own
  rw [chk_of (by simp; omega)]
  simp only [Option.bind_some]
  rw [app_loop (fun x : Line => x) n.Lines (fun i a x ha hx => ?_) (fun a ha => ?_)]
  · simp only [Option.bind_some, List.map_id', List.nil_append]
  · have hi := (List.getElem?_eq_some_iff.1 hx).1
    obtain ⟨g1, g2⟩ := h3 x (List.mem_of_getElem? hx)
    unfold s_l2Own_L1
    have hlt : decide ((i : Int) < (n.Lines.length : Int)) = true := by simp; omega
    have hch : ∀ y : Line, chk (a.length + ([y] : List Line).length ≤ 4294967296) = some () := fun y => chk_of (by simp; omega)
    simp only [hlt, if_true, idx_nat, hx, Option.bind_some, l1Own_eq _ g1, l1Own_eq _ g2, hch, w64_succ (n := i) (by omega)]
  · unfold s_l2Own_L1; simp
theorem l2Own_t_eq (n : Network) (h : Bd n) : s_l2Own_t n = some n := by
  have : s_l2Own_t n = s_l2Own n := rfl
  rw [this]; exact l2Own_eq n h

theorem l2Back_eq (s : List Int) (hs : s.length ≤ 1000) : s_l2Back s = some s.reverse := by
  unfold s_l2Back
  have e0 : w64 ((s.length : Int) - 1) = (s.length : Int) - 1 := w64_id (by omega)
  rw [e0]
  have h := iter_rule (step := s_l2Back_L1 s) (fun m a => ∃ j : Nat, a.1 = (s.length : Int) - 1 - j ∧ m + j = s.length ∧ a.2 = s.reverse.take j) (fun b => b = s.reverse) ?_ (k := s.length) (a := ((s.length : Int) - 1, [])) ⟨0, by simp, by omega, by simp⟩
  · obtain ⟨b, hb, rfl⟩ := h
    rw [hb]; rfl
  rintro m ⟨v, i⟩ ⟨j, hv, hm, hi⟩
  simp only at hv hi
  subst hv
  by_cases hlt : j < s.length
  · left
    have ev : (s.length : Int) - 1 - j = ((s.length - 1 - j : Nat) : Int) := by omega
    rw [ev]
    obtain ⟨e, he⟩ := get_ex (l := s) (i := s.length - 1 - j) (by omega)
    have hd : decide ((0 : Int) ≤ ((s.length - 1 - j : Nat) : Int)) = true := by simp
    have hlen : i.length = j := by rw [hi]; simp; omega
    have hch : chk (i.length + ([e] : List Int).length ≤ 4294967296) = some () := chk_of (by simp; omega)
    have ev2 : w64 (((s.length - 1 - j : Nat) : Int) - 1) = (s.length : Int) - 1 - ((j + 1 : Nat) : Int) := by rw [w64_id (by omega)]; omega
    refine ⟨((s.length : Int) - 1 - ((j + 1 : Nat) : Int), i ++ [e]), m - 1, ?_, by omega, j + 1, rfl, by omega, ?_⟩
    · unfold s_l2Back_L1
      simp only [hd, if_true, idx_nat, he, hch, Option.bind_some, ev2]
    · show i ++ [e] = _
      rw [take_succ (x := e) (by rw [List.getElem?_reverse hlt]; exact he), hi]
  · right
    have ej : j = s.length := by omega
    subst ej
    have hd : decide ((0 : Int) ≤ (s.length : Int) - 1 - (s.length : Int)) = false := by simp; omega
    refine ⟨i, by unfold s_l2Back_L1; simp only [hd, Bool.false_eq_true, if_false], ?_⟩
    rw [hi, List.take_of_length_le (by simp)]
theorem l2BackF_eq (s : List Int) (hs : s.length ≤ 1000) : s_l2Back_f s = some s.reverse := l2Back_eq s hs

/-- The network with the reversed line. -/
def Rev (n : Network) (e : Line) (name : ByteArray) : Network := ⟨n.Stops, n.Lines ++ [⟨name, e.Stops.reverse, e.Runs.reverse⟩]⟩
def Asked (n : Network) (line : Int) (name : ByteArray) : Prop := Good n ∧ 0 ≤ line ∧ ∃ e, n.Lines[line.toNat]? = some e ∧ Good (Rev n e name)
theorem good_lines {n : Network} (h : Good n) : n.Lines.length ≤ 5 := h.2.1.2
theorem rev_bd {n : Network} {e : Line} {name : ByteArray} (h : Bd n) (hg : Good n) (he : e ∈ n.Lines) : Bd (Rev n e name) := by
  obtain ⟨h1, h2, h3⟩ := h
  have := good_lines hg
  refine ⟨h1, by simp [Rev]; omega, fun x hx => ?_⟩
  rcases List.mem_append.1 hx with hx | hx
  · exact h3 x hx
  · simp at hx
    subst hx
    obtain ⟨g1, g2⟩ := h3 e he
    exact ⟨by simpa using g1, by simpa using g2⟩

/-! The draws: they answer, with bounds. -/
/-- A drawn line. -/
def LB (x : Line) : Prop := (2 ≤ x.Stops.length ∧ x.Stops.length ≤ 10) ∧ 1 ≤ x.Runs.length ∧ x.Runs.length ≤ 10
def NB (n : Network) : Prop := (2 ≤ n.Stops.length ∧ n.Stops.length ≤ 6) ∧ (1 ≤ n.Lines.length ∧ n.Lines.length ≤ 8) ∧ ∀ x ∈ n.Lines, LB x
theorem NB.bd {n : Network} (h : NB n) : Bd n := ⟨by have := h.1; omega, by have := h.2.1; omega, fun x hx => by have := h.2.2 x hx; unfold LB at this; omega⟩
theorem l1Num_ok (n : Int) (h0 : 0 ≤ n) (h1 : n < 10) : ∃ r, s_l1Num n = some r ∧ r.size ≤ 10 := by
  have e : s_l1Num n = s_l1Num_F (s_l1Num_k 4294967295) n := rfl
  rw [e]
  unfold s_l1Num_F
  have d1 : decide (n < 0) = false := by simp; omega
  have d2 : decide (n < 10) = true := by simp; omega
  have e1 : w64 (n + 1) = n + 1 := w64_id (by omega)
  have hs : (str [48, 49, 50, 51, 52, 53, 54, 55, 56, 57]).size = 10 := rfl
  simp only [d1, d2, Bool.false_eq_true, if_false, if_true, e1, hs]
  rw [chk_of (by omega)]
  refine ⟨_, rfl, ?_⟩
  rw [ByteArray.size_extract, hs]
  omega

theorem line_ok {k : Nat} {c : l1Cur} (name : ByteArray) (stops : Int) (hs : 2 ≤ stops ∧ stops ≤ 1000) (h : Cur k c) (hk : k ≤ 1000000000) : ∃ r, s_l1Cur_line c name stops = some r ∧ Cur (k + 40) r.2 ∧ LB r.1 := by
  unfold s_l1Cur_line
  obtain ⟨r, hr, hc, h0, h1⟩ := pick_ok stops h (by omega)
  obtain ⟨r1, hr1, hc1, h10, h11⟩ := pick_ok 3 hc (by omega)
  simp only [hr, hr1, Option.bind_some]
  have e1 : w64 (2 + r1.1) = ((2 + r1.1.toNat : Nat) : Int) := by rw [w64_id (by omega)]; omega
  rw [e1]
  have loop : ∃ b, iter (s_l1Cur_line_L1 name stops) (r.1, ((2 + r1.1.toNat : Nat) : Int), r1.2.code_, r1.2.at_, r1.2.seed_.v, []) = some b ∧ (Cur (k + 4 + 2 * 4) ⟨b.1, b.2.1, ⟨b.2.2.1⟩⟩ ∧ 1 ≤ b.2.2.2.length ∧ b.2.2.2.length ≤ 4) := by
    refine iter_rule (fun m a => (0 ≤ a.1 ∧ a.1 < stops) ∧ a.2.1 = (m : Int) ∧ m + a.2.2.2.2.2.length ≤ 4 ∧ (1 ≤ m ∨ 1 ≤ a.2.2.2.2.2.length) ∧ Cur (k + 4 + 2 * (4 - m)) ⟨a.2.2.1, a.2.2.2.1, ⟨a.2.2.2.2.1⟩⟩) _ ?_ (k := 2 + r1.1.toNat) ⟨⟨h0, by show r.1 < stops; omega⟩, rfl, by simp; omega, .inl (by omega), hc1.mono (by omega)⟩
    rintro m ⟨v, v1, v2, v3, v4, v5⟩ ⟨hv, hv1, hl, hne, hcur⟩
    simp only at hv hv1 hl hne hcur
    subst hv1
    unfold s_l1Cur_line_L1
    cases m with
    | zero => right; exact ⟨_, by simp; rfl, hcur, by show 1 ≤ v5.length; omega, by show v5.length ≤ 4; omega⟩
    | succ m =>
      left
      have hpos : decide ((0 : Int) < ((m + 1 : Nat) : Int)) = true := by simp
      obtain ⟨r3, hr3, hc3, h30, h31⟩ := pick_ok 2 hcur (by omega)
      have hpl := l2Place_eq (⟨name, v5, []⟩ : Line) (by show v5.length ≤ _; omega) v
      have hch : chk (v5.length + ([v] : List Int).length ≤ 4294967296) = some () := chk_of (by simp; omega)
      have hne0 : chk (stops ≠ 0) = some () := chk_of (by omega)
      have w1 : w64 (v + 1) = v + 1 := w64_id (by omega)
      have w2 : w64 (v + 1 + r3.1) = v + 1 + r3.1 := w64_id (by omega)
      have ht := tmod_rng (a := v + 1 + r3.1) (b := stops) (by omega) (by omega)
      simp only [hpos, if_true, hpl, hch, hr3, hne0, w1, w2, Option.bind_some]
      have w3 : w64 (((m + 1 : Nat) : Int) - 1) = (m : Int) := w64_pred (by omega)
      split
      · refine ⟨_, m, by simp only [Option.bind_some]; rfl, by omega, ht, w3, ?_, .inr ?_, ?_⟩
        · simp; omega
        · simp
        · exact hc3.mono (by omega)
      · rename_i hn
        refine ⟨_, m, by simp only [Option.bind_some]; rfl, by omega, ht, w3, ?_, .inr ?_, ?_⟩
        · show m + v5.length ≤ 4; omega
        · show 1 ≤ v5.length
          cases v5 with
          | nil => simp [fixI] at hn
          | cons a l => simp
        · exact hc3.mono (by omega)
  obtain ⟨⟨v7, v8, v9, v10⟩, hb, hcb, hlb⟩ := loop
  simp only at hcb hlb
  rw [hb]
  simp only [Option.bind_some]
  -- at least two stops
  have two : ∃ v11 : List Int, (if decide ((v10.length : Int) < 2) = true then (idx v10 0).bind fun e1 => (chk ((stops : Int) ≠ 0)).bind fun u4 => (chk (v10.length + ([((w64 (e1 + 1)).tmod stops)] : List Int).length ≤ 4294967296)).bind fun u5 => some (v10 ++ ([((w64 (e1 + 1)).tmod stops)] : List Int)) else some v10) = some v11 ∧ 2 ≤ v11.length ∧ v11.length ≤ 5 := by
    by_cases h2 : (v10.length : Int) < 2
    · obtain ⟨e, he, _⟩ := idx_lt (l := v10) (i := 0) (by omega) (by omega)
      have hch : ∀ y : Int, chk (v10.length + ([y] : List Int).length ≤ 4294967296) = some () := fun y => chk_of (by simp; omega)
      have hne0 : chk (stops ≠ 0) = some () := chk_of (by omega)
      refine ⟨v10 ++ [(w64 (e + 1)).tmod stops], by simp only [h2, decide_true, if_true, he, hne0, hch, Option.bind_some], ?_, ?_⟩
      · simp; omega
      · simp; omega
    · exact ⟨v10, by simp [h2], by omega, by omega⟩
  obtain ⟨v11, hv11, l1, l2⟩ := two
  rw [hv11]
  simp only [Option.bind_some]
  have loop2 : ∃ b, iter (s_l1Cur_line_L2 v11) (1, v7, v8, v9, []) = some b ∧ (Cur (k + 40) ⟨b.1, b.2.1, ⟨b.2.2.1⟩⟩ ∧ b.2.2.2.length + 1 = v11.length) := by
    refine iter_rule (fun m a => ∃ i : Nat, a.1 = (i : Int) ∧ m + i = v11.length ∧ a.2.2.2.2.length + 1 = i ∧ Cur (k + 12 + 2 * i) ⟨a.2.1, a.2.2.1, ⟨a.2.2.2.1⟩⟩) _ ?_ (k := v11.length - 1) ⟨1, rfl, by omega, rfl, hcb.mono (by omega)⟩
    rintro m ⟨v12, v13, v14, v15, v16⟩ ⟨i, hi, hm, hl, hcur⟩
    simp only at hi hl hcur
    subst hi
    unfold s_l1Cur_line_L2
    by_cases hlt : i < v11.length
    · left
      have hd : decide ((i : Int) < (v11.length : Int)) = true := by simp; omega
      obtain ⟨r5, hr5, hc5, _⟩ := pick_ok 12 hcur (by omega)
      have hch : ∀ y : Int, chk (v16.length + ([y] : List Int).length ≤ 4294967296) = some () := fun y => chk_of (by simp; omega)
      refine ⟨_, m - 1, by simp only [hd, if_true, hr5, hch, Option.bind_some, w64_succ (n := i) (by omega)]; rfl, by omega, i + 1, rfl, by omega, ?_, ?_⟩
      · simp; omega
      · exact hc5.mono (by omega)
    · right
      have hd : decide ((i : Int) < (v11.length : Int)) = false := by simp; omega
      refine ⟨_, by simp only [hd, Bool.false_eq_true, if_false]; rfl, ?_, ?_⟩
      · exact hcur.mono (by omega)
      · show v16.length + 1 = _; omega
  obtain ⟨⟨v17, v18, v19, v20⟩, hb2, hcb2, hl2⟩ := loop2
  simp only at hcb2 hl2
  rw [hb2]
  simp only [Option.bind_some]
  exact ⟨_, rfl, hcb2, ⟨l1, by show v11.length ≤ 10; omega⟩, by show 1 ≤ v20.length; omega, by show v20.length ≤ 10; omega⟩
theorem lineF_ok {k : Nat} {c : l1Cur} (name : ByteArray) (stops : Int) (hs : 2 ≤ stops ∧ stops ≤ 1000) (h : Cur k c) (hk : k ≤ 1000000000) : ∃ r, s_l1Cur_line_f c name stops = some r ∧ Cur (k + 40) r.2 ∧ LB r.1 := line_ok name stops hs h hk

theorem six_len (i : Nat) (h2 : 2 ≤ i) (h6 : i ≤ 6) (l : List ByteArray) (hl : l.length = 6) : 2 ≤ ((l.take i).drop (0 : Int).toNat).length ∧ ((l.take i).drop (0 : Int).toNat).length ≤ 6 := by
  simp; omega

theorem networkT_ok {k : Nat} {c : l1Cur} (h : Cur k c) (hk : k ≤ 500000000) : ∃ r, s_l1Cur_network_t c = some r ∧ Cur (k + 300) r.2 ∧ NB r.1 := by
  unfold s_l1Cur_network_t
  obtain ⟨r, hr, hc, h0, h1⟩ := pick_ok 5 h (by omega)
  have e1 : w64 (2 + r.1) = 2 + r.1 := w64_id (by omega)
  have hsix : ([(str [112, 111, 114, 116]), (str [109, 105, 108, 108]), (str [112, 97, 114, 107]), (str [104, 97, 108, 108]), (str [100, 111, 99, 107]), (str [102, 97, 105, 114])] : List ByteArray).length = 6 := rfl
  simp only [hr, Option.bind_some, e1, hsix]
  rw [chk_of (by omega)]
  obtain ⟨r1, hr1, hc1, h10, h11⟩ := pick_ok 3 hc (by omega)
  have e2 : w64 (1 + r1.1) = ((1 + r1.1.toNat : Nat) : Int) := by rw [w64_id (by omega)]; omega
  simp only [hr1, Option.bind_some, e2]
  have loop : ∃ b, iter (s_l1Cur_network_t_L1 r) (((1 + r1.1.toNat : Nat) : Int), r1.2.code_, r1.2.at_, r1.2.seed_.v, []) = some b ∧ (Cur (k + 4 + 40 * 3) ⟨b.1, b.2.1, ⟨b.2.2.1⟩⟩ ∧ (1 ≤ b.2.2.2.length ∧ b.2.2.2.length ≤ 3) ∧ ∀ x ∈ b.2.2.2, LB x) := by
    refine iter_rule (fun m a => a.1 = (m : Int) ∧ m + a.2.2.2.2.length ≤ 3 ∧ 1 ≤ m + a.2.2.2.2.length ∧ (∀ x ∈ a.2.2.2.2, LB x) ∧ Cur (k + 4 + 40 * (3 - m)) ⟨a.2.1, a.2.2.1, ⟨a.2.2.2.1⟩⟩) _ ?_ (k := 1 + r1.1.toNat) ⟨rfl, by simp; omega, by simp, by simp, hc1.mono (by omega)⟩
    rintro m ⟨x, v, v1, v2, v3⟩ ⟨hx, hl, hl1, hlb, hcur⟩
    simp only at hx hl hl1 hlb hcur
    subst hx
    unfold s_l1Cur_network_t_L1
    cases m with
    | zero => right; exact ⟨_, by simp; rfl, hcur, ⟨by show 1 ≤ v3.length; omega, by show v3.length ≤ 3; omega⟩, hlb⟩
    | succ m =>
      left
      have hpos : decide ((0 : Int) < ((m + 1 : Nat) : Int)) = true := by simp
      obtain ⟨r4, hr4, hs4⟩ := l1Num_ok ((m + 1 : Nat) : Int) (by omega) (by omega)
      have hs : (str [108]).size = 1 := rfl
      have hch : chk ((str [108]).size + r4.size ≤ 4294967296) = some () := chk_of (by omega)
      obtain ⟨r5, hr5, hc5, hb5⟩ := lineF_ok (str [108] ++ r4) (2 + r.1) (by omega) hcur (by omega)
      have hch2 : ∀ y : Line, chk (v3.length + ([y] : List Line).length ≤ 4294967296) = some () := fun y => chk_of (by simp; omega)
      refine ⟨_, m, by simp only [hpos, if_true, hr4, hch, e1, hr5, hch2, Option.bind_some]; rfl, by omega, ?_, ?_, ?_, ?_, ?_⟩
      · exact w64_pred (by omega)
      · simp; omega
      · simp; omega
      · intro y hy
        rcases List.mem_append.1 hy with hy | hy
        · exact hlb y hy
        · simp at hy; subst hy; exact hb5
      · exact hc5.mono (by omega)
  obtain ⟨⟨v4, v5, v6, v7⟩, hb, hcb, hlb, hall⟩ := loop
  simp only at hcb hlb hall
  rw [hb]
  simp only [Option.bind_some]
  obtain ⟨r6, hr6, hc6⟩ := one_ok 2 hcb (by omega)
  simp only [hr6, Option.bind_some]
  have fin : ∀ (v8 : List UInt8) (v9 v10 : Int) (v11 : List Line), Cur (k + 200) ⟨v8, v9, ⟨v10⟩⟩ → (1 ≤ v11.length ∧ v11.length ≤ 8) → (∀ x ∈ v11, LB x) →
      ∃ r', ((s_l2Own_t (⟨((([(str [112, 111, 114, 116]), (str [109, 105, 108, 108]), (str [112, 97, 114, 107]), (str [104, 97, 108, 108]), (str [100, 111, 99, 107]), (str [102, 97, 105, 114])] : List ByteArray).take (2 + r.1).toNat).drop (0 : Int).toNat), v11⟩ : Network)).bind fun r11 => some ((⟨r11.Stops, r11.Lines⟩ : Network), (⟨v8, v9, (⟨v10⟩ : IK .u64)⟩ : l1Cur))) = some r' ∧ Cur (k + 300) r'.2 ∧ NB r'.1 := by
    intro v8 v9 v10 v11 g1 g2 g3
    have hst := six_len (2 + r.1).toNat (by omega) (by omega) _ hsix
    have hnb : NB (⟨((([(str [112, 111, 114, 116]), (str [109, 105, 108, 108]), (str [112, 97, 114, 107]), (str [104, 97, 108, 108]), (str [100, 111, 99, 107]), (str [102, 97, 105, 114])] : List ByteArray).take (2 + r.1).toNat).drop (0 : Int).toNat), v11⟩ : Network) := ⟨hst, g2, g3⟩
    rw [l2Own_t_eq _ hnb.bd]
    exact ⟨_, rfl, g1.mono (by omega), hnb⟩
  split
  · obtain ⟨e, he, _, hem⟩ := idx_lt (l := v7) (i := 0) (by omega) (by omega)
    obtain ⟨g1, g2⟩ := hall e hem
    have hch2 : ∀ y : Line, chk (v7.length + ([y] : List Line).length ≤ 4294967296) = some () := fun y => chk_of (by simp; omega)
    simp only [he, l2BackF_eq e.Stops (by omega), l2BackF_eq e.Runs (by omega), hch2, Option.bind_some]
    refine fin _ _ _ _ (hc6.mono (by omega)) (by simp; omega) fun y hy => ?_
    rcases List.mem_append.1 hy with hy | hy
    · exact hall y hy
    · simp at hy; subst hy
      exact ⟨by simpa using g1, by simpa using g2⟩
  · simp only [Option.bind_some]
    exact fin _ _ _ _ (hc6.mono (by omega)) (by omega) hall

theorem anyNetwork_ok {k : Nat} {c : l1Cur} (h : Cur k c) (hk : k ≤ 200000000) : ∃ r, s_l1Cur_anyNetwork c = some r ∧ Cur (k + 1000) r.2 ∧ Bd r.1 := by
  unfold s_l1Cur_anyNetwork
  obtain ⟨r, hr, hc, hnb⟩ := networkT_ok h (by omega)
  obtain ⟨n1, n2, n3⟩ := hnb
  obtain ⟨r1, hr1, hc1, h10, h11⟩ := pick_ok (r.1.Lines.length : Int) hc (by omega)
  obtain ⟨e, he, he2, hem⟩ := idx_lt (l := r.1.Lines) (i := r1.1) h10 (by omega)
  obtain ⟨g1, g2⟩ := n3 e hem
  obtain ⟨r2, hr2, hc2, _⟩ := pick_ok 24 hc1 (by omega)
  simp only [hr, hr1, he, hr2, Option.bind_some]
  have fin : ∀ (v : List UInt8) (v1 v2 : Int) (v3 : ByteArray) (v4 : List ByteArray) (v5 : List Line) (v6 : List Int), Cur (k + 900) ⟨v, v1, ⟨v2⟩⟩ → v4.length ≤ 6 → v5.length = r.1.Lines.length → (∀ x ∈ v5, LB x) → v6.length ≤ 11 →
      ∃ r', ((idx v5 r1.1).bind fun e9 => some ((⟨v4, (v5.set r1.1.toNat (⟨v3, e9.Stops, v6⟩ : Line))⟩ : Network), (⟨v, v1, (⟨v2⟩ : IK .u64)⟩ : l1Cur))) = some r' ∧ Cur (k + 1000) r'.2 ∧ Bd r'.1 := by
    intro v v1 v2 v3 v4 v5 v6 q1 q2 q3 q4 q5
    obtain ⟨e9, he9, _, hm9⟩ := idx_lt (l := v5) (i := r1.1) h10 (by omega)
    rw [he9]
    refine ⟨_, rfl, q1.mono (by omega), by show v4.length ≤ _; omega, by simp; omega, fun x hx => ?_⟩
    rcases List.mem_or_eq_of_mem_set hx with hx | hx
    · have := q4 x hx
      unfold LB at this; omega
    · subst hx
      have := q4 e9 hm9
      unfold LB at this
      exact ⟨by show e9.Stops.length ≤ _; omega, by show v6.length ≤ _; omega⟩
  split
  · obtain ⟨r4, hr4, hc4, _⟩ := ofw_ok ([(str [109, 105, 108, 108]), (str []), (str [65]), (str [97, 98, 99, 100, 101, 102, 103, 104]), (str [97, 98, 99, 100, 101, 102, 103, 104, 105])] : List ByteArray) (by simp) hc2 (by omega)
    obtain ⟨e2, he2', _⟩ := idx_lt (l := r.1.Stops) (i := 0) (by omega) (by omega)
    simp only [hr4, he2', Option.bind_some, flb_go]
    exact fin _ _ _ _ _ _ _ (hc4.mono (by omega)) (by simp; omega) rfl n3 (by omega)
  split
  · obtain ⟨r5, hr5, hc5, _⟩ := ofw_ok ([(str [114, 49]), (str [108, 49]), (str []), (str [88])] : List ByteArray) (by simp) hc2 (by omega)
    simp only [hr5, Option.bind_some, flb_go]
    exact fin _ _ _ _ _ _ _ (hc5.mono (by omega)) (by omega) rfl n3 (by omega)
  split
  · obtain ⟨r8, hr8, hc8, h80, h81⟩ := pick_ok (e.Stops.length : Int) hc2 (by omega)
    obtain ⟨r9, hr9, hc9, _⟩ := pick_ok 10 hc8 (by omega)
    obtain ⟨e4, he4, _⟩ := idx_lt (l := e.Stops) (i := r8.1) h80 (by omega)
    simp only [hr8, hr9, he4, Option.bind_some, flb_go]
    refine fin _ _ _ _ _ _ _ (hc9.mono (by omega)) (by omega) (by simp) (fun x hx => ?_) (by show e.Runs.length ≤ 11; omega)
    rcases List.mem_or_eq_of_mem_set hx with hx | hx
    · exact n3 x hx
    · subst hx; exact ⟨by simpa using g1, g2⟩
  split
  · obtain ⟨r12, hr12, hc12, h120, h121⟩ := pick_ok (e.Runs.length : Int) hc2 (by omega)
    obtain ⟨r13, hr13, hc13, _⟩ := amongw_ok ([0, 60, 61, (-1)] : List Int) (by simp) hc12 (by omega)
    obtain ⟨e6, he6, _⟩ := idx_lt (l := e.Runs) (i := r12.1) h120 (by omega)
    simp only [hr12, hr13, he6, Option.bind_some, flb_go]
    refine fin _ _ _ _ _ _ _ (hc13.mono (by omega)) (by omega) (by simp) (fun x hx => ?_) (by simp; omega)
    rcases List.mem_or_eq_of_mem_set hx with hx | hx
    · exact n3 x hx
    · subst hx; exact ⟨g1, by simpa using g2⟩
  split
  · have hch : chk (e.Runs.length + ([3] : List Int).length ≤ 4294967296) = some () := chk_of (by simp; omega)
    simp only [hch, Option.bind_some, flb_go]
    exact fin _ _ _ _ _ _ _ (hc2.mono (by omega)) (by omega) rfl n3 (by simp; omega)
  split
  · simp only [flb_ret]
    exact ⟨_, rfl, hc2.mono (by omega), by show r.1.Stops.length ≤ _; omega, by simp, by simp⟩
  split
  · have loop : ∃ b, iter (s_l1Cur_anyNetwork_L1 r) (0, r2.2.code_, r2.2.at_, r2.2.seed_.v, r.1.Lines) = some b ∧ (Cur (k + 900) ⟨b.1, b.2.1, ⟨b.2.2.1⟩⟩ ∧ b.2.2.2.length ≤ 20 ∧ ∀ x ∈ b.2.2.2, LB x) := by
      refine iter_rule (fun m a => ∃ i : Nat, a.1 = (i : Int) ∧ m + i = 8 ∧ i ≤ 7 ∧ a.2.2.2.2.length ≤ 8 + i ∧ (∀ x ∈ a.2.2.2.2, LB x) ∧ Cur (k + 310 + 50 * i) ⟨a.2.1, a.2.2.1, ⟨a.2.2.2.1⟩⟩) _ ?_ (k := 8) ⟨0, rfl, rfl, by omega, by simpa using n2.2, n3, hc2.mono (by omega)⟩
      rintro m ⟨v7, v8, v9, v10, v11⟩ ⟨i, hi, hm, hi7, hl, hlb, hcur⟩
      simp only at hi hl hlb hcur
      subst hi
      unfold s_l1Cur_anyNetwork_L1
      obtain ⟨r16, hr16, hc16, h160, h161⟩ := pick_ok 2 hcur (by omega)
      have w1 : w64 (5 + r16.1) = 5 + r16.1 := w64_id (by omega)
      simp only [hr16, w1, Option.bind_some]
      by_cases a1 : (v11.length : Int) < 5 + r16.1 ∧ (i : Int) < 7
      · left
        have d1 : decide ((v11.length : Int) < 5 + r16.1) = true := by simp; omega
        have d2 : decide ((i : Int) < 7) = true := by simp; omega
        obtain ⟨r19, hr19, hs19⟩ := l1Num_ok (i : Int) (by omega) (by omega)
        have hs : (str [120]).size = 1 := rfl
        have hch : chk ((str [120]).size + r19.size ≤ 4294967296) = some () := chk_of (by omega)
        obtain ⟨r20, hr20, hc20, hb20⟩ := line_ok (str [120] ++ r19) (r.1.Stops.length : Int) (by omega) hc16 (by omega)
        have hch2 : ∀ y : Line, chk (v11.length + ([y] : List Line).length ≤ 4294967296) = some () := fun y => chk_of (by simp; omega)
        refine ⟨_, m - 1, by simp only [d1, d2, if_true, hr19, hch, hr20, hch2, Option.bind_some, w64_succ (n := i) (by omega)]; rfl, by omega, i + 1, rfl, by omega, by omega, ?_, fun x hx => ?_, ?_⟩
        · simp; omega
        · rcases List.mem_append.1 hx with hx | hx
          · exact hlb x hx
          · simp at hx; subst hx; exact hb20
        · exact hc20.mono (by omega)
      · right
        have hcond : (if decide ((v11.length : Int) < 5 + r16.1) = true then some (decide ((i : Int) < 7)) else some false) = some false := by
          by_cases b1 : (v11.length : Int) < 5 + r16.1
          · have : decide ((i : Int) < 7) = false := by simp; omega
            simp [b1, this]
          · simp [b1]
        refine ⟨_, by simp only [hcond, Option.bind_some, Bool.false_eq_true, if_false]; rfl, ?_, ?_, hlb⟩
        · exact hc16.mono (by omega)
        · show v11.length ≤ 20; omega
    obtain ⟨⟨v13, v14, v15, v16⟩, hb, hcb, hlb, hall⟩ := loop
    simp only at hcb hlb hall
    rw [hb]
    simp only [Option.bind_some, flb_ret]
    refine ⟨_, rfl, hcb.mono (by omega), by show r.1.Stops.length ≤ _; omega, by show v16.length ≤ _; omega, fun x hx => ?_⟩
    have := hall x hx
    unfold LB at this; omega
  · simp only [flb_go]
    exact fin _ _ _ _ _ _ _ (hc2.mono (by omega)) (by omega) rfl n3 (by omega)

/-! What many laws lean on: draws in the style of Tot, lists held against themselves, comparisons. -/
theorem t_pick {k : Nat} {c : l1Cur} (n : Int) (h : Cur k c) (hk : k ≤ 3000000000) : Tot (s_l1Cur_pick c n) fun r => Cur (k + 2) r.2 ∧ 0 ≤ r.1 ∧ (r.1 < n ∨ r.1 = 0) := pick_ok n h hk
theorem t_one {k : Nat} {c : l1Cur} (n : Int) (h : Cur k c) (hk : k ≤ 3000000000) : Tot (s_l1Cur_one c n) fun r => Cur (k + 2) r.2 := one_ok n h hk
theorem t_among {k : Nat} {c : l1Cur} (l : List Int) (hl : l ≠ []) (h : Cur k c) (hk : k ≤ 3000000000) : Tot (s_l1Cur_among c l) fun r => Cur (k + 2) r.2 ∧ r.1 ∈ l := among_ok l hl h hk
theorem t_amongw {k : Nat} {c : l1Cur} (l : List Int) (hl : l ≠ []) (h : Cur k c) (hk : k ≤ 3000000000) : Tot (s_l1Cur_among_w c l) fun r => Cur (k + 2) r.2 ∧ r.1 ∈ l := amongw_ok l hl h hk
theorem t_time {k : Nat} {c : l1Cur} (h : Cur k c) (hk : k ≤ 2000000000) : Tot (s_l1Cur_time c) fun r => Cur (k + 4) r.2 := by
  unfold s_l1Cur_time
  refine Tot.call (t_one 16 h (by omega)) fun r hr => .ite (fun _ => ?_) (fun _ => ?_)
  · exact Tot.call (t_among _ (by simp) hr (by omega)) fun r hr => .ok hr.1
  · exact Tot.call (t_pick 240 hr (by omega)) fun r hr => .ok hr.1
theorem vBig_eq (code : List UInt8) : v_vBig code = some (decide (65536 < (code.length : Int))) := rfl
theorem compare_int (x y : Int) : cmp_Compare_int x y = some (if x < y then -1 else if y < x then 1 else 0) := by
  unfold cmp_Compare_int cmp_isNaN_int
  by_cases h : x < y
  · simp [h]
  · by_cases h2 : y < x <;> simp [h, h2]
theorem idx0 {α : Type} (l : List α) : idx l 0 = l[0]? := idx_nat l 0
theorem vInts_refl (a : List Int) (h : a.length ≤ 1000) : v_vInts a a = some true := by
  unfold v_vInts
  simp only [bne_self_eq_false, Bool.false_eq_true, if_false]
  rw [all_val (hd := Classical.propDecidable _) a (fun _ _ => True) (fun i x hx => ?_) (by unfold v_vInts_L1; simp)]
  · rw [if_pos (fun _ _ _ => trivial)]
  · have hi := (List.getElem?_eq_some_iff.1 hx).1
    unfold v_vInts_L1
    have hlt : decide ((i : Int) < (a.length : Int)) = true := by simp; omega
    left
    simp only [hlt, if_true, idx_nat, hx, Option.bind_some, bne_self_eq_false, Bool.false_eq_true, if_false, w64_succ (n := i) (by omega), and_self]
theorem vTexts_refl (a : List ByteArray) (h : a.length ≤ 1000) : v_vTexts a a = some true := by
  unfold v_vTexts
  simp only [bne_self_eq_false, Bool.false_eq_true, if_false]
  rw [all_val (hd := Classical.propDecidable _) a (fun _ _ => True) (fun i x hx => ?_) (by unfold v_vTexts_L1; simp)]
  · rw [if_pos (fun _ _ _ => trivial)]
  · have hi := (List.getElem?_eq_some_iff.1 hx).1
    unfold v_vTexts_L1
    have hlt : decide ((i : Int) < (a.length : Int)) = true := by simp; omega
    left
    simp only [hlt, if_true, idx_nat, hx, Option.bind_some, beq_self_eq_true, Bool.not_true, Bool.false_eq_true, if_false, w64_succ (n := i) (by omega), and_self]
theorem vNetwork_refl (n : Network) (h : Bd n) : v_vNetwork n n = some true := by
  obtain ⟨h1, h2, h3⟩ := h
  unfold v_vNetwork
  rw [vTexts_refl _ h1]
  simp only [Option.bind_some, Bool.not_true, Bool.false_eq_true, if_false, bne_self_eq_false]
  rw [all_val (hd := Classical.propDecidable _) n.Lines (fun _ _ => True) (fun i x hx => ?_) (by unfold v_vNetwork_L1; simp)]
  · rw [if_pos (fun _ _ _ => trivial)]
  · have hi := (List.getElem?_eq_some_iff.1 hx).1
    obtain ⟨g1, g2⟩ := h3 x (List.mem_of_getElem? hx)
    unfold v_vNetwork_L1
    have hlt : decide ((i : Int) < (n.Lines.length : Int)) = true := by simp; omega
    left
    simp only [hlt, if_true, idx_nat, hx, Option.bind_some, beq_self_eq_true, Bool.not_true, Bool.false_eq_true, if_false, vInts_refl _ g1, vInts_refl _ g2, w64_succ (n := i) (by omega), and_self]
/-! Timetables: when they are valid. -/
def TB (t : Timetable) : Prop := Bd t.Network ∧ t.Trips.length ≤ 1000
def TripP (n : Network) (x : Trip) : Prop := (1 ≤ x.Id ∧ x.Id ≤ 999) ∧ ∃ l, idx n.Lines x.Line = some l ∧ (0 ≤ x.Start ∧ x.Start ≤ 1799) ∧ 0 ≤ x.Start + l.Runs.sum ∧ x.Start + l.Runs.sum ≤ 1799
def GoodT (t : Timetable) : Prop := Good t.Network ∧ t.Trips.length ≤ 12 ∧ (∀ (i : Nat) x, t.Trips[i]? = some x → TripP t.Network x) ∧ ∀ (i : Nat) a b, t.Trips[i]? = some a → t.Trips[i + 1]? = some b → a.Id < b.Id
noncomputable instance (t : Timetable) : Decidable (GoodT t) := Classical.propDecidable _
noncomputable instance (n : Network) (x : Trip) : Decidable (TripP n x) := Classical.propDecidable _
theorem time_eq (t : Int) : i_IsValidTime t = some (decide (0 ≤ t ∧ t ≤ 1799)) := by
  unfold i_IsValidTime; rw [within_eq]; rfl
theorem l4Time_eq (t : Int) : s_l4Time t = some (decide (0 ≤ t ∧ t ≤ 1799)) := by
  unfold s_l4Time; rw [l1In_eq]; rfl
theorem total_eq (l : List Int) (h1 : l.length ≤ 1000000) (h2 : ∀ x ∈ l, 0 ≤ x ∧ x ≤ 1000000) : i_total l = some l.sum := by
  unfold i_total
  rw [sum_loop (fun x : Int => x) l h1 h2 (fun i s x hx => ?_) (fun s => ?_)]
  · simp
  · have := get_lt hx
    unfold i_total_L1
    simp (disch := omega) only [if_pos, if_neg, decide_eq_true_eq, decide_true, decide_false, Bool.not_true, Bool.not_false, Bool.false_eq_true, Bool.not_eq_true', decide_eq_false_iff_not, if_true, if_false, w64_id, chk_of, idx_nat, Option.bind_some, Option.map_some, Int.toNat_natCast, not_true_eq_false, not_false_eq_true, true_and, and_true, and_self, false_and, and_false, reduceIte, flb_go, flb_ret, beq_self_eq_true, ne_eq, bne_self_eq_false, Int.ofNat_lt.2 this, hx]
  · unfold i_total_L1; simp
theorem l2Run_eq (x : Line) (a b : Nat) (hab : a ≤ b) (hb : b ≤ x.Runs.length) (hl : x.Runs.length ≤ 1000) (h2 : ∀ r ∈ x.Runs, 0 ≤ r ∧ r ≤ 1000000) : s_l2Run x (a : Int) (b : Int) = some (((x.Runs.take b).drop a).sum) := by
  unfold s_l2Run
  refine Tot.val (.call (P := fun v => v = ((x.Runs.take b).drop a).sum) ?_ fun v h => .ok h)
  refine .iter (fun m s => ∃ k : Nat, s.2 = ((a + k : Nat) : Int) ∧ m + k = b - a ∧ s.1 = (((x.Runs.take b).drop a).take k).sum) (n := b - a) ⟨0, by simp, by omega, by simp⟩ ?_
  rintro m ⟨s, v⟩ ⟨k, hk, hm, hs⟩
  simp only at hk hs
  subst hk
  unfold s_l2Run_L1
  refine .iteP (fun hc => ?_) (fun hc => .dn ?_)
  · obtain ⟨r, hr⟩ := get_ex (l := x.Runs) (i := a + k) (by omega)
    have hr2 : ((x.Runs.take b).drop a)[k]? = some r := by
      rw [List.getElem?_drop, List.getElem?_take_of_lt (by omega)]; exact hr
    have hb1 := h2 r (List.mem_of_getElem? hr)
    have hb2 := sum_bd (l := ((x.Runs.take b).drop a).take k) (M := 1000000) fun y hy => h2 y (List.mem_of_mem_take (List.mem_of_mem_drop (List.mem_of_mem_take hy)))
    have hlen : ((((x.Runs.take b).drop a).take k).length : Int) ≤ 1000 := by simp; omega
    rw [← hs] at hb2
    refine .eq (by rw [idx_nat]; exact hr) (.nx ⟨m - 1, by omega, k + 1, ?_, by omega, ?_⟩)
    · show w64 (((a + k : Nat) : Int) + 1) = _
      rw [w64_id (by omega)]; omega
    · show w64 (s + r) = _
      rw [w64_id (by omega), sum_take_succ hr2, hs]
  · rw [hs, List.take_of_length_le (by rw [List.length_drop, List.length_take]; omega)]
theorem good_line {n : Network} (h : Good n) {k : Int} {l : Line} (hl : idx n.Lines k = some l) : LineP n.Stops.length l := h.2.2.2.2 _ l (idx_some hl).2.2
theorem line_stop {st : Nat} {l : Line} (h : LineP st l) {j : Nat} {s : Int} (hs : l.Stops[j]? = some s) : 0 ≤ s ∧ s < (st : Int) := (h.2.2.1 j s hs).1
theorem line_runs {st : Nat} {l : Line} (h : LineP st l) : (l.Runs.length + 1 = l.Stops.length ∧ 1 ≤ l.Runs.length ∧ l.Runs.length ≤ 5) ∧ ∀ r ∈ l.Runs, 1 ≤ r ∧ r ≤ 60 := by
  obtain ⟨h1, h2, h3, h4⟩ := h
  refine ⟨by omega, fun r hr => ?_⟩
  obtain ⟨i, hi⟩ := List.getElem?_of_mem hr
  exact h4 i r hi
theorem runs_sum {st : Nat} {l : Line} (h : LineP st l) (k : Nat) : 0 ≤ (l.Runs.take k).sum ∧ (l.Runs.take k).sum ≤ 300 := by
  obtain ⟨⟨h1, h2, h3⟩, h4⟩ := line_runs h
  have := sum_bd (l := l.Runs.take k) (M := 60) fun x hx => by have := h4 x (List.mem_of_mem_take hx); omega
  have hl : ((l.Runs.take k).length : Int) ≤ 5 := by simp; omega
  omega
theorem runs_sum' {st : Nat} {l : Line} (h : LineP st l) : 0 ≤ l.Runs.sum ∧ l.Runs.sum ≤ 300 := by
  have := runs_sum h l.Runs.length
  rwa [List.take_length] at this
theorem endOf_eq {t : Timetable} (hg : Good t.Network) {x : Trip} {l : Line} (hl : idx t.Network.Lines x.Line = some l) (hs : 0 ≤ x.Start ∧ x.Start ≤ 1799) : i_endOf t x = some (x.Start + l.Runs.sum) := by
  have h := good_line hg hl
  obtain ⟨⟨h1, h2, h3⟩, h4⟩ := line_runs h
  have h5 := runs_sum' h
  unfold i_endOf
  rw [hl]
  simp only [Option.bind_some]
  rw [total_eq l.Runs (by omega) (fun x hx => by have := h4 x hx; omega)]
  simp (disch := omega) only [if_pos, if_neg, decide_eq_true_eq, decide_true, decide_false, Bool.not_true, Bool.not_false, Bool.false_eq_true, Bool.not_eq_true', decide_eq_false_iff_not, if_true, if_false, w64_id, chk_of, idx_nat, Option.bind_some, Option.map_some, Int.toNat_natCast, not_true_eq_false, not_false_eq_true, true_and, and_true, and_self, false_and, and_false, reduceIte, flb_go, flb_ret, beq_self_eq_true, ne_eq, bne_self_eq_false]
theorem l5Line_eq {t : Timetable} {i : Nat} {x : Trip} {l : Line} (hx : t.Trips[i]? = some x) (hl : idx t.Network.Lines x.Line = some l) : s_l5Line t (i : Int) = some l := by
  unfold s_l5Line
  simp (disch := omega) only [if_pos, if_neg, decide_eq_true_eq, decide_true, decide_false, Bool.not_true, Bool.not_false, Bool.false_eq_true, Bool.not_eq_true', decide_eq_false_iff_not, if_true, if_false, w64_id, chk_of, idx_nat, Option.bind_some, Option.map_some, Int.toNat_natCast, not_true_eq_false, not_false_eq_true, true_and, and_true, and_self, false_and, and_false, reduceIte, flb_go, flb_ret, beq_self_eq_true, ne_eq, bne_self_eq_false, hx, hl]
theorem l5Stops_eq {t : Timetable} {i : Nat} {x : Trip} {l : Line} (hx : t.Trips[i]? = some x) (hl : idx t.Network.Lines x.Line = some l) : s_l5Stops t (i : Int) = some l.Stops := by
  unfold s_l5Stops
  rw [l5Line_eq hx hl]; rfl
theorem l5At_eq {t : Timetable} (hg : Good t.Network) {i : Nat} {x : Trip} {l : Line} (hx : t.Trips[i]? = some x) (hl : idx t.Network.Lines x.Line = some l) (hs : 0 ≤ x.Start ∧ x.Start ≤ 1799) {k : Nat} (hk : k ≤ l.Runs.length) : s_l5At t (i : Int) (k : Int) = some (x.Start + (l.Runs.take k).sum) := by
  have h := good_line hg hl
  obtain ⟨⟨h1, h2, h3⟩, h4⟩ := line_runs h
  have h5 := runs_sum h k
  have e := l2Run_eq l 0 k (by omega) hk (by omega) (fun x hx => by have := h4 x hx; omega)
  rw [List.drop_zero] at e
  have e' : s_l2Run l 0 (k : Int) = some (l.Runs.take k).sum := e
  unfold s_l5At
  simp (disch := omega) only [if_pos, if_neg, decide_eq_true_eq, decide_true, decide_false, Bool.not_true, Bool.not_false, Bool.false_eq_true, Bool.not_eq_true', decide_eq_false_iff_not, if_true, if_false, w64_id, chk_of, idx_nat, Option.bind_some, Option.map_some, Int.toNat_natCast, not_true_eq_false, not_false_eq_true, true_and, and_true, and_self, false_and, and_false, reduceIte, flb_go, flb_ret, beq_self_eq_true, ne_eq, bne_self_eq_false, hx, l5Line_eq hx hl, e']
theorem l5End_eq {t : Timetable} (hg : Good t.Network) {i : Nat} {x : Trip} {l : Line} (hx : t.Trips[i]? = some x) (hl : idx t.Network.Lines x.Line = some l) (hs : 0 ≤ x.Start ∧ x.Start ≤ 1799) : s_l5End t (i : Int) = some (x.Start + l.Runs.sum) := by
  have h := good_line hg hl
  obtain ⟨⟨h1, h2, h3⟩, h4⟩ := line_runs h
  have e : w64 ((l.Stops.length : Int) - 1) = (l.Runs.length : Int) := by rw [w64_id (by omega)]; omega
  unfold s_l5End
  rw [l5Stops_eq hx hl]
  simp only [Option.bind_some, e, l5At_eq hg hx hl hs (Nat.le_refl _), List.take_length]
def TripsP (t : Timetable) : Prop := (∀ (i : Nat) x, t.Trips[i]? = some x → TripP t.Network x) ∧ ∀ (i : Nat) a b, t.Trips[i]? = some a → t.Trips[i + 1]? = some b → a.Id < b.Id
noncomputable instance (t : Timetable) : Decidable (TripsP t) := Classical.propDecidable _
/-- One trip's check in the program. -/
theorem trip_i {t : Timetable} (hb : TB t) (hg : Good t.Network) (x : Trip) (last : Int) (hlast : 0 ≤ last) : ((if (decide (x.Id ≤ last)) = true then some true else if (decide (999 < x.Id)) = true then some true else (i_isLine t.Network x.Line).bind fun r =>
      if (!r) = true then some true else (i_IsValidTime x.Start).bind fun r1 =>
      if (!r1) = true then some true else (i_endOf t x).bind fun r2 =>
      (i_IsValidTime r2).bind fun r3 =>
      some (!r3))) = some (!decide (last < x.Id ∧ TripP t.Network x)) := by
  by_cases c1 : x.Id ≤ last
  · have : ¬ (last < x.Id ∧ TripP t.Network x) := fun h => by omega
    simp [c1, this]
  · by_cases c2 : 999 < x.Id
    · have : ¬ (last < x.Id ∧ TripP t.Network x) := fun h => by have := h.2.1; omega
      simp [c1, c2, this]
    · simp only [isLine_eq, time_eq, Option.bind_some, c1, c2, decide_false, Bool.false_eq_true, if_false]
      by_cases c3 : 0 ≤ x.Line ∧ x.Line < (t.Network.Lines.length : Int)
      · obtain ⟨l, hl, _⟩ := idx_lt (l := t.Network.Lines) c3.1 c3.2
        by_cases c4 : 0 ≤ x.Start ∧ x.Start ≤ 1799
        · have hT : (last < x.Id ∧ TripP t.Network x) ↔ (0 ≤ x.Start + l.Runs.sum ∧ x.Start + l.Runs.sum ≤ 1799) := by
            constructor
            · rintro ⟨_, _, l', hl', _, h⟩
              rw [hl] at hl'; cases hl'; exact h
            · intro h; exact ⟨by omega, ⟨by omega, by omega⟩, l, hl, c4, h⟩
          simp only [c3, c4, and_self, decide_true, Bool.not_true, Bool.false_eq_true, if_false, endOf_eq hg hl c4, time_eq, Option.bind_some, hT]
        · have : ¬ (last < x.Id ∧ TripP t.Network x) := fun h => by
            obtain ⟨_, _, l', _, h4, _⟩ := h
            exact c4 h4
          simp only [c3, c4, this, and_self, decide_true, decide_false, Bool.not_true, Bool.not_false, Bool.false_eq_true, if_false, if_true]
      · have : ¬ (last < x.Id ∧ TripP t.Network x) := fun h => by
          obtain ⟨_, _, l', hl', _⟩ := h
          have := idx_some hl'
          exact c3 ⟨this.1, this.2.1⟩
        simp only [c3, this, decide_false, Bool.not_false, if_true]
theorem areTrips_eq {t : Timetable} (hb : TB t) (hg : Good t.Network) : i_areTrips t = some (decide (t.Trips.length ≤ 12 ∧ TripsP t)) := by
  unfold i_areTrips
  by_cases h12 : t.Trips.length ≤ 12
  · have d : decide ((12 : Int) < (t.Trips.length : Int)) = false := by simp; omega
    have e : decide (t.Trips.length ≤ 12 ∧ TripsP t) = decide (TripsP t) := by simp [h12]
    rw [d, e]
    simp only [Bool.false_eq_true, if_false]
    refine flb_dec (.iter (fun m a => ∃ i : Nat, a.2 = (i : Int) ∧ m + i = t.Trips.length ∧ 0 ≤ a.1 ∧ (∀ y, 0 < i → t.Trips[i - 1]? = some y → a.1 = y.Id) ∧ (i = 0 → a.1 = 0) ∧ (∀ (j : Nat) x, j < i → t.Trips[j]? = some x → TripP t.Network x) ∧ ∀ (j : Nat) a b, j + 1 < i → t.Trips[j]? = some a → t.Trips[j + 1]? = some b → a.Id < b.Id)
      (n := t.Trips.length) ⟨0, rfl, rfl, by simp, by simp, by simp, fun j x h => by omega, fun j a b h => by omega⟩ ?_)
    rintro m ⟨last, v⟩ ⟨i, hv, hm, h0, h1, h2, h3, h4⟩
    simp only at hv h0 h1 h2
    subst hv
    unfold i_areTrips_L1
    refine .iteP (fun hc => ?_) (fun hc => .dn (.inl ⟨rfl, fun j x hx => h3 j x (by have := get_lt hx; omega) hx, fun j a b ha hb' => h4 j a b (by have := get_lt hb'; omega) ha hb'⟩))
    obtain ⟨x, hx⟩ := get_ex (l := t.Trips) (i := i) (by omega)
    refine .eq (by rw [idx_nat]; exact hx) (.eq (trip_i hb hg x last h0) (.iteN (fun hn => .dn (.inr ⟨rfl, fun hp => hn ⟨?_, hp.1 i x hx⟩⟩)) (fun hp => .nx ⟨m - 1, by omega, i + 1, w64_succ (by omega), by omega, ?_, ?_, by simp, ?_, ?_⟩)))
    · by_cases hi : i = 0
      · rw [h2 hi]; have := (hp.1 i x hx).1; omega
      · obtain ⟨y, hy⟩ := get_ex (l := t.Trips) (i := i - 1) (by omega)
        rw [h1 y (by omega) hy]
        exact hp.2 (i - 1) y x hy (by rw [show i - 1 + 1 = i by omega]; exact hx)
    · show 0 ≤ x.Id
      have := hp.2.1; omega
    · intro y _ hy
      rw [show i + 1 - 1 = i by omega, hx] at hy; cases hy; rfl
    · intro j y hj hy
      by_cases hji : j = i
      · subst hji; rw [hx] at hy; cases hy; exact hp.2
      · exact h3 j y (by omega) hy
    · intro j a b hj ha hb'
      by_cases hji : j + 1 = i
      · subst hji; rw [hx] at hb'; cases hb'
        have := h1 a (by omega) (by simpa using ha)
        omega
      · exact h4 j a b (by omega) ha hb'
  · have d : decide ((12 : Int) < (t.Trips.length : Int)) = true := by simp; omega
    simp [d, h12]
/-- A trip is as it should be, and behind the one before it. -/
def TripQ (t : Timetable) (i : Nat) (x : Trip) : Prop := TripP t.Network x ∧ ∀ y, 0 < i → t.Trips[i - 1]? = some y → y.Id < x.Id
noncomputable instance (t : Timetable) (i : Nat) (x : Trip) : Decidable (TripQ t i x) := Classical.propDecidable _
theorem goodT_iff (t : Timetable) : GoodT t ↔ Good t.Network ∧ t.Trips.length ≤ 12 ∧ TripsP t := Iff.rfl
theorem validT_eq {t : Timetable} (hb : TB t) : i_IsValidTimetable t = some (decide (GoodT t)) := by
  unfold i_IsValidTimetable
  rw [valid_eq _ hb.1]
  by_cases hg : Good t.Network
  · simp only [hg, decide_true, if_true, Option.bind_some, areTrips_eq hb hg, goodT_iff, true_and]
  · have : ¬ GoodT t := fun h => hg h.1
    simp [hg, this]
theorem goodT_eq {t : Timetable} (hb : TB t) : s_l5Good t = some (decide (GoodT t)) := by
  unfold s_l5Good
  rw [good_eq _ hb.1]
  by_cases hg : Good t.Network
  · by_cases h12 : t.Trips.length ≤ 12
    · have d : decide ((12 : Int) < (t.Trips.length : Int)) = false := by simp; omega
      have e : decide (GoodT t) = decide (TripsP t) := by rw [decide_eq_decide, goodT_iff]; simp [hg, h12]
      simp only [hg, decide_true, Bool.not_true, Bool.false_eq_true, if_false, Option.bind_some, d, e]
      refine flb_dec (.iter (fun m a => ∃ i : Nat, a = (i : Int) ∧ m + i = t.Trips.length ∧ (∀ (j : Nat) x, j < i → t.Trips[j]? = some x → TripP t.Network x) ∧ ∀ (j : Nat) a b, j + 1 < i → t.Trips[j]? = some a → t.Trips[j + 1]? = some b → a.Id < b.Id)
        (n := t.Trips.length) ⟨0, rfl, rfl, fun j x h => by omega, fun j a b h => by omega⟩ ?_)
      rintro m v ⟨i, hv, hm, h3, h4⟩
      subst hv
      unfold s_l5Good_L1
      refine .iteP (fun hc => ?_) (fun hc => .dn (.inl ⟨rfl, fun j x hx => h3 j x (by have := get_lt hx; omega) hx, fun j a b ha hb' => h4 j a b (by have := get_lt hb'; omega) ha hb'⟩))
      obtain ⟨x, hx⟩ := get_ex (l := t.Trips) (i := i) (by omega)
      refine .eq (by rw [idx_nat]; exact hx) ?_
      have hll := hg.2.1
      have ew : w64 ((t.Network.Lines.length : Int) - 1) = (t.Network.Lines.length : Int) - 1 := w64_id (by omega)
      have key : ((s_l1In x.Id 1 999).bind fun r6 =>
      (if (!r6) = true then some true else (s_l1In x.Line 0 (w64 ((t.Network.Lines.length : Int) - 1))).bind fun r7 =>
      if (!r7) = true then some true else (s_l4Time x.Start).bind fun r8 =>
      if (!r8) = true then some true else (s_l5End t (i : Int)).bind fun r9 =>
      (s_l4Time r9).bind fun r10 =>
      if (!r10) = true then some true else if (decide (0 < (i : Int))) = true then (idx t.Trips (w64 ((i : Int) - 1))).bind fun e2 =>
      some (decide (x.Id ≤ e2.Id)) else some false)) = some (!decide (TripQ t i x)) := by
        have no : ¬ TripP t.Network x → (!decide (TripQ t i x)) = true := fun h => (by simp [show ¬ TripQ t i x from fun q => h q.1])
        simp only [l1In_eq, l4Time_eq, ew, Option.bind_some]
        by_cases c1 : 1 ≤ x.Id ∧ x.Id ≤ 999
        · by_cases c3 : 0 ≤ x.Line ∧ x.Line ≤ (t.Network.Lines.length : Int) - 1
          · obtain ⟨l, hl, _⟩ := idx_lt (l := t.Network.Lines) c3.1 (by omega)
            by_cases c4 : 0 ≤ x.Start ∧ x.Start ≤ 1799
            · simp only [c1, c3, c4, and_self, decide_true, Bool.not_true, Bool.false_eq_true, if_false, l5End_eq hg hx hl c4, l4Time_eq, Option.bind_some]
              by_cases c5 : 0 ≤ x.Start + l.Runs.sum ∧ x.Start + l.Runs.sum ≤ 1799
              · have hT : TripP t.Network x := ⟨c1, l, hl, c4, c5⟩
                simp only [c5, and_self, decide_true, Bool.not_true, Bool.false_eq_true, if_false, ]
                by_cases c6 : 0 < i
                · obtain ⟨y, hy⟩ := get_ex (l := t.Trips) (i := i - 1) (by omega)
                  have e1 : w64 ((i : Int) - 1) = ((i - 1 : Nat) : Int) := by rw [w64_id (by omega)]; omega
                  have c6' : (0 : Int) < (i : Int) := by omega
                  simp only [c6', decide_true, if_true, e1, idx_nat, hy, Option.bind_some, Option.some.injEq]
                  by_cases c7 : x.Id ≤ y.Id
                  · have : ¬ TripQ t i x := fun h => by have := h.2 y c6 hy; omega
                    simp only [c7, decide_true, this, decide_false, Bool.not_false]
                  · have : TripQ t i x := ⟨hT, fun z _ hz => by rw [hy] at hz; cases hz; omega⟩
                    simp only [c7, decide_false, this, decide_true, Bool.not_true]
                · have c6' : ¬ (0 : Int) < (i : Int) := by omega
                  have : TripQ t i x := ⟨hT, fun z h0 _ => absurd h0 c6⟩
                  simp only [c6', decide_false, Bool.false_eq_true, if_false, this, decide_true, Bool.not_true]
              · rw [no (fun hT => by
                  obtain ⟨_, l', hl', _, h⟩ := hT
                  rw [hl] at hl'; cases hl'; exact c5 h)]
                simp only [c5, decide_false, Bool.not_false, if_true]
            · rw [no (fun hT => by obtain ⟨_, l', _, h, _⟩ := hT; exact c4 h)]
              simp only [c1, c3, c4, and_self, decide_true, decide_false, Bool.not_true, Bool.not_false, Bool.false_eq_true, if_false, if_true]
          · rw [no (fun hT => by
              obtain ⟨_, l', hl', _⟩ := hT
              have := idx_some hl'
              exact c3 ⟨this.1, by omega⟩)]
            simp only [c1, c3, and_self, decide_true, decide_false, Bool.not_true, Bool.not_false, Bool.false_eq_true, if_false, if_true]
        · rw [no (fun hT => c1 hT.1)]
          simp only [c1, decide_false, Bool.not_false, if_true]
      rw [bind_assoc', key]
      refine .iteN (fun hn => .dn (.inr ⟨rfl, fun hp => hn ⟨hp.1 i x hx, fun y hi hy => hp.2 (i - 1) y x hy (by rw [show i - 1 + 1 = i by omega]; exact hx)⟩⟩)) (fun hp => .nx ⟨m - 1, by omega, i + 1, w64_succ (by omega), by omega, ?_, ?_⟩)
      · intro j y hj hy
        by_cases hji : j = i
        · subst hji; rw [hx] at hy; cases hy; exact hp.1
        · exact h3 j y (by omega) hy
      · intro j a b hj ha hb'
        by_cases hji : j + 1 = i
        · subst hji; rw [hx] at hb'; cases hb'
          exact hp.2 a (by omega) (by simpa using ha)
        · exact h4 j a b (by omega) ha hb'
    · have d : decide ((12 : Int) < (t.Trips.length : Int)) = true := by simp; omega
      have : ¬ GoodT t := fun h => h12 h.2.1
      simp [hg, d, this]
  · have : ¬ GoodT t := fun h => hg h.1
    simp [hg, this]
/-! Timetables: what is looked up; stop times; draws. -/
theorem tripIndex_eq (t : Timetable) (h : t.Trips.length ≤ 1000) (id : Int) : i_tripIndex t id = some (fixI (fun x => x.Id == id) t.Trips) := by
  unfold i_tripIndex slices_IndexFunc_Trip__i_tripIndex_1 slices_IndexFunc_Trip
  rw [find_val t.Trips (fun x => x.Id == id) (fun i x hx => ?_) (by unfold slices_IndexFunc_Trip_L1; simp)]
  · rfl
  · have := get_lt hx
    unfold slices_IndexFunc_Trip_L1 i_tripIndex_1
    simp (disch := omega) only [if_pos, if_neg, decide_eq_true_eq, decide_true, decide_false, Bool.not_true, Bool.not_false, Bool.false_eq_true, Bool.not_eq_true', decide_eq_false_iff_not, if_true, if_false, w64_id, chk_of, idx_nat, Option.bind_some, Option.map_some, Int.toNat_natCast, not_true_eq_false, not_false_eq_true, true_and, and_true, and_self, false_and, and_false, reduceIte, flb_go, flb_ret, beq_self_eq_true, ne_eq, bne_self_eq_false, hx, Int.ofNat_lt.2 this]
    split <;> simp [*] <;> omega
/-- A valid timetable's trip, with its line. -/
theorem trip_line {t : Timetable} (h : GoodT t) {i : Nat} {x : Trip} (hx : t.Trips[i]? = some x) : ∃ l, idx t.Network.Lines x.Line = some l ∧ LineP t.Network.Stops.length l ∧ (1 ≤ x.Id ∧ x.Id ≤ 999) ∧ (0 ≤ x.Start ∧ x.Start ≤ 1799) ∧ 0 ≤ x.Start + l.Runs.sum ∧ x.Start + l.Runs.sum ≤ 1799 := by
  obtain ⟨h1, l, hl, h2, h3⟩ := h.2.2.1 i x hx
  exact ⟨l, hl, good_line h.1 hl, h1, h2, h3⟩
theorem ids_lt {t : Timetable} (h : GoodT t) {i j : Nat} {a b : Trip} (hij : i < j) (ha : t.Trips[i]? = some a) (hb : t.Trips[j]? = some b) : a.Id < b.Id := by
  induction j generalizing b with
  | zero => omega
  | succ j ih =>
    obtain ⟨c, hc⟩ := get_ex (l := t.Trips) (i := j) (by have := get_lt hb; omega)
    have h1 := h.2.2.2 j c b hc hb
    by_cases hji : i = j
    · subst hji; rw [ha] at hc; cases hc; exact h1
    · have := ih (by omega) hc; omega
/-- A trip is found by its Id. -/
theorem trip_fix {t : Timetable} (h : GoodT t) {i : Nat} {x : Trip} (hx : t.Trips[i]? = some x) : fixI (fun y => y.Id == x.Id) t.Trips = (i : Int) := by
  refine fixI_of hx (by simp) fun j y hj hy => ?_
  have := ids_lt h hj hy hx
  simp; omega
/-- The stop times. -/
def ST (l : Line) (s : Int) : List Int := (List.range (l.Runs.length + 1)).map fun k => s + (l.Runs.take k).sum
theorem ST_len (l : Line) (s : Int) : (ST l s).length = l.Runs.length + 1 := by simp [ST]
theorem ST_at {l : Line} {s : Int} {k : Nat} (hk : k ≤ l.Runs.length) : (ST l s)[k]? = some (s + (l.Runs.take k).sum) := by
  unfold ST; rw [List.getElem?_map, List.getElem?_range (by omega)]; rfl
theorem found_or {t : Timetable} (id : Int) : (fixI (fun x => x.Id == id) t.Trips < 0 ∧ ∀ (k : Nat) y, t.Trips[k]? = some y → y.Id ≠ id) ∨ ∃ (k : Nat) (y : Trip), t.Trips[k]? = some y ∧ y.Id = id := by
  by_cases h : fixI (fun x => x.Id == id) t.Trips < 0
  · refine .inl ⟨h, fun k y hy => ?_⟩
    have := fixI_neg h y (List.mem_of_getElem? hy)
    simpa using this
  · obtain ⟨k, y, _, h2, h3, _⟩ := idx_fix h
    exact .inr ⟨k, y, h2, by simpa using h3⟩
/-! Draws -/
theorem network_ok {k : Nat} {c : l1Cur} (h : Cur k c) (hk : k ≤ 500000000) : ∃ r, s_l1Cur_network c = some r ∧ Cur (k + 300) r.2 ∧ NB r.1 := networkT_ok h hk
theorem network_t_ok {k : Nat} {c : l1Cur} (h : Cur k c) (hk : k ≤ 500000000) : ∃ r, s_l1Cur_network_t c = some r ∧ Cur (k + 300) r.2 ∧ NB r.1 := networkT_ok h hk
theorem anyNet_ok {k : Nat} {c : l1Cur} (h : Cur k c) (hk : k ≤ 200000000) : Tot (s_l1Cur_anyNetwork c) fun r => Cur (k + 1000) r.2 ∧ Bd r.1 := anyNetwork_ok h hk
def DT (t : Timetable) : Prop := Bd t.Network ∧ t.Trips.length ≤ 30
theorem DT.tb {t : Timetable} (h : DT t) : TB t := ⟨h.1, by have := h.2; omega⟩
theorem timetable_ok {k : Nat} {c : l1Cur} (h : Cur k c) (hk : k ≤ 100000000) : Tot (s_l1Cur_timetable c) fun r => Cur (k + 400) r.2 ∧ DT r.1 ∧ NB r.1.Network ∧ r.1.Trips.length ≤ 8 := by
  unfold s_l1Cur_timetable
  refine .call (networkT_ok h (by omega)) fun r ⟨hc, hn⟩ => .call (pick_ok 8 hc (by omega)) fun r1 ⟨hc1, h0, h1⟩ => ?_
  refine .call (P := fun o => Cur (k + 400) ⟨o.1, o.2.1, ⟨o.2.2.1⟩⟩ ∧ o.2.2.2.length ≤ 8) ?_ fun o ⟨ho1, ho2⟩ => .ok ⟨ho1, ⟨hn.bd, by show o.2.2.2.length ≤ 30; omega⟩, hn, ho2⟩
  refine .iter (fun m s => s.2.1 = (m : Int) ∧ m + s.2.2.2.2.2.length ≤ 8 ∧ Cur (k + 302 + 6 * (8 - m)) ⟨s.2.2.1, s.2.2.2.1, ⟨s.2.2.2.2.1⟩⟩) (n := r1.1.toNat) ⟨by show r1.1 = _; omega, by show r1.1.toNat + 0 ≤ 8; omega, hc1.mono (by omega)⟩ ?_
  rintro m ⟨n, v, v1, v2, v3, v4⟩ ⟨hv, hl, hcur⟩
  simp only at hv hl hcur
  subst hv
  unfold s_l1Cur_timetable_L1
  refine .iteP (fun hc => ?_) (fun hc => .dn ⟨hcur.mono (by omega), by show v4.length ≤ 8; omega⟩)
  refine .call (pick_ok 3 hcur (by omega)) fun r2 ⟨hc2, _⟩ => .call (pick_ok _ hc2 (by omega)) fun r5 ⟨hc5, _⟩ => .call (pick_ok 24 hc5 (by omega)) fun r6 ⟨hc6, _⟩ => .chk (by simp; omega) (.nx ⟨m - 1, by omega, ?_, ?_, ?_⟩)
  · show w64 ((m : Int) - 1) = _; rw [w64_id (by omega)]; omega
  · show m - 1 + (v4 ++ [_]).length ≤ 8; simp; omega
  · exact hc6.mono (by omega)
theorem anyTimetable_ok {k : Nat} {c : l1Cur} (h : Cur k c) (hk : k ≤ 50000000) : Tot (s_l1Cur_anyTimetable c) fun r => Cur (k + 2000) r.2 ∧ DT r.1 := by
  unfold s_l1Cur_anyTimetable
  refine .call (timetable_ok h (by omega)) fun r ⟨hc, hd, hn, hl⟩ => ?_
  refine .ite (fun _ => .ok ⟨hc.mono (by omega), hd⟩) fun he => ?_
  have hpos : 0 < r.1.Trips.length := by
    have : (r.1.Trips.length : Int) ≠ 0 := by simpa using he
    omega
  refine .call (pick_ok _ hc (by omega)) fun r1 ⟨hc1, h10, h11⟩ => ?_
  have h12 : r1.1 < (r.1.Trips.length : Int) := by omega
  refine .idx h10 h12 fun e _ => ?_
  have fin : ∀ (v : List UInt8) (v1 v2 : Int) (v3 : List Line) (v4 v5 v6 : Int) (v7 : List ByteArray), Cur (k + 2000) ⟨v, v1, ⟨v2⟩⟩ → Bd ⟨v7, v3⟩ → Tot ((idx r.1.Trips r1.1).bind fun e2 => some ((⟨(⟨v7, v3⟩ : Network), (r.1.Trips.set r1.1.toNat (⟨v4, v5, v6⟩ : Trip))⟩ : Timetable), (⟨v, v1, (⟨v2⟩ : IK .u64)⟩ : l1Cur))) fun r => Cur (k + 2000) r.2 ∧ DT r.1 := fun v v1 v2 v3 v4 v5 v6 v7 q1 q2 =>
    .idx h10 h12 fun e2 _ => .ok ⟨q1, q2, by show (r.1.Trips.set _ _).length ≤ 30; rw [List.length_set]; omega⟩
  refine .flb (.call (pick_ok 24 hc1 (by omega)) fun r2 ⟨hc2, _⟩ => ?_)
  refine .ite (fun _ => .call (among_ok _ (by simp) hc2 (by omega)) fun r3 ⟨hc3, _⟩ => .go (fin _ _ _ _ _ _ _ _ (hc3.mono (by omega)) hd.1)) fun _ => ?_
  refine .ite (fun _ => .call (pick_ok 7 hc2 (by omega)) fun r3 ⟨hc3, _⟩ => .go (fin _ _ _ _ _ _ _ _ (hc3.mono (by omega)) hd.1)) fun _ => ?_
  refine .ite (fun _ => .call (among_ok _ (by simp) hc2 (by omega)) fun r3 ⟨hc3, _⟩ => .go (fin _ _ _ _ _ _ _ _ (hc3.mono (by omega)) hd.1)) fun _ => ?_
  refine .ite (fun _ => .call (anyNet_ok hc2 (by omega)) fun r3 ⟨hc3, hb⟩ => .go (fin _ _ _ _ _ _ _ _ (hc3.mono (by omega)) hb)) fun _ => ?_
  refine .ite (fun _ => ?_) fun _ => .go (fin _ _ _ _ _ _ _ _ (hc2.mono (by omega)) hd.1)
  refine .call (P := fun o => Cur (k + 2000) ⟨o.1, o.2.1, ⟨o.2.2.1⟩⟩ ∧ o.2.2.2.length ≤ 30) ?_ fun o ⟨ho1, ho2⟩ => .ret ⟨ho1, hd.1, ho2⟩
  refine .iter (fun m s => ∃ i : Nat, s.1 = (i : Int) ∧ m + i = 14 ∧ s.2.2.2.2.length ≤ 8 + i ∧ Cur (k + 500 + 2 * i) ⟨s.2.1, s.2.2.1, ⟨s.2.2.2.1⟩⟩) (n := 14) ⟨0, rfl, rfl, by simpa using hl, hc2.mono (by omega)⟩ ?_
  rintro m ⟨v8, v9, v10, v11, v12⟩ ⟨i, hv, hm, hl12, hcur⟩
  simp only at hv hl12 hcur
  subst hv
  unfold s_l1Cur_anyTimetable_L1
  refine .call (pick_ok 2 hcur (by omega)) fun r8 ⟨hc8, _⟩ => ?_
  refine .call (P := fun b => b = true → i < 14) (.ite (fun _ => .ok fun hb => by simp at hb; omega) fun _ => .ok fun hb => by cases hb) fun b hb => ?_
  refine .ite (fun ht => .chk (by simp; omega) (.nx ⟨m - 1, by have := hb ht; omega, i + 1, w64_succ (by omega), by have := hb ht; omega, ?_, hc8.mono (by omega)⟩)) (fun _ => .dn ⟨hc8.mono (by omega), by show v12.length ≤ 30; omega⟩)
  show (v12 ++ [_]).length ≤ 8 + (i + 1); simp; omega
/-! Timetables: copies, a trip put in, taken out, shifted. -/
theorem copyNet_eq (n : Network) (h : Bd n) : i_copyNetwork n = some n := by
  obtain ⟨h1, h2, h3⟩ := h
  unfold i_copyNetwork
  rw [cloneS_eq _ h1, chk_of (by omega)]
  simp only [Option.bind_some]
  rw [fill_loop (fun x : Line => x) n.Lines _ (by simp) (fun i a x y ha hy hx => ?_) (fun a ha => ?_)]
  · simp only [Option.bind_some, List.map_id']
  · have hi := (List.getElem?_eq_some_iff.1 hx).1
    obtain ⟨g1, g2⟩ := h3 x (List.mem_of_getElem? hx)
    unfold i_copyNetwork_L1
    have hlt : decide ((i : Int) < (n.Lines.length : Int)) = true := by simp; omega
    simp only [hlt, if_true, idx_nat, hx, hy, Option.bind_some, copyLine_eq x g1 g2, w64_succ (n := i) (by omega), Int.toNat_natCast]
  · unfold i_copyNetwork_L1; simp
theorem cloneT_eq (l : List Trip) (h : l.length ≤ 1000) : slices_Clone_Trip l = some l := by
  unfold slices_Clone_Trip
  rw [chk_of (by simp; omega)]; rfl
theorem copyT_eq {t : Timetable} (h : TB t) : i_copyTimetable t = some t := by
  unfold i_copyTimetable
  rw [copyNet_eq _ h.1]
  simp only [Option.bind_some, cloneT_eq _ h.2]
theorem l5Own_eq {t : Timetable} (h : TB t) : s_l5Own t = some t := by
  have := h.2
  unfold s_l5Own
  rw [l2Own_eq _ h.1]
  simp only [Option.bind_some]
  rw [chk_of (by simp; omega)]
  rfl
/-- The place where a trip is put. -/
def AtP (l : List Trip) (x : Trip) (p : Nat) : Prop := p ≤ l.length ∧ (∀ (j : Nat) y, j < p → l[j]? = some y → y.Id < x.Id) ∧ ∀ y, l[p]? = some y → ¬ y.Id < x.Id
theorem place_ok {t : Timetable} (h : t.Trips.length ≤ 1000) (x : Trip) : ∃ p : Nat, iter (i_withTrip_L1 t x) (0 : Int) = some (p : Int) ∧ AtP t.Trips x p := by
  have : Tot (iter (i_withTrip_L1 t x) (0 : Int)) fun v => ∃ p : Nat, v = (p : Int) ∧ AtP t.Trips x p := by
    refine .iter (fun m v => ∃ i : Nat, v = (i : Int) ∧ m + i = t.Trips.length ∧ ∀ (j : Nat) y, j < i → t.Trips[j]? = some y → y.Id < x.Id) (n := t.Trips.length) ⟨0, rfl, rfl, fun j y hj => by omega⟩ ?_
    rintro m v ⟨i, rfl, hm, hj⟩
    unfold i_withTrip_L1
    by_cases hc : i < t.Trips.length
    · obtain ⟨y, hy⟩ := get_ex (l := t.Trips) (i := i) hc
      by_cases hlt : y.Id < x.Id
      · simp (disch := omega) only [if_pos, if_neg, decide_eq_true_eq, decide_true, decide_false, Bool.not_true, Bool.not_false, Bool.false_eq_true, Bool.not_eq_true', decide_eq_false_iff_not, if_true, if_false, w64_id, chk_of, idx_nat, Option.bind_some, Option.map_some, Int.toNat_natCast, not_true_eq_false, not_false_eq_true, true_and, and_true, and_self, false_and, and_false, reduceIte, flb_go, flb_ret, beq_self_eq_true, ne_eq, bne_self_eq_false, hy, Int.ofNat_lt.2 hc, hlt]
        refine .nx ⟨m - 1, by omega, i + 1, by omega, by omega, fun j z hjz hz => ?_⟩
        by_cases hji : j = i
        · subst hji; rw [hy] at hz; cases hz; exact hlt
        · exact hj j z (by omega) hz
      · simp (disch := omega) only [if_pos, if_neg, decide_eq_true_eq, decide_true, decide_false, Bool.not_true, Bool.not_false, Bool.false_eq_true, Bool.not_eq_true', decide_eq_false_iff_not, if_true, if_false, w64_id, chk_of, idx_nat, Option.bind_some, Option.map_some, Int.toNat_natCast, not_true_eq_false, not_false_eq_true, true_and, and_true, and_self, false_and, and_false, reduceIte, flb_go, flb_ret, beq_self_eq_true, ne_eq, bne_self_eq_false, hy, Int.ofNat_lt.2 hc, hlt]
        exact .dn ⟨i, rfl, by omega, hj, fun z hz => by rw [hy] at hz; cases hz; exact hlt⟩
    · have hc' : ¬ ((i : Int) < (t.Trips.length : Int)) := by omega
      simp (disch := omega) only [if_pos, if_neg, decide_eq_true_eq, decide_true, decide_false, Bool.not_true, Bool.not_false, Bool.false_eq_true, Bool.not_eq_true', decide_eq_false_iff_not, if_true, if_false, w64_id, chk_of, idx_nat, Option.bind_some, Option.map_some, Int.toNat_natCast, not_true_eq_false, not_false_eq_true, true_and, and_true, and_self, false_and, and_false, reduceIte, flb_go, flb_ret, beq_self_eq_true, ne_eq, bne_self_eq_false, hc']
      exact .dn ⟨i, rfl, by omega, hj, fun z hz => by have := get_lt hz; omega⟩
  obtain ⟨v, hv, p, rfl, hp⟩ := this
  exact ⟨p, hv, hp⟩
/-- A timetable with a further trip. -/
def putT (t : Timetable) (x : Trip) (p : Nat) : Timetable := ⟨t.Network, t.Trips.take p ++ [x] ++ t.Trips.drop p⟩
theorem putT_len {t : Timetable} {x : Trip} {p : Nat} (h : p ≤ t.Trips.length) : (putT t x p).Trips.length = t.Trips.length + 1 := by
  simp [putT]; omega
theorem putT_tb {t : Timetable} {x : Trip} {p : Nat} (hb : Bd t.Network) (hl : t.Trips.length ≤ 900) (h : p ≤ t.Trips.length) : TB (putT t x p) := ⟨hb, by rw [putT_len h]; omega⟩
theorem withTrip_eq {t : Timetable} (h : TB t) {x : Trip} {p : Nat} (h1 : iter (i_withTrip_L1 t x) (0 : Int) = some (p : Int)) (hp : p ≤ t.Trips.length) : i_withTrip t x = some (putT t x p) := by
  have h2 := h.2
  unfold i_withTrip
  rw [h1]
  simp only [Option.bind_some, copyT_eq h]
  unfold slices_Insert_Trip_m insM
  rw [if_pos ⟨by omega, by omega, by simp, by simp; omega⟩]
  rfl
theorem l5Put_eq {t : Timetable} (h : TB t) {x : Trip} {p : Nat} (h1 : iter (i_withTrip_L1 t x) (0 : Int) = some (p : Int)) (hp : p ≤ t.Trips.length) : s_l5Put t x = some (putT t x p) := by
  have h2 := h.2
  have h3 : iter (s_l5Put_L1 t x) (0 : Int) = some (p : Int) := h1
  unfold s_l5Put
  rw [h3]
  simp only [Option.bind_some, l5Own_eq h]
  rw [chk_of (by omega)]
  simp only [Option.bind_some]
  rw [chk_of (by simp; omega)]
  simp only [Option.bind_some]
  rw [chk_of (by simp; omega)]
  simp only [Option.bind_some]
  rw [chk_of (by omega)]
  simp only [Option.bind_some]
  rw [chk_of (by simp; omega)]
  simp [putT]
theorem putT_at {t : Timetable} {x : Trip} {p : Nat} (hp : p ≤ t.Trips.length) : (putT t x p).Trips[p]? = some x := by
  have e : (t.Trips.take p).length = p := by rw [List.length_take]; omega
  show (t.Trips.take p ++ [x] ++ t.Trips.drop p)[p]? = some x
  rw [List.append_assoc, List.getElem?_append_right (by omega), e, Nat.sub_self]; rfl
theorem vTimetable_refl {t : Timetable} (h : TB t) : v_vTimetable t t = some true := by
  have h2 := h.2
  unfold v_vTimetable
  rw [vNetwork_refl _ h.1]
  simp only [Option.bind_some, Bool.not_true, Bool.false_eq_true, if_false, bne_self_eq_false]
  rw [all_val (hd := Classical.propDecidable _) t.Trips (fun _ _ => True) (fun i x hx => ?_) (by unfold v_vTimetable_L1; simp)]
  · rw [if_pos (fun _ _ _ => trivial)]
  · have := get_lt hx
    unfold v_vTimetable_L1
    left
    refine ⟨?_, trivial⟩
    simp only [Int.ofNat_lt.2 this, decide_true, if_true, idx_nat, hx, Option.bind_some, beq_self_eq_true, Bool.and_self, Bool.not_true, Bool.false_eq_true, if_false, w64_succ (n := i) (by omega)]
theorem tb_empty : TB (⟨⟨[], []⟩, []⟩ : Timetable) := ⟨⟨by simp, by simp, by simp⟩, by simp⟩
/-- A timetable with a trip shifted. -/
def shiftT (t : Timetable) (k : Nat) (y : Trip) (m : Int) : Timetable := ⟨t.Network, t.Trips.set k ⟨y.Id, y.Line, w64 (y.Start + m)⟩⟩
/-! Repeated trips: a free Id, the loop. -/
def FreeP (l : List Trip) (i : Nat) : Prop := i ≤ l.length ∧ (∀ (j : Nat) y, j < i → l[j]? = some y → y.Id = (j : Int) + 1) ∧ ∀ y, l[i]? = some y → y.Id ≠ (i : Int) + 1
theorem freeP_uniq {l : List Trip} {a b : Nat} (ha : FreeP l a) (hb : FreeP l b) : a = b := by
  have h : ∀ {a b : Nat}, FreeP l a → FreeP l b → ¬ a < b := fun {a b} ha hb hlt => by
    obtain ⟨y, hy⟩ := get_ex (l := l) (i := a) (by have := hb.1; omega)
    exact ha.2.2 y hy (hb.2.1 a y hlt hy)
  have h1 := h ha hb
  have h2 := h hb ha
  omega
theorem id_ge {t : Timetable} (hg : GoodT t) {i : Nat} (h : ∀ (j : Nat) y, j < i → t.Trips[j]? = some y → y.Id = (j : Int) + 1) {y : Trip} (hy : t.Trips[i]? = some y) : (i : Int) + 1 ≤ y.Id := by
  by_cases hi : i = 0
  · subst hi
    have := (hg.2.2.1 0 y hy).1
    omega
  · obtain ⟨z, hz⟩ := get_ex (l := t.Trips) (i := i - 1) (by have := get_lt hy; omega)
    have h1 := h (i - 1) z (by omega) hz
    have h2 := hg.2.2.2 (i - 1) z y hz (by rw [show i - 1 + 1 = i by omega]; exact hy)
    omega
theorem freeI {t : Timetable} (hb : TB t) (hg : GoodT t) : Tot (i_freeId t) fun v => ∃ i : Nat, v = (i : Int) + 1 ∧ FreeP t.Trips i := by
  have hl := hg.2.1
  unfold i_freeId
  refine .call (P := fun v => ∃ i : Nat, v = (i : Int) + 1 ∧ FreeP t.Trips i) ?_ fun v hv => .ok hv
  refine .iter (fun m v => ∃ i : Nat, v = (i : Int) + 1 ∧ m + i = t.Trips.length ∧ ∀ (j : Nat) y, j < i → t.Trips[j]? = some y → y.Id = (j : Int) + 1) (n := t.Trips.length) ⟨0, rfl, rfl, fun j y hj => by omega⟩ ?_
  rintro m v ⟨i, rfl, hm, hp⟩
  unfold i_freeId_L1
  refine .eq (tripIndex_eq t hb.2 _) (.iteP (fun hc => ?_) (fun hc => .dn ⟨i, rfl, by omega, hp, fun y hy he => ?_⟩))
  · obtain ⟨k, y, _, hy, he, _⟩ := idx_fix (show ¬ fixI (fun x => x.Id == (i : Int) + 1) t.Trips < 0 by omega)
    have he : y.Id = (i : Int) + 1 := by simpa using he
    have hk : k = i := by
      rcases Nat.lt_trichotomy k i with h | h | h
      · have := hp k y h hy; omega
      · exact h
      · obtain ⟨z, hz⟩ := get_ex (l := t.Trips) (i := i) (by have := get_lt hy; omega)
        have h1 := id_ge hg hp hz
        have h2 := ids_lt hg h hz hy
        omega
    subst hk
    have hlt := get_lt hy
    refine .nx ⟨m - 1, by omega, k + 1, ?_, by omega, fun j z hj hz => ?_⟩
    · rw [w64_id (by omega)]; omega
    · by_cases hjk : j = k
      · subst hjk; rw [hy] at hz; cases hz; exact he
      · exact hp j z (by omega) hz
  · have := fixI_neg (show fixI (fun x => x.Id == (i : Int) + 1) t.Trips < 0 by omega) y (List.mem_of_getElem? hy)
    simp at this
    exact this he
theorem freeS {t : Timetable} (hg : GoodT t) : Tot (s_l5Id t) fun v => ∃ i : Nat, v = (i : Int) + 1 ∧ FreeP t.Trips i := by
  have hl := hg.2.1
  unfold s_l5Id
  refine .call (P := fun v => ∃ i : Nat, v = (i : Int) + 1 ∧ FreeP t.Trips i) ?_ fun v hv => .ok hv
  refine .iter (fun m v => ∃ i : Nat, v = ((i : Int) + 1, (i : Int)) ∧ m + i = t.Trips.length ∧ ∀ (j : Nat) y, j < i → t.Trips[j]? = some y → y.Id = (j : Int) + 1) (n := t.Trips.length) ⟨0, rfl, rfl, fun j y hj => by omega⟩ ?_
  rintro m v ⟨i, rfl, hm, hp⟩
  unfold s_l5Id_L1
  dsimp only
  by_cases hc : i < t.Trips.length
  · obtain ⟨y, hy⟩ := get_ex (l := t.Trips) (i := i) hc
    have hc' : decide ((i : Int) < (t.Trips.length : Int)) = true := by simp; omega
    by_cases he : y.Id = (i : Int) + 1
    · simp only [hc', if_true, idx_nat, hy, Option.bind_some, he, beq_self_eq_true]
      refine .nx ⟨m - 1, by omega, i + 1, ?_, by omega, fun j z hj hz => ?_⟩
      · rw [w64_id (by omega), w64_id (by omega)]
        refine Prod.ext ?_ ?_ <;> simp
      · by_cases hji : j = i
        · subst hji; rw [hy] at hz; cases hz; exact he
        · exact hp j z (by omega) hz
    · have he' : (y.Id == (i : Int) + 1) = false := by simpa using he
      simp only [hc', if_true, idx_nat, hy, Option.bind_some, he', Bool.false_eq_true, if_false]
      exact .dn ⟨i, rfl, by omega, hp, fun z hz => by rw [hy] at hz; cases hz; exact he⟩
  · have hc' : decide ((i : Int) < (t.Trips.length : Int)) = false := by simp; omega
    simp only [hc', Bool.false_eq_true, if_false, Option.bind_some]
    exact .dn ⟨i, rfl, by omega, hp, fun z hz => by have := get_lt hz; omega⟩
theorem free_both {t : Timetable} (hb : TB t) (hg : GoodT t) : ∃ f, i_freeId t = some f ∧ s_l5Id t = some f := by
  obtain ⟨v, h1, i, rfl, p1⟩ := freeI hb hg
  obtain ⟨v, h2, j, rfl, p2⟩ := freeS hg
  have := freeP_uniq p1 p2
  subst this
  exact ⟨_, h1, h2⟩
/-- Behind j trips. -/
structure RI (t : Timetable) (line from_ h : Int) (j : Nat) (T : List Trip) : Prop where
  good : GoodT ⟨t.Network, T⟩
  len : T.length = t.Trips.length + j
  has : ∀ i : Nat, i < j → ∃ y, y ∈ T ∧ y.Line = line ∧ y.Start = from_ + i * h
abbrev RepS : Type := Int × Int × (List ByteArray) × (List Line) × (List Trip)
abbrev RepE : Type := Int × (List ByteArray) × (List Line) × (List Trip)
noncomputable def repE (t : Timetable) (to h : Int) (j : Nat) (v : Int) (T' : List Trip) : Lp RepS (Fl (Fl (Timetable × Int × Bool) RepE) RepE) :=
  if GoodT ⟨t.Network, T'⟩ then (if to - v < h then .dn (.go ((j : Int) + 1, t.Network.Stops, t.Network.Lines, T')) else .nx ((j : Int) + 1, v + h, t.Network.Stops, t.Network.Lines, T')) else .dn (.ret (.ret ((⟨(⟨([] : List ByteArray), ([] : List Line)⟩ : Network), ([] : List Trip)⟩ : Timetable), 0, false)))
theorem rep_step {t : Timetable} {line from_ to h : Int} (hfr : 0 ≤ from_ ∧ from_ ≤ 1799) (hto : to ≤ 5000) (hh : 1 ≤ h ∧ h ≤ 10000) {j : Nat} {T : List Trip} (hI : RI t line from_ h j T) {v : Int} (hv : v = from_ + j * h) (hvt : v ≤ to) (hft : from_ ≤ to) :
    ∃ T' : List Trip, (GoodT ⟨t.Network, T'⟩ → RI t line from_ h (j + 1) T') ∧
      i_RepeatTrips_L1 line to h ((j : Int), v, t.Network.Stops, t.Network.Lines, T) = some (repE t to h j v T') ∧
      s_RepeatTrips_L1 line from_ to h ((j : Int), v, t.Network.Stops, t.Network.Lines, T) = some (repE t to h j v T') := by
  have hl12 := hI.good.2.1
  have hlen := hI.len
  simp only at hl12
  have hbd : Bd t.Network := by
    obtain ⟨a1, a2, _, _, a5⟩ := hI.good.1
    simp only at a1 a2
    refine ⟨by omega, by omega, fun x hx => ?_⟩
    obtain ⟨i, hi⟩ := List.getElem?_of_mem hx
    have := a5 i x hi
    obtain ⟨⟨b1, b2, b3⟩, _⟩ := line_runs this
    have b4 := this.1
    omega
  have hTB : TB (⟨t.Network, T⟩ : Timetable) := ⟨hbd, by show T.length ≤ 1000; omega⟩
  obtain ⟨f, f1, f2⟩ := free_both hTB hI.good
  obtain ⟨p, h1, hp⟩ := place_ok (t := ⟨t.Network, T⟩) hTB.2 (⟨f, line, v⟩ : Trip)
  have hP := putT_tb (t := ⟨t.Network, T⟩) (x := (⟨f, line, v⟩ : Trip)) hbd (by show T.length ≤ 900; omega) hp.1
  have e1 := withTrip_eq hTB h1 hp.1
  have e2 := l5Put_eq hTB h1 hp.1
  have hj : (j : Int) ≤ 12 := by omega
  have hvb : 0 ≤ v := by
    have : 0 ≤ (j : Int) * h := Int.mul_nonneg (by omega) (by omega)
    omega
  have w1 : w64 ((j : Int) + 1) = (j : Int) + 1 := w64_id (by omega)
  have w2 : w64 (to - v) = to - v := w64_id (by omega)
  have w3 : w64 (v + h) = v + h := w64_id (by omega)
  obtain ⟨T', hT'⟩ : ∃ T', T' = (putT (⟨t.Network, T⟩ : Timetable) ⟨f, line, v⟩ p).Trips := ⟨_, rfl⟩
  have hput : putT (⟨t.Network, T⟩ : Timetable) ⟨f, line, v⟩ p = ⟨t.Network, T'⟩ := by rw [hT']; rfl
  rw [hput] at e1 e2 hP
  have a1 : i_areTrips (⟨⟨t.Network.Stops, t.Network.Lines⟩, T'⟩ : Timetable) = some (decide (GoodT ⟨t.Network, T'⟩)) := by
    have := areTrips_eq hP hI.good.1
    rw [show (⟨⟨t.Network.Stops, t.Network.Lines⟩, T'⟩ : Timetable) = ⟨t.Network, T'⟩ from rfl, this]
    have hN : Good t.Network := hI.good.1
    congr 1
    simp only [goodT_iff, hN, true_and]
  have a2 : s_l5Good (⟨⟨t.Network.Stops, t.Network.Lines⟩, T'⟩ : Timetable) = some (decide (GoodT ⟨t.Network, T'⟩)) := goodT_eq hP
  refine ⟨T', fun hg => ⟨hg, ?_, fun i hi => ?_⟩, ?_, ?_⟩
  · have := putT_len (t := ⟨t.Network, T⟩) (x := (⟨f, line, v⟩ : Trip)) hp.1
    rw [hT', this]
    show T.length + 1 = _
    omega
  · by_cases hij : i = j
    · subst hij
      refine ⟨⟨f, line, v⟩, ?_, rfl, hv⟩
      rw [hT']; simp [putT]
    · obtain ⟨y, hy, hy1, hy2⟩ := hI.has i (by omega)
      refine ⟨y, ?_, hy1, hy2⟩
      rw [hT']
      show y ∈ T.take p ++ [_] ++ T.drop p
      rw [← List.take_append_drop p T] at hy
      simp only [List.mem_append, List.mem_singleton] at hy ⊢
      rcases hy with hy | hy
      · exact .inl (.inl hy)
      · exact .inr hy
  · unfold i_RepeatTrips_L1 repE
    dsimp only
    by_cases hg : GoodT ⟨t.Network, T'⟩
    · by_cases hd : to - v < h
      · simp only [hvt, decide_true, if_true, Option.bind_some, f1, e1, a1, hg, Bool.not_true, Bool.false_eq_true, if_false, w1, w2, hd]
      · simp only [hvt, decide_true, if_true, Option.bind_some, f1, e1, a1, hg, Bool.not_true, Bool.false_eq_true, if_false, w1, w2, w3, hd, decide_false]
    · simp only [hvt, decide_true, if_true, Option.bind_some, f1, e1, a1, hg, decide_false, Bool.not_false, if_false]
  · unfold s_RepeatTrips_L1 repE
    dsimp only
    by_cases hg : GoodT ⟨t.Network, T'⟩
    · by_cases hd : to - v < h
      · simp only [hft, decide_true, if_true, Option.bind_some, f2, e2, a2, hg, Bool.not_true, Bool.false_eq_true, if_false, w1, w2, hd]
      · simp only [hft, decide_true, if_true, Option.bind_some, f2, e2, a2, hg, Bool.not_true, Bool.false_eq_true, if_false, w1, w2, w3, hd, decide_false]
    · simp only [hft, decide_true, if_true, Option.bind_some, f2, e2, a2, hg, decide_false, Bool.not_false, if_false]
/-- What the loops leave. -/
def RepP (t : Timetable) (line from_ h : Int) (b : Fl (Fl (Timetable × Int × Bool) RepE) RepE) : Prop :=
  b = .ret (.ret ((⟨(⟨([] : List ByteArray), ([] : List Line)⟩ : Network), ([] : List Trip)⟩ : Timetable), 0, false)) ∨ ∃ (n : Nat) (T : List Trip), b = .go ((n : Int), t.Network.Stops, t.Network.Lines, T) ∧ RI t line from_ h n T
theorem rep_loop {t : Timetable} {line from_ to h : Int} (hg : GoodT t) (hfr : 0 ≤ from_ ∧ from_ ≤ 1799) (hto : to ≤ 5000) (hh : 1 ≤ h ∧ h ≤ 10000) :
    ∃ x, iter (i_RepeatTrips_L1 line to h) ((0 : Int), from_, t.Network.Stops, t.Network.Lines, t.Trips) = some x ∧ iter (s_RepeatTrips_L1 line from_ to h) ((0 : Int), from_, t.Network.Stops, t.Network.Lines, t.Trips) = some x ∧ RepP t line from_ h x := by
  have h0 : RI t line from_ h 0 t.Trips := ⟨hg, by omega, fun i hi => by omega⟩
  by_cases hft : from_ ≤ to
  · have := iter2 (step := i_RepeatTrips_L1 line to h) (step' := s_RepeatTrips_L1 line from_ to h)
      (fun k a a' => a = a' ∧ ∃ (j : Nat) (v : Int) (T : List Trip), a = ((j : Int), v, t.Network.Stops, t.Network.Lines, T) ∧ v = from_ + j * h ∧ v ≤ to ∧ RI t line from_ h j T ∧ k + T.length = 13)
      (fun x x' => x = x' ∧ RepP t line from_ h x) ?_ (k := 13 - t.Trips.length) (a := ((0 : Int), from_, t.Network.Stops, t.Network.Lines, t.Trips)) (a' := ((0 : Int), from_, t.Network.Stops, t.Network.Lines, t.Trips))
      ⟨rfl, 0, from_, t.Trips, rfl, by simp, hft, h0, by have := hg.2.1; omega⟩
    · obtain ⟨x, x', e1, e2, rfl, e3⟩ := this
      exact ⟨x, e1, e2, e3⟩
    · rintro k a a' ⟨rfl, j, v, T, rfl, hv, hvt, hI, hk⟩
      obtain ⟨T', hT, s1, s2⟩ := rep_step hfr hto hh hI hv hvt hft
      by_cases hg' : GoodT ⟨t.Network, T'⟩
      · have hI' := hT hg'
        by_cases hd : to - v < h
        · have e : repE t to h j v T' = .dn (.go ((j : Int) + 1, t.Network.Stops, t.Network.Lines, T')) := by unfold repE; rw [if_pos hg', if_pos hd]
          rw [e] at s1 s2
          exact .inr ⟨_, _, s1, s2, rfl, .inr ⟨j + 1, T', by simp, hI'⟩⟩
        · have e : repE t to h j v T' = .nx ((j : Int) + 1, v + h, t.Network.Stops, t.Network.Lines, T') := by unfold repE; rw [if_pos hg', if_neg hd]
          rw [e] at s1 s2
          have hl := hI'.good.2.1
          simp only at hl
          have l1 := hI.len
          have l2 := hI'.len
          refine .inl ⟨_, _, k - 1, s1, s2, by omega, rfl, j + 1, v + h, T', by simp, ?_, by omega, hI', by omega⟩
          rw [hv]
          have : (((j + 1 : Nat) : Int)) * h = j * h + h := by rw [Int.natCast_succ, Int.add_mul, Int.one_mul]
          omega
      · have e : repE t to h j v T' = .dn (.ret (.ret ((⟨(⟨([] : List ByteArray), ([] : List Line)⟩ : Network), ([] : List Trip)⟩ : Timetable), 0, false))) := by unfold repE; rw [if_neg hg']
        rw [e] at s1 s2
        exact .inr ⟨_, _, s1, s2, rfl, .inl rfl⟩
  · have s1 : i_RepeatTrips_L1 line to h ((0 : Int), from_, t.Network.Stops, t.Network.Lines, t.Trips) = some (.dn (.go ((0 : Int), t.Network.Stops, t.Network.Lines, t.Trips))) := by
      unfold i_RepeatTrips_L1
      simp [hft]
    have s2 : s_RepeatTrips_L1 line from_ to h ((0 : Int), from_, t.Network.Stops, t.Network.Lines, t.Trips) = some (.dn (.go ((0 : Int), t.Network.Stops, t.Network.Lines, t.Trips))) := by
      unfold s_RepeatTrips_L1
      simp [hft]
    exact ⟨_, iter_dn s1, iter_dn s2, .inr ⟨0, t.Trips, rfl, h0⟩⟩
theorem repeat_both {t : Timetable} (hb : TB t) (line from_ to h : Int) (hto : 0 ≤ from_ ∧ from_ ≤ 1799 → to ≤ 5000) (hh : h ≤ 10000) :
    (i_RepeatTrips t line from_ to h = some (⟨⟨[], []⟩, []⟩, 0, false) ∧ s_RepeatTrips t line from_ to h = some (⟨⟨[], []⟩, []⟩, 0, false)) ∨
    ∃ (n : Nat) (T : List Trip), RI t line from_ h n T ∧ (0 ≤ line ∧ line < (t.Network.Lines.length : Int)) ∧ 1 ≤ h ∧ i_RepeatTrips t line from_ to h = some (⟨t.Network, T⟩, (n : Int), true) ∧ s_RepeatTrips t line from_ to h = some (⟨t.Network, T⟩, (n : Int), true) := by
  have hbl := hb.1.2.1
  have wl : w64 ((t.Network.Lines.length : Int) - 1) = (t.Network.Lines.length : Int) - 1 := w64_id (by omega)
  unfold i_RepeatTrips s_RepeatTrips
  rw [validT_eq hb, goodT_eq hb, isLine_eq, time_eq, l4Time_eq, wl, l1In_eq, copyT_eq hb, l5Own_eq hb]
  simp only [Option.bind_some]
  by_cases hg : GoodT t
  · by_cases hl : 0 ≤ line ∧ line < (t.Network.Lines.length : Int)
    · have hl' : 0 ≤ line ∧ line ≤ (t.Network.Lines.length : Int) - 1 := by omega
      by_cases hh1 : 1 ≤ h
      · have hh2 : ¬ h ≤ 0 := by omega
        have hh3 : ¬ h < 1 := by omega
        by_cases hf : 0 ≤ from_ ∧ from_ ≤ 1799
        · obtain ⟨x, e1, e2, hx⟩ := rep_loop (line := line) hg hf (hto hf) ⟨hh1, hh⟩
          rcases hx with rfl | ⟨n, T, rfl, hI⟩
          · refine .inl ⟨?_, ?_⟩ <;> simp only [hg, hl, hl', hh2, hh3, hf, and_self, decide_true, decide_false, Bool.not_true, Bool.false_eq_true, if_false, Option.bind_some, e1, e2, flb_ret]
          · refine .inr ⟨n, T, hI, hl, hh1, ?_, ?_⟩ <;> simp only [hg, hl, hl', hh2, hh3, hf, and_self, decide_true, decide_false, Bool.not_true, Bool.false_eq_true, if_false, Option.bind_some, e1, e2, flb_go]
        · exact .inl ⟨by simp [hg, hl, hl', hh2, hh3, hf], by simp [hg, hl, hl', hh2, hh3, hf]⟩
      · have hh2 : h ≤ 0 := by omega
        have hh3 : h < 1 := by omega
        refine .inl ⟨by simp [hg, hl, hl', hh2], ?_⟩
        by_cases hf : 0 ≤ from_ ∧ from_ ≤ 1799 <;> simp [hg, hl, hl', hh3, hf]
    · have hl' : ¬ (0 ≤ line ∧ line ≤ (t.Network.Lines.length : Int) - 1) := by omega
      exact .inl ⟨by simp [hg, hl], by simp [hg, hl']⟩
  · exact .inl ⟨by simp [hg], by simp [hg]⟩
/-! Headways of a line: the trips in order, their differences. -/
def tLt (a b : Trip) : Bool := decide (a.Start < b.Start)
theorem cmpTr (x y : Trip) : ∃ c, i_tripsOf_1 x y = some c ∧ decide (c < 0) = tLt x y := by
  unfold i_tripsOf_1 tLt
  rw [compare_int]
  refine ⟨_, rfl, ?_⟩
  by_cases h : x.Start < y.Start
  · simp [h]
  · by_cases h2 : y.Start < x.Start <;> simp [h, h2]
theorem insTr (l : List Trip) (hl : l.length ≤ 4294967295) : slices_insertionSortCmpFunc_Trip_w__i_tripsOf_1 l 0 (l.length : Int) = some (Pdq.isort tLt l) := Pdq.insertion_st cmpTr l hl
theorem stableTr (l : List Trip) (hl : l.length < 20) : slices_SortStableFunc_Trip_w__i_tripsOf_1 l = some (Pdq.isort tLt l) := by
  have s1 : slices_stableCmpFunc_Trip_w__i_tripsOf_1_L1 (l.length : Int) ((0 : Int), (20 : Int), l) = some (.dn (0, l)) := by
    unfold slices_stableCmpFunc_Trip_w__i_tripsOf_1_L1
    have : ¬ (20 : Int) ≤ (l.length : Int) := by omega
    simp [this]
  have s2 : ∀ l' : List Trip, slices_stableCmpFunc_Trip_w__i_tripsOf_1_L3 (l.length : Int) ((20 : Int), l') = some (.dn l') := fun l' => by
    unfold slices_stableCmpFunc_Trip_w__i_tripsOf_1_L3
    have : ¬ (20 : Int) < (l.length : Int) := by omega
    simp [this]
  unfold slices_SortStableFunc_Trip_w__i_tripsOf_1 slices_stableCmpFunc_Trip_w__i_tripsOf_1
  rw [iter_dn s1]
  simp only [Option.bind_some]
  rw [insTr l (by omega)]
  simp only [Option.bind_some]
  rw [iter_dn (s2 _)]; rfl
/-- The line's trips, by their starts. -/
def lineQ (T : List Trip) (line : Int) : List Trip := Pdq.isort tLt (T.filter fun x => x.Line == line)
theorem tripsOf_eq {t : Timetable} (hl : t.Trips.length ≤ 12) (line : Int) : i_tripsOf t line = some (lineQ t.Trips line) := by
  have hf : (t.Trips.filter fun x => x.Line == line).length ≤ 12 := Nat.le_trans (List.length_filter_le ..) hl
  unfold i_tripsOf
  have e : iter (i_tripsOf_L1 t line) ((0 : Int), ([] : List Trip)) = some (t.Trips.filter fun x => x.Line == line) := by
    refine Tot.val (.iter (fun m s => ∃ k : Nat, s.1 = (k : Int) ∧ m + k = t.Trips.length ∧ s.2 = (t.Trips.take k).filter fun x => x.Line == line) (n := t.Trips.length) ⟨0, rfl, rfl, rfl⟩ ?_)
    rintro m ⟨v, x⟩ ⟨k, hk, hm, hx⟩
    simp only at hk hx
    subst hk
    unfold i_tripsOf_L1
    refine .iteP (fun hc => ?_) (fun hc => .dn (by rw [hx, List.take_of_length_le (by omega)]))
    obtain ⟨e, he⟩ := get_ex (l := t.Trips) (i := k) (by omega)
    have hs : (t.Trips.take (k + 1)).filter (fun x => x.Line == line) = x ++ (if (e.Line == line) = true then [e] else []) := by
      rw [take_succ he, List.filter_append, hx]
      by_cases h : (e.Line == line) = true <;> simp [h]
    have hxl : x.length ≤ 12 := by
      rw [hx]; exact Nat.le_trans (List.length_filter_le ..) (by rw [List.length_take]; omega)
    refine .call (P := fun x1 => x1 = (t.Trips.take (k + 1)).filter fun x => x.Line == line) (.eq (by rw [idx_nat]; exact he) (.ite (fun h => .chk (by simp; omega) (.ok (by rw [hs, if_pos h]))) fun h => .ok (by rw [hs, h]; simp))) fun x1 h1 => ?_
    exact .nx ⟨m - 1, by omega, k + 1, w64_succ (by omega), by omega, h1⟩
  rw [e]
  simp only [Option.bind_some]
  rw [stableTr _ (by omega)]
  rfl
theorem lineQ_mem {T : List Trip} {line : Int} {y : Trip} : y ∈ lineQ T line ↔ y ∈ T ∧ y.Line = line := by
  unfold lineQ
  rw [(Pdq.isort_perm _).mem_iff, List.mem_filter]
  simp
theorem lineQ_len {T : List Trip} {line : Int} : (lineQ T line).length ≤ T.length := by
  unfold lineQ
  rw [Pdq.isort_len]; exact List.length_filter_le ..
theorem lineQ_sorted {T : List Trip} {line : Int} {i j : Nat} {a b : Trip} (hij : i ≤ j) (ha : (lineQ T line)[i]? = some a) (hb : (lineQ T line)[j]? = some b) : a.Start ≤ b.Start := by
  have h : (lineQ T line).Pairwise fun a b => tLt b a = false := Pdq.isort_sorted (fun a b c h1 h2 => by unfold tLt at *; simp only [decide_eq_false_iff_not] at *; omega) (fun a b h => by unfold tLt at *; simp only [decide_eq_false_iff_not, decide_eq_true_eq] at *; omega) _
  rcases Nat.lt_or_ge i j with hlt | hge
  · have hi := get_lt ha
    have hj := get_lt hb
    have := List.pairwise_iff_getElem.1 h i j hi hj hlt
    rw [(List.getElem?_eq_some_iff.1 ha).2, (List.getElem?_eq_some_iff.1 hb).2] at this
    unfold tLt at this
    simp only [decide_eq_false_iff_not] at this
    omega
  · have : i = j := by omega
    subst this
    rw [ha] at hb; cases hb; exact Int.le_refl _
/-- The differences. -/
def gaps (Q : List Trip) (k : Nat) : List Int := (List.range k).map fun i => match Q[i]?, Q[i + 1]? with | some a, some b => b.Start - a.Start | _, _ => 0
theorem gaps_succ {Q : List Trip} {k : Nat} {a b : Trip} (ha : Q[k]? = some a) (hb : Q[k + 1]? = some b) : gaps Q (k + 1) = gaps Q k ++ [b.Start - a.Start] := by
  unfold gaps
  rw [List.range_succ, List.map_append]
  simp [ha, hb]
theorem gaps_sum {Q : List Trip} {a b : Trip} (ha : Q[0]? = some a) : ∀ {k : Nat} {b : Trip}, Q[k]? = some b → (gaps Q k).sum = b.Start - a.Start
  | 0, b, hb => by rw [ha] at hb; cases hb; simp [gaps]
  | k + 1, b, hb => by
    obtain ⟨c, hc⟩ := get_ex (l := Q) (i := k) (by have := get_lt hb; omega)
    rw [gaps_succ hc hb, List.sum_append, gaps_sum (b := b) ha hc]
    simp only [List.sum_cons, List.sum_nil]
    omega
theorem gaps_at {Q : List Trip} {k i : Nat} {a b : Trip} (hi : i < k) (ha : Q[i]? = some a) (hb : Q[i + 1]? = some b) : (gaps Q k)[i]? = some (b.Start - a.Start) := by
  unfold gaps
  rw [List.getElem?_map, List.getElem?_range hi]
  simp [ha, hb]
theorem headways_eq {t : Timetable} (hb : TB t) (hg : GoodT t) {line : Int} (hl : 0 ≤ line ∧ line < (t.Network.Lines.length : Int)) : i_HeadwaysOf t line = some (gaps (lineQ t.Trips line) ((lineQ t.Trips line).length - 1), true) := by
  have h12 := hg.2.1
  have hq := lineQ_len (T := t.Trips) (line := line)
  unfold i_HeadwaysOf
  rw [validT_eq hb, isLine_eq, tripsOf_eq h12]
  simp only [hg, hl, and_self, decide_true, Bool.not_true, Bool.false_eq_true, if_false, Option.bind_some]
  have hst : ∀ (i : Nat) y, (lineQ t.Trips line)[i]? = some y → 0 ≤ y.Start ∧ y.Start ≤ 1799 := fun i y hy => by
    have := (lineQ_mem.1 (List.mem_of_getElem? hy)).1
    obtain ⟨j, hj⟩ := List.getElem?_of_mem this
    obtain ⟨_, _, _, _, hs, _⟩ := trip_line hg hj
    exact hs
  generalize lineQ t.Trips line = Q at *
  refine Tot.val (.call (P := fun r => r = gaps Q (Q.length - 1)) ?_ fun r h => .ok (by rw [h]))
  refine .iter (fun m s => ∃ k : Nat, s.1 = (k : Int) + 1 ∧ k ≤ Q.length - 1 ∧ m + k = Q.length - 1 ∧ s.2 = gaps Q k) (n := Q.length - 1) ⟨0, rfl, by omega, by omega, rfl⟩ ?_
  rintro m ⟨v, r⟩ ⟨k, hk, hkl, hm, hr⟩
  simp only at hk hr
  subst hk
  unfold i_HeadwaysOf_L1
  refine .iteP (fun hc => ?_) (fun hc => .dn (by rw [hr]; congr 1; omega))
  obtain ⟨a, ha⟩ := get_ex (l := Q) (i := k) (by omega)
  obtain ⟨b, hb'⟩ := get_ex (l := Q) (i := k + 1) (by omega)
  have b1 := hst k a ha
  have b2 := hst (k + 1) b hb'
  have w1 : w64 ((k : Int) + 1 - 1) = (k : Int) := by rw [w64_id (by omega)]; omega
  have w2 : w64 (b.Start - a.Start) = b.Start - a.Start := w64_id (by omega)
  have hgl : (gaps Q k).length = k := by simp [gaps]
  refine .eq (ixs hb') (.eq (by rw [w1]; exact ixs ha) (.chk (by rw [hr, hgl]; simp; omega) (.nx ⟨m - 1, by omega, k + 1, ?_, by omega, by omega, ?_⟩)))
  · show w64 ((k : Int) + 1 + 1) = _
    rw [w64_id (by omega)]; omega
  · show r ++ [w64 (b.Start - a.Start)] = _
    rw [w2, hr, gaps_succ ha hb']
theorem sum_eq (l : List Int) (told : Bool) (h1 : l.length ≤ 1000) (h2 : ∀ x ∈ l, -100000 ≤ x ∧ x ≤ 100000) : iter (v_FnRepeat_L1 (l, told)) ((0 : Int), (0 : Int)) = some l.sum := by
  refine Tot.val (.iter (fun m s => ∃ k : Nat, s.2 = (k : Int) ∧ m + k = l.length ∧ s.1 = (l.take k).sum ∧ -100000 * (k : Int) ≤ s.1 ∧ s.1 ≤ 100000 * (k : Int)) (n := l.length) ⟨0, rfl, rfl, by simp, by simp, by simp⟩ ?_)
  rintro m ⟨s, v⟩ ⟨k, hk, hm, hs, hb1, hb2⟩
  simp only at hk hs hb1 hb2
  subst hk
  unfold v_FnRepeat_L1
  refine .iteP (fun hc => ?_) (fun hc => .dn (by rw [hs, List.take_of_length_le (by simp only at hc; omega)]))
  have hc' : k < l.length := by simp only at hc; omega
  obtain ⟨e, he⟩ := get_ex (l := l) (i := k) hc'
  have be := h2 e (List.mem_of_getElem? he)
  have w : w64 (s + e) = s + e := w64_id (by omega)
  refine .eq (ixs he) (.nx ⟨m - 1, by omega, k + 1, w64_succ (by omega), by omega, ?_, ?_, ?_⟩)
  · show w64 (s + e) = _
    rw [w, sum_take_succ he, hs]
  · show -100000 * ((k + 1 : Nat) : Int) ≤ w64 (s + e)
    rw [w]; omega
  · show w64 (s + e) ≤ 100000 * ((k + 1 : Nat) : Int)
    rw [w]; omega
theorem drawRep_ok (code : List UInt8) : Tot (s_DrawRepeatTrips code) fun r => DT r.1 ∧ (0 ≤ r.2.2.1 ∧ r.2.2.1 ≤ 1799 → r.2.2.2.1 ≤ 5000) ∧ r.2.2.2.2 ≤ 10000 := by
  unfold s_DrawRepeatTrips
  refine .call (t_time (cur0 code) (by omega)) fun r hc0 => .call (anyTimetable_ok hc0 (by omega)) fun r1 ⟨hc, hd⟩ => .call (pick_ok 3 hc (by omega)) fun r2 ⟨hc2, _⟩ => .call (pick_ok 9 hc2 (by omega)) fun r3 ⟨hc3, _⟩ => .chk (by omega) (.call (among_ok _ (by simp) hc3 (by omega)) fun r4 ⟨hc4, hm4⟩ => .call (among_ok _ (by simp) hc4 (by omega)) fun r5 ⟨_, hm5⟩ => .ok ⟨hd, fun hf => ?_, ?_⟩)
  · simp only at hf
    simp only [List.mem_cons, List.not_mem_nil, or_false] at hm4
    show w64 (r.1 + r4.1) ≤ 5000
    rw [w64_id (by omega)]; omega
  · simp only [List.mem_cons, List.not_mem_nil, or_false] at hm5
    show r5.1 ≤ 10000
    omega
theorem repeat_true (code : List UInt8) : v_FnRepeat code = some true := by
  unfold v_FnRepeat v_vBig
  simp only [Option.bind_some]
  split
  · rfl
  · obtain ⟨r1, hr1, hd, hto, hh⟩ := drawRep_ok code
    have htb := hd.tb
    rw [hr1]
    simp only [Option.bind_some]
    rcases repeat_both htb r1.2.1 r1.2.2.1 r1.2.2.2.1 r1.2.2.2.2 hto hh with ⟨e1, e2⟩ | ⟨n, T, hI, hl, hh1, e1, e2⟩
    · simp only [e1, e2, Option.bind_some, beq_self_eq_true, Bool.not_true, Bool.not_false, Bool.false_eq_true, if_false, if_true, bne_self_eq_false, vTimetable_refl tb_empty]
    · have hT : TB (⟨r1.1.Network, T⟩ : Timetable) := ⟨htb.1, by have := hI.good.2.1; simp only at this; show T.length ≤ 1000; omega⟩
      have hq := headways_eq hT hI.good (line := r1.2.1) hl
      have h12 := hI.good.2.1
      simp only at h12
      have hlen := hI.len
      have hst : ∀ (i : Nat) y, (lineQ T r1.2.1)[i]? = some y → 0 ≤ y.Start ∧ y.Start ≤ 1799 := fun i y hy => by
        have := (lineQ_mem.1 (List.mem_of_getElem? hy)).1
        obtain ⟨j, hj⟩ := List.getElem?_of_mem this
        obtain ⟨_, _, _, _, hs, _⟩ := trip_line hI.good hj
        exact hs
      have hql := lineQ_len (T := T) (line := r1.2.1)
      have hgb : ∀ x ∈ gaps (lineQ T r1.2.1) ((lineQ T r1.2.1).length - 1), -100000 ≤ x ∧ x ≤ 100000 := fun x hx => by
        obtain ⟨i, hi⟩ := List.getElem?_of_mem hx
        have hil := get_lt hi
        simp only [gaps, List.length_map, List.length_range] at hil
        obtain ⟨a, ha⟩ := get_ex (l := lineQ T r1.2.1) (i := i) (by omega)
        obtain ⟨b, hb⟩ := get_ex (l := lineQ T r1.2.1) (i := i + 1) (by omega)
        rw [gaps_at hil ha hb] at hi
        cases hi
        have := hst i a ha
        have := hst (i + 1) b hb
        omega
      have hsum := sum_eq (gaps (lineQ T r1.2.1) ((lineQ T r1.2.1).length - 1)) true (by simp [gaps]; omega) hgb
      have hw : w64 ((r1.1.Trips.length : Int) + (n : Int)) = (r1.1.Trips.length : Int) + (n : Int) := w64_id (by omega)
      have hwl : ((T.length : Int) == w64 ((r1.1.Trips.length : Int) + (n : Int))) = true := by rw [hw, hlen]; simp
      simp only [e1, e2, Option.bind_some, beq_self_eq_true, Bool.not_true, Bool.false_eq_true, if_false, if_true, bne_self_eq_false, vTimetable_refl hT, hq, hsum, hwl]
      by_cases hn : (n : Int) < 2
      · simp [hn]
      · simp only [hn, decide_false, Bool.false_eq_true, if_false, Option.bind_some]
        have w1 : w64 ((n : Int) - 1) = (n : Int) - 1 := w64_id (by omega)
        obtain ⟨y0, m0, l0, s0⟩ := hI.has 0 (by omega)
        obtain ⟨y1, m1, l1, s1⟩ := hI.has (n - 1) (by omega)
        have en : ((n - 1 : Nat) : Int) = (n : Int) - 1 := by omega
        rw [en] at s1
        obtain ⟨i0, hi0⟩ := List.getElem?_of_mem (lineQ_mem.2 ⟨m0, l0⟩)
        obtain ⟨i1, hi1⟩ := List.getElem?_of_mem (lineQ_mem.2 ⟨m1, l1⟩)
        have g0 := get_lt hi0
        have g1 := get_lt hi1
        obtain ⟨a, ha⟩ := get_ex (l := lineQ T r1.2.1) (i := 0) (by omega)
        obtain ⟨b, hb⟩ := get_ex (l := lineQ T r1.2.1) (i := (lineQ T r1.2.1).length - 1) (by omega)
        have hs := gaps_sum (b := b) ha hb
        have q0 := lineQ_sorted (Nat.zero_le i0) ha hi0
        have q1 := lineQ_sorted (show i1 ≤ (lineQ T r1.2.1).length - 1 by omega) hi1 hb
        have b1 := hst _ b hb
        have b0 := hst 0 a ha
        have hz : y0.Start = r1.2.2.1 := by simpa using s0
        have p1 : 0 ≤ ((n : Int) - 1) * r1.2.2.2.2 := Int.mul_nonneg (by omega) (by omega)
        have w2 : w64 (((n : Int) - 1) * r1.2.2.2.2) = ((n : Int) - 1) * r1.2.2.2.2 := w64_id (by omega)
        rw [w1, w2, hs]
        have : ((n : Int) - 1) * r1.2.2.2.2 ≤ b.Start - a.Start := by omega
        simp [this]
end Go.Proofs.Ytfknbpimkleimaa
