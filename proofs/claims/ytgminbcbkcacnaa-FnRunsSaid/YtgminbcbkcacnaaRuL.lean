/- The plain law: what the models compute, no program in sight. -/
import Derived.Test.YtgminbcbkcacnaaRuM
import Derived.Test.YtgminbcbkcacnaaAbPdq6
namespace Go.Proofs.Ytgminbcbkcacnaa
open Go Go.Ab
set_option maxHeartbeats 4000000
set_option linter.unusedVariables false
set_option linter.unusedSimpArgs false
/-! The cursor of the draws: it always answers. -/
def Cur (k : Nat) (c : l1Cur) : Prop := 0 ≤ c.at_ ∧ c.at_ ≤ k
theorem Cur.mono {k k' : Nat} {c : l1Cur} (h : Cur k c) (hk : k ≤ k') : Cur k' c := ⟨h.1, by have := h.2; omega⟩
theorem next_ok {k : Nat} {c : l1Cur} (h : Cur k c) (hk : k ≤ 4000000000) : ∃ r, s_l1Cur_next c = some r ∧ Cur (k + 1) r.2 ∧ 0 ≤ r.1 ∧ r.1 ≤ 255 := by
  obtain ⟨h0, h1⟩ := h
  have hw : w64 (c.at_ + 1) = c.at_ + 1 := w64_id (by omega)
  have hcur : ∀ s, Cur (k + 1) ⟨c.code_, w64 (c.at_ + 1), s⟩ := fun s => by rw [hw]; exact ⟨by show 0 ≤ c.at_ + 1; omega, by show c.at_ + 1 ≤ _; omega⟩
  unfold s_l1Cur_next
  have hv : ∃ v, (if (decide (c.at_ < (c.code_.length : Int))) = true then (idx c.code_ c.at_).bind fun e1 => some (w64 ((e1.toNat : Int))) else some 0) = some v ∧ 0 ≤ v ∧ v ≤ 255 := by
    by_cases hlt : c.at_ < c.code_.length
    · obtain ⟨x, hx, _, _⟩ := idx_lt h0 hlt
      have := x.toNat_lt
      refine ⟨(x.toNat : Int), ?_, by omega, by omega⟩
      simp only [hlt, decide_true, if_true, hx, Option.bind_some]
      rw [w64_id (by omega)]
    · exact ⟨0, by simp [hlt], by omega, by omega⟩
  obtain ⟨v, hv, hv0, hv1⟩ := hv
  rw [hv]
  simp only [Option.bind_some]
  split
  · exact ⟨_, rfl, hcur _, hv0, hv1⟩
  · rw [chk_of (by omega)]
    exact ⟨_, rfl, hcur _, and255 _⟩
theorem pick_ok {k : Nat} {c : l1Cur} (n : Int) (h : Cur k c) (hk : k ≤ 3000000000) : ∃ r, s_l1Cur_pick c n = some r ∧ Cur (k + 2) r.2 ∧ 0 ≤ r.1 ∧ (r.1 < n ∨ r.1 = 0) := by
  unfold s_l1Cur_pick
  by_cases hn : n ≤ 1
  · exact ⟨(0, c), by simp [hn], h.mono (by omega), by simp, .inr rfl⟩
  · obtain ⟨r, hr, hc, h0, h1⟩ := next_ok h (by omega)
    have hn' : decide (n ≤ 1) = false := by simpa using hn
    simp only [hn', Bool.false_eq_true, if_false, hr, Option.bind_some]
    have hne : chk (n ≠ 0) = some () := chk_of (by omega)
    by_cases h2 : 200 < n
    · obtain ⟨r', hr', hc', h0', h1'⟩ := next_ok hc (by omega)
      have e1 : w64 (r.1 * 256) = r.1 * 256 := w64_id (by omega)
      have e2 : w64 (r.1 * 256 + r'.1) = r.1 * 256 + r'.1 := w64_id (by omega)
      have h3 := tmod_rng (a := r.1 * 256 + r'.1) (b := n) (by omega) (by omega)
      simp only [h2, decide_true, if_true, hr', Option.bind_some, hne, e1, e2]
      exact ⟨_, rfl, hc'.mono (by omega), h3.1, .inl h3.2⟩
    · have h2' : decide (200 < n) = false := by simpa using h2
      have h3 := tmod_rng (a := r.1) (b := n) (by omega) (by omega)
      simp only [h2', Bool.false_eq_true, if_false, Option.bind_some, hne]
      exact ⟨_, rfl, hc.mono (by omega), h3.1, .inl h3.2⟩
theorem amongw_ok {k : Nat} {c : l1Cur} (l : List Int) (hl : l ≠ []) (h : Cur k c) (hk : k ≤ 3000000000) : ∃ r, s_l1Cur_among_w c l = some r ∧ Cur (k + 2) r.2 ∧ r.1 ∈ l := by
  unfold s_l1Cur_among_w
  obtain ⟨r, hr, hc, h0, h1⟩ := pick_ok (l.length : Int) h hk
  have hpos : 0 < l.length := List.length_pos_iff.2 hl
  obtain ⟨x, hx, _, hm⟩ := idx_lt (l := l) h0 (by omega)
  simp only [hr, Option.bind_some, hx]
  exact ⟨_, rfl, hc, hm⟩
theorem among_ok {k : Nat} {c : l1Cur} (l : List Int) (hl : l ≠ []) (h : Cur k c) (hk : k ≤ 3000000000) : ∃ r, s_l1Cur_among c l = some r ∧ Cur (k + 2) r.2 ∧ r.1 ∈ l := by
  have : s_l1Cur_among c l = s_l1Cur_among_w c l := rfl
  rw [this]; exact amongw_ok l hl h hk
theorem one_ok {k : Nat} {c : l1Cur} (n : Int) (h : Cur k c) (hk : k ≤ 3000000000) : ∃ r, s_l1Cur_one c n = some r ∧ Cur (k + 2) r.2 := by
  unfold s_l1Cur_one
  obtain ⟨r, hr, hc, _, _⟩ := pick_ok n h hk
  simp only [hr, Option.bind_some]
  exact ⟨_, rfl, hc⟩
theorem of_ok {k : Nat} {c : l1Cur} (l : List ByteArray) (hl : l ≠ []) (h : Cur k c) (hk : k ≤ 3000000000) : ∃ r, s_l1Cur_of c l = some r ∧ Cur (k + 2) r.2 ∧ r.1 ∈ l := by
  unfold s_l1Cur_of
  obtain ⟨r, hr, hc, h0, h1⟩ := pick_ok (l.length : Int) h hk
  have hpos : 0 < l.length := List.length_pos_iff.2 hl
  obtain ⟨x, hx, _, hm⟩ := idx_lt (l := l) h0 (by omega)
  simp only [hr, Option.bind_some, hx]
  exact ⟨_, rfl, hc, hm⟩
theorem ofw_ok {k : Nat} {c : l1Cur} (l : List ByteArray) (hl : l ≠ []) (h : Cur k c) (hk : k ≤ 3000000000) : ∃ r, s_l1Cur_of_w c l = some r ∧ Cur (k + 2) r.2 ∧ r.1 ∈ l := by
  have : s_l1Cur_of_w c l = s_l1Cur_of c l := rfl
  rw [this]; exact of_ok l hl h hk
theorem cur0 (code : List UInt8) : Cur 0 ⟨code, 0, ⟨0⟩⟩ := ⟨by show (0 : Int) ≤ 0; omega, by show (0 : Int) ≤ _; omega⟩
/-! Networks: when they are valid, for the program and for the reference. -/
theorem within_eq (n lo hi : Int) : i_within n lo hi = some (decide (lo ≤ n ∧ n ≤ hi)) := by
  unfold i_within
  by_cases h : lo ≤ n <;> simp [h]
theorem l1In_eq (n lo hi : Int) : s_l1In n lo hi = some (decide (lo ≤ n ∧ n ≤ hi)) := by
  unfold s_l1In
  by_cases h : lo ≤ n <;> simp [h]
/-- Byte i of a name. -/
def ChOK (i : Nat) (c : UInt8) : Prop := (97 ≤ (c.toNat : Int) ∧ (c.toNat : Int) ≤ 122) ∨ (i ≠ 0 ∧ 48 ≤ (c.toNat : Int) ∧ (c.toNat : Int) ≤ 57)
def NameOK (s : ByteArray) : Prop := (1 ≤ s.size ∧ s.size ≤ 8) ∧ ∀ (i : Nat) c, s.data.toList[i]? = some c → ChOK i c
open Classical in
noncomputable instance (s : ByteArray) : Decidable (NameOK s) := Classical.propDecidable _
theorem size_list (s : ByteArray) : s.data.toList.length = s.size := by simp
theorem getD_of {α : Type} {l : List α} {i : Nat} {x d : α} (h : l[i]? = some x) : l.getD i d = x := by rw [List.getD_eq_getElem?_getD, h]; rfl

theorem isName_eq (s : ByteArray) : i_isName s = some (decide (NameOK s)) := by
  unfold i_isName
  by_cases h1 : 1 ≤ s.size ∧ s.size ≤ 8
  · have e1 : decide ((s.size : Int) < 1) = false := by simp; omega
    have e2 : decide (8 < (s.size : Int)) = false := by simp; omega
    simp only [e1, e2, Bool.false_eq_true, if_false, Option.bind_some]
    have hsz := size_list s
    have key := all_loop s.data.toList ChOK (step := i_isName_L1 s) ?_ ?_ 0 0 rfl (by omega)
    · rcases key with ⟨g1, g2⟩ | ⟨g1, g2⟩
      · rw [g1, flb_go]
        have : NameOK s := ⟨h1, fun i c hc => g2 i c (by omega) hc⟩
        simp [this]
      · rw [g1, flb_ret]
        have : ¬ NameOK s := fun hn => g2 fun i c _ hc => hn.2 i c hc
        simp [this]
    · intro i x hx
      have hi := (List.getElem?_eq_some_iff.1 hx).1
      have hg : s.data.toList.getD (i : Int).toNat 0 = x := by rw [Int.toNat_natCast]; exact getD_of hx
      have hc : chk ((0 : Int) ≤ (i : Int) ∧ (i : Int) < (s.size : Int)) = some () := chk_of (by omega)
      have hlt : decide ((i : Int) < (s.size : Int)) = true := by simp; omega
      unfold i_isName_L1
      simp only [hlt, if_true, hc, hg, Option.bind_some, w64_succ (n := i) (by omega)]
      unfold ChOK
      by_cases a1 : (97 : Int) ≤ (x.toNat : Int)
      · by_cases a2 : (x.toNat : Int) ≤ 122
        · left; refine ⟨by simp [a1, a2], .inl ⟨a1, a2⟩⟩
        · right
          refine ⟨?_, by omega⟩
          have b1 : decide ((x.toNat : Int) < 48) = false := by simp; omega
          have b2 : decide ((57 : Int) < (x.toNat : Int)) = true := by simp; omega
          have c1 : ¬ (x.toNat : Int) < 48 := by omega
          have c2 : (57 : Int) < (x.toNat : Int) := by omega
          by_cases hi0 : i = 0
          · simp [a1, a2, hi0]
          · have hi0' : ((i : Int) == 0) = false := by simp; omega
            simp [a1, a2, hi0', c1, c2]
      · by_cases hi0 : i = 0
        · right
          refine ⟨by simp [a1, hi0], by omega⟩
        · have hi0' : ((i : Int) == 0) = false := by simp; omega
          by_cases b1 : (x.toNat : Int) < 48
          · right
            refine ⟨by simp [a1, hi0', b1], by omega⟩
          · by_cases b2 : (57 : Int) < (x.toNat : Int)
            · right
              refine ⟨by simp [a1, hi0', b1, b2], by omega⟩
            · left
              refine ⟨by simp [a1, hi0', b1, b2], .inr ⟨hi0, by omega, by omega⟩⟩
    · unfold i_isName_L1
      rw [hsz]
      simp
  · have : ¬ NameOK s := fun h => h1 h.1
    have e : (if (decide ((s.size : Int) < 1)) = true then some true else some (decide (8 < (s.size : Int)))) = some true := by
      by_cases h2 : s.size < 1
      · have : decide ((s.size : Int) < 1) = true := by simp; omega
        simp [this]
      · have e1 : decide ((s.size : Int) < 1) = false := by simp; omega
        have e2 : decide (8 < (s.size : Int)) = true := by simp; omega
        simp [e1, e2]
    rw [e]
    simp [this]

theorem l2Name_eq (s : ByteArray) : s_l2Name s = some (decide (NameOK s)) := by
  unfold s_l2Name
  rw [l1In_eq]
  simp only [Option.bind_some]
  by_cases h1 : 1 ≤ s.size ∧ s.size ≤ 8
  · have e1 : decide ((1 : Int) ≤ (s.size : Int) ∧ (s.size : Int) ≤ 8) = true := by simp; omega
    have hsz := size_list s
    obtain ⟨x0, hx0⟩ := get_ex (l := s.data.toList) (i := 0) (by omega)
    have hg0 : s.data.toList.getD (0 : Int).toNat 0 = x0 := getD_of hx0
    have hc0 : chk ((0 : Int) ≤ 0 ∧ 0 < (s.size : Int)) = some () := chk_of (by omega)
    simp only [e1, Bool.not_true, Bool.false_eq_true, if_false, hc0, hg0, Option.bind_some]
    by_cases a0 : 97 ≤ (x0.toNat : Int) ∧ (x0.toNat : Int) ≤ 122
    · have b1 : decide ((x0.toNat : Int) < 97) = false := by simp; omega
      have b2 : decide ((122 : Int) < (x0.toNat : Int)) = false := by simp; omega
      simp only [b1, b2, Bool.false_eq_true, if_false, Option.bind_some]
      have key := all_loop s.data.toList ChOK (step := s_l2Name_L1 s) ?_ ?_ 0 0 rfl (by omega)
      · rcases key with ⟨g1, g2⟩ | ⟨g1, g2⟩
        · rw [g1, flb_go]
          have : NameOK s := ⟨h1, fun i c hc => g2 i c (by omega) hc⟩
          simp [this]
        · rw [g1, flb_ret]
          have : ¬ NameOK s := fun hn => g2 fun i c _ hc => hn.2 i c hc
          simp [this]
      · intro i x hx
        have hi := (List.getElem?_eq_some_iff.1 hx).1
        have hg : s.data.toList.getD (i : Int).toNat 0 = x := by rw [Int.toNat_natCast]; exact getD_of hx
        have hc : chk ((0 : Int) ≤ (i : Int) ∧ (i : Int) < (s.size : Int)) = some () := chk_of (by omega)
        have hlt : decide ((i : Int) < (s.size : Int)) = true := by simp; omega
        have h0 : i = 0 → x = x0 := fun h => by subst h; rw [hx0] at hx; cases hx; rfl
        unfold s_l2Name_L1
        simp only [hlt, if_true, hc, hg, Option.bind_some, w64_succ (n := i) (by omega)]
        unfold ChOK
        by_cases a1 : (x.toNat : Int) < 97
        · have hi0 : i ≠ 0 := fun h => by have := h0 h; subst this; omega
          by_cases c1 : (x.toNat : Int) < 48
          · right; refine ⟨by simp [a1, c1], by omega⟩
          · by_cases c2 : (57 : Int) < (x.toNat : Int)
            · right; refine ⟨by simp [a1, c1, c2], by omega⟩
            · left; refine ⟨by simp [a1, c1, c2], .inr ⟨hi0, by omega, by omega⟩⟩
        · by_cases a2 : (122 : Int) < (x.toNat : Int)
          · right
            have c1 : ¬ (x.toNat : Int) < 48 := by omega
            have c2 : (57 : Int) < (x.toNat : Int) := by omega
            refine ⟨by simp [a1, a2, c1, c2], by omega⟩
          · left; refine ⟨by simp [a1, a2], .inl ⟨by omega, by omega⟩⟩
      · unfold s_l2Name_L1
        rw [hsz]
        simp
    · have : ¬ NameOK s := fun hn => by
        have := hn.2 0 x0 hx0
        unfold ChOK at this
        omega
      have e : (if (decide ((x0.toNat : Int) < 97)) = true then some true else some (decide ((122 : Int) < (x0.toNat : Int)))) = some true := by
        by_cases h2 : (x0.toNat : Int) < 97
        · simp [h2]
        · have : (122 : Int) < (x0.toNat : Int) := by omega
          simp [h2, this]
      rw [e]
      simp [this]
  · have e1 : decide ((1 : Int) ≤ (s.size : Int) ∧ (s.size : Int) ≤ 8) = false := by simp; omega
    have : ¬ NameOK s := fun h => h1 h.1
    simp [e1, this]

/-! Searches -/
theorem index_str_eq (l : List ByteArray) (hl : l.length ≤ 4000000000) (v : ByteArray) : slices_Index_string l v = some (fixI (fun e => v.toList == e.toList) l) := by
  unfold slices_Index_string
  refine find_val l (fun e => v.toList == e.toList) (fun i x hx => ?_) (by unfold slices_Index_string_L1; simp)
  have hi := (List.getElem?_eq_some_iff.1 hx).1
  unfold slices_Index_string_L1
  have hlt : decide ((i : Int) < (l.length : Int)) = true := by simp; omega
  simp only [hlt, if_true, idx_nat, hx, Option.bind_some, w64_succ (n := i) (by omega)]
  split <;> rfl
theorem index_int_eq (l : List Int) (hl : l.length ≤ 4000000000) (v : Int) : slices_Index_int l v = some (fixI (fun e => v == e) l) := by
  unfold slices_Index_int
  refine find_val l (fun e => v == e) (fun i x hx => ?_) (by unfold slices_Index_int_L1; simp)
  have hi := (List.getElem?_eq_some_iff.1 hx).1
  unfold slices_Index_int_L1
  have hlt : decide ((i : Int) < (l.length : Int)) = true := by simp; omega
  simp only [hlt, if_true, idx_nat, hx, Option.bind_some, w64_succ (n := i) (by omega)]
  split <;> rfl
theorem l2Place_eq (x : Line) (hl : x.Stops.length ≤ 4000000000) (v : Int) : s_l2Place x v = some (fixI (fun e => v == e) x.Stops) := by
  have hc : fixI (fun e => v == e) x.Stops = fixI (fun e => e == v) x.Stops := fixI_congr _ fun e => BEq.comm
  rw [hc]
  unfold s_l2Place
  refine find_val x.Stops (fun e => e == v) (fun i y hx => ?_) (by unfold s_l2Place_L1; simp)
  have hi := (List.getElem?_eq_some_iff.1 hx).1
  unfold s_l2Place_L1
  have hlt : decide ((i : Int) < (x.Stops.length : Int)) = true := by simp; omega
  simp only [hlt, if_true, idx_nat, hx, Option.bind_some, w64_succ (n := i) (by omega)]
  split <;> rfl
theorem bl_comm (a b : List UInt8) : (a == b) = (b == a) := BEq.comm
theorem l2Find_eq (l : List ByteArray) (hl : l.length ≤ 4000000000) (v : ByteArray) : s_l2Find l v = some (fixI (fun e => v.toList == e.toList) l) := by
  rw [fixI_congr l (q := fun e => e.toList == v.toList) fun e => bl_comm _ _]
  unfold s_l2Find
  refine find_val l (fun e => e.toList == v.toList) (fun i x hx => ?_) (by unfold s_l2Find_L1; simp)
  have hi := (List.getElem?_eq_some_iff.1 hx).1
  unfold s_l2Find_L1
  have hlt : decide ((i : Int) < (l.length : Int)) = true := by simp; omega
  simp only [hlt, if_true, idx_nat, hx, Option.bind_some, w64_succ (n := i) (by omega)]
  split <;> rfl
theorem l2LineNamed_eq (n : Network) (hl : n.Lines.length ≤ 4000000000) (v : ByteArray) : s_l2LineNamed n v = some (fixI (fun e => v.toList == e.toList) (n.Lines.map (·.Name))) := by
  rw [fixI_map, fixI_congr n.Lines (q := fun e => e.Name.toList == v.toList) fun e => bl_comm _ _]
  unfold s_l2LineNamed
  refine find_val n.Lines (fun e => e.Name.toList == v.toList) (fun i x hx => ?_) (by unfold s_l2LineNamed_L1; simp)
  have hi := (List.getElem?_eq_some_iff.1 hx).1
  unfold s_l2LineNamed_L1
  have hlt : decide ((i : Int) < (n.Lines.length : Int)) = true := by simp; omega
  simp only [hlt, if_true, idx_nat, hx, Option.bind_some, w64_succ (n := i) (by omega)]
  split <;> rfl
def NamesP (l : List ByteArray) : Prop := ∀ (i : Nat) x, l[i]? = some x → NameOK x ∧ fixI (fun e => x.toList == e.toList) l = (i : Int)
def LineP (st : Nat) (x : Line) : Prop := (2 ≤ x.Stops.length ∧ x.Stops.length ≤ 6) ∧ (x.Runs.length : Int) = (x.Stops.length : Int) - 1 ∧
  (∀ (i : Nat) e, x.Stops[i]? = some e → (0 ≤ e ∧ e < (st : Int)) ∧ fixI (fun y => e == y) x.Stops = (i : Int)) ∧ ∀ (i : Nat) r, x.Runs[i]? = some r → 1 ≤ r ∧ r ≤ 60
def Good (n : Network) : Prop := (2 ≤ n.Stops.length ∧ n.Stops.length ≤ 8) ∧ (1 ≤ n.Lines.length ∧ n.Lines.length ≤ 5) ∧ NamesP n.Stops ∧ NamesP (n.Lines.map (·.Name)) ∧ ∀ (i : Nat) x, n.Lines[i]? = some x → LineP n.Stops.length x
noncomputable instance (l : List ByteArray) : Decidable (NamesP l) := Classical.propDecidable _
noncomputable instance (st : Nat) (x : Line) : Decidable (LineP st x) := Classical.propDecidable _
noncomputable instance (n : Network) : Decidable (Good n) := Classical.propDecidable _
/-- No list is too long. -/
def Bd (n : Network) : Prop := n.Stops.length ≤ 1000 ∧ n.Lines.length ≤ 1000 ∧ ∀ x ∈ n.Lines, x.Stops.length ≤ 1000 ∧ x.Runs.length ≤ 1000

theorem areNames_eq (l : List ByteArray) (hl : l.length ≤ 1000) : i_areNames l = some (decide (NamesP l)) := by
  unfold i_areNames
  rw [all_val (hd := Classical.propDecidable _) l (fun i x => NameOK x ∧ fixI (fun e => x.toList == e.toList) l = (i : Int)) (fun i x hx => ?_) (by unfold i_areNames_L1; simp)]
  · by_cases h : NamesP l
    · rw [if_pos (show ∀ (i : Nat) x, l[i]? = some x → NameOK x ∧ fixI (fun e => x.toList == e.toList) l = (i : Int) from h)]; simp [h]
    · rw [if_neg (show ¬ ∀ (i : Nat) x, l[i]? = some x → NameOK x ∧ fixI (fun e => x.toList == e.toList) l = (i : Int) from h)]; simp [h]
  · have hi := (List.getElem?_eq_some_iff.1 hx).1
    unfold i_areNames_L1
    have hlt : decide ((i : Int) < (l.length : Int)) = true := by simp; omega
    simp only [hlt, if_true, idx_nat, hx, Option.bind_some, isName_eq, index_str_eq l (by omega), w64_succ (n := i) (by omega)]
    by_cases h1 : NameOK x
    · by_cases h2 : fixI (fun e => x.toList == e.toList) l = (i : Int)
      · left; simp [h1, h2]
      · right; simp [h1, h2]
    · right; simp [h1]

theorem lineNames_eq (n : Network) (hl : n.Lines.length ≤ 1000) : i_lineNames n = some (n.Lines.map (·.Name)) := by
  unfold i_lineNames
  rw [chk_of (by omega)]
  simp only [Option.bind_some]
  rw [fill_loop (fun x : Line => x.Name) n.Lines _ (by simp) (fun i a x y ha hy hx => ?_) (fun a ha => ?_)]
  · rfl
  · have hi := (List.getElem?_eq_some_iff.1 hx).1
    unfold i_lineNames_L1
    have hlt : decide ((i : Int) < (n.Lines.length : Int)) = true := by simp; omega
    simp only [hlt, if_true, idx_nat, hx, hy, Option.bind_some, w64_succ (n := i) (by omega), Int.toNat_natCast]
  · unfold i_lineNames_L1; simp

theorem isStop_eq (n : Network) (e : Int) : i_isStop n e = some (decide (0 ≤ e ∧ e < (n.Stops.length : Int))) := by
  unfold i_isStop
  by_cases h : 0 ≤ e <;> simp [h]
theorem isLine_eq (n : Network) (e : Int) : i_isLine n e = some (decide (0 ≤ e ∧ e < (n.Lines.length : Int))) := by
  unfold i_isLine
  by_cases h : 0 ≤ e <;> simp [h]

theorem isValidLine_eq (n : Network) (l : Line) (h1 : l.Stops.length ≤ 1000) (h2 : l.Runs.length ≤ 1000) : i_isValidLine n l = some (decide (LineP n.Stops.length l)) := by
  unfold i_isValidLine
  rw [within_eq]
  have e0 : w64 ((l.Stops.length : Int) - 1) = (l.Stops.length : Int) - 1 := w64_id (by omega)
  simp only [Option.bind_some, e0]
  by_cases a1 : 2 ≤ l.Stops.length ∧ l.Stops.length ≤ 6
  · have d1 : decide ((2 : Int) ≤ (l.Stops.length : Int) ∧ (l.Stops.length : Int) ≤ 6) = true := by simp; omega
    simp only [d1, Bool.not_true, Bool.false_eq_true, if_false]
    by_cases a2 : (l.Runs.length : Int) = (l.Stops.length : Int) - 1
    · have d2 : ((l.Runs.length : Int) != (l.Stops.length : Int) - 1) = false := by simp [a2]
      simp only [d2, Option.bind_some, Bool.false_eq_true, if_false]
      rw [all_val (hd := Classical.propDecidable _) l.Stops (fun i e => (0 ≤ e ∧ e < (n.Stops.length : Int)) ∧ fixI (fun y => e == y) l.Stops = (i : Int)) (fun i x hx => ?_) (by unfold i_isValidLine_L1; simp)]
      · rw [all_val (hd := Classical.propDecidable _) l.Runs (fun i r => 1 ≤ r ∧ r ≤ 60) (fun i x hx => ?_) (by unfold i_isValidLine_L2; simp)]
        · by_cases b1 : ∀ (i : Nat) e, l.Stops[i]? = some e → (0 ≤ e ∧ e < (n.Stops.length : Int)) ∧ fixI (fun y => e == y) l.Stops = (i : Int)
          · rw [if_pos b1]
            by_cases b2 : ∀ (i : Nat) r, l.Runs[i]? = some r → 1 ≤ r ∧ r ≤ 60
            · rw [if_pos b2]
              have : LineP n.Stops.length l := ⟨a1, a2, b1, b2⟩
              simp [this]
            · rw [if_neg b2]
              have : ¬ LineP n.Stops.length l := fun h => b2 h.2.2.2
              simp [this]
          · rw [if_neg b1]
            have : ¬ LineP n.Stops.length l := fun h => b1 h.2.2.1
            simp [this]
        · have hi := (List.getElem?_eq_some_iff.1 hx).1
          unfold i_isValidLine_L2
          have hlt : decide ((i : Int) < (l.Runs.length : Int)) = true := by simp; omega
          simp only [hlt, if_true, idx_nat, hx, Option.bind_some, within_eq, w64_succ (n := i) (by omega)]
          by_cases b : 1 ≤ x ∧ x ≤ 60
          · left; simp [b]
          · right; simp [b]
      · have hi := (List.getElem?_eq_some_iff.1 hx).1
        unfold i_isValidLine_L1
        have hlt : decide ((i : Int) < (l.Stops.length : Int)) = true := by simp; omega
        simp only [hlt, if_true, idx_nat, hx, Option.bind_some, isStop_eq, index_int_eq l.Stops (by omega), w64_succ (n := i) (by omega)]
        by_cases b1 : 0 ≤ x ∧ x < (n.Stops.length : Int)
        · by_cases b2 : fixI (fun y => x == y) l.Stops = (i : Int)
          · left; simp [b1, b2]
          · right; simp [b1, b2]
        · right; simp [b1]
    · have d2 : ((l.Runs.length : Int) != (l.Stops.length : Int) - 1) = true := by simp [a2]
      have : ¬ LineP n.Stops.length l := fun h => a2 h.2.1
      simp [d2, this]
  · have d1 : decide ((2 : Int) ≤ (l.Stops.length : Int) ∧ (l.Stops.length : Int) ≤ 6) = false := by simp; omega
    have : ¬ LineP n.Stops.length l := fun h => a1 h.1
    simp [d1, this]

theorem l2Line_eq (l : Line) (st : Nat) (hst : st ≤ 1000) (h1 : l.Stops.length ≤ 1000) (h2 : l.Runs.length ≤ 1000) : s_l2Line l (st : Int) = some (decide (NameOK l.Name ∧ LineP st l)) := by
  unfold s_l2Line
  rw [l2Name_eq]
  have e0 : w64 ((l.Stops.length : Int) - 1) = (l.Stops.length : Int) - 1 := w64_id (by omega)
  have e1 : w64 ((st : Int) - 1) = (st : Int) - 1 := w64_id (by omega)
  simp only [Option.bind_some, e0, l1In_eq]
  by_cases a0 : NameOK l.Name
  · simp only [a0, decide_true, Bool.not_true, Bool.false_eq_true, if_false, true_and]
    by_cases a1 : 2 ≤ l.Stops.length ∧ l.Stops.length ≤ 6
    · have d1 : decide ((2 : Int) ≤ (l.Stops.length : Int) ∧ (l.Stops.length : Int) ≤ 6) = true := by simp; omega
      simp only [d1, Bool.not_true, Bool.false_eq_true, if_false]
      by_cases a2 : (l.Runs.length : Int) = (l.Stops.length : Int) - 1
      · have d2 : ((l.Runs.length : Int) != (l.Stops.length : Int) - 1) = false := by simp [a2]
        simp only [d2, Option.bind_some, Bool.false_eq_true, if_false]
        rw [all_val (hd := Classical.propDecidable _) l.Stops (fun i e => (0 ≤ e ∧ e < (st : Int)) ∧ fixI (fun y => e == y) l.Stops = (i : Int)) (fun i x hx => ?_) (by unfold s_l2Line_L1; simp)]
        · rw [all_val (hd := Classical.propDecidable _) l.Runs (fun i r => 1 ≤ r ∧ r ≤ 60) (fun i x hx => ?_) (by unfold s_l2Line_L2; simp)]
          · by_cases b1 : ∀ (i : Nat) e, l.Stops[i]? = some e → (0 ≤ e ∧ e < (st : Int)) ∧ fixI (fun y => e == y) l.Stops = (i : Int)
            · rw [if_pos b1]
              by_cases b2 : ∀ (i : Nat) r, l.Runs[i]? = some r → 1 ≤ r ∧ r ≤ 60
              · rw [if_pos b2]
                have : LineP st l := ⟨a1, a2, b1, b2⟩
                simp [this]
              · rw [if_neg b2]
                have : ¬ LineP st l := fun h => b2 h.2.2.2
                simp [this]
            · rw [if_neg b1]
              have : ¬ LineP st l := fun h => b1 h.2.2.1
              simp [this]
          · have hi := (List.getElem?_eq_some_iff.1 hx).1
            unfold s_l2Line_L2
            have hlt : decide ((i : Int) < (l.Runs.length : Int)) = true := by simp; omega
            simp only [hlt, if_true, idx_nat, hx, Option.bind_some, l1In_eq, w64_succ (n := i) (by omega)]
            by_cases b : 1 ≤ x ∧ x ≤ 60
            · left; simp [b]
            · right; simp [b]
        · have hi := (List.getElem?_eq_some_iff.1 hx).1
          unfold s_l2Line_L1
          have hlt : decide ((i : Int) < (l.Stops.length : Int)) = true := by simp; omega
          simp only [hlt, if_true, idx_nat, hx, Option.bind_some, l1In_eq, e1, l2Place_eq l (by omega), w64_succ (n := i) (by omega)]
          by_cases b1 : 0 ≤ x ∧ x < (st : Int)
          · have d3 : decide (0 ≤ x ∧ x ≤ (st : Int) - 1) = true := by simp; omega
            by_cases b2 : fixI (fun y => x == y) l.Stops = (i : Int)
            · left; simp only [d3]; simp [b1, b2]
            · right; simp only [d3]; simp [b1, b2]
          · have d3 : decide (0 ≤ x ∧ x ≤ (st : Int) - 1) = false := by simp; omega
            right; simp only [d3]; simp [b1]
      · have d2 : ((l.Runs.length : Int) != (l.Stops.length : Int) - 1) = true := by simp [a2]
        have : ¬ LineP st l := fun h => a2 h.2.1
        simp [d2, this]
    · have d1 : decide ((2 : Int) ≤ (l.Stops.length : Int) ∧ (l.Stops.length : Int) ≤ 6) = false := by simp; omega
      have : ¬ LineP st l := fun h => a1 h.1
      simp [d1, this]
  · simp [a0]

theorem valid_eq (n : Network) (h : Bd n) : i_IsValidNetwork n = some (decide (Good n)) := by
  obtain ⟨h1, h2, h3⟩ := h
  unfold i_IsValidNetwork
  simp only [within_eq, Option.bind_some, areNames_eq n.Stops h1, lineNames_eq n h2, areNames_eq (n.Lines.map (·.Name)) (by simpa using h2)]
  by_cases a1 : 2 ≤ n.Stops.length ∧ n.Stops.length ≤ 8
  · have d1 : decide ((2 : Int) ≤ (n.Stops.length : Int) ∧ (n.Stops.length : Int) ≤ 8) = true := by simp; omega
    simp only [d1, Bool.not_true, Bool.false_eq_true, if_false]
    by_cases a2 : 1 ≤ n.Lines.length ∧ n.Lines.length ≤ 5
    · have d2 : decide ((1 : Int) ≤ (n.Lines.length : Int) ∧ (n.Lines.length : Int) ≤ 5) = true := by simp; omega
      simp only [d2, Bool.not_true, Bool.false_eq_true, if_false]
      by_cases a3 : NamesP n.Stops
      · simp only [a3, decide_true, Bool.not_true, Bool.false_eq_true, if_false]
        by_cases a4 : NamesP (n.Lines.map (·.Name))
        · simp only [a4, decide_true, Bool.not_true, Option.bind_some, Bool.false_eq_true, if_false]
          rw [all_val (hd := Classical.propDecidable _) n.Lines (fun i x => LineP n.Stops.length x) (fun i x hx => ?_) (by unfold i_IsValidNetwork_L1; simp)]
          · by_cases b1 : ∀ (i : Nat) x, n.Lines[i]? = some x → LineP n.Stops.length x
            · rw [if_pos b1]
              have : Good n := ⟨a1, a2, a3, a4, b1⟩
              simp [this]
            · rw [if_neg b1]
              have : ¬ Good n := fun h => b1 h.2.2.2.2
              simp [this]
          · have hi := (List.getElem?_eq_some_iff.1 hx).1
            obtain ⟨g1, g2⟩ := h3 x (List.mem_of_getElem? hx)
            unfold i_IsValidNetwork_L1
            have hlt : decide ((i : Int) < (n.Lines.length : Int)) = true := by simp; omega
            simp only [hlt, if_true, idx_nat, hx, Option.bind_some, isValidLine_eq n x g1 g2, w64_succ (n := i) (by omega)]
            by_cases b : LineP n.Stops.length x
            · left; simp [b]
            · right; simp [b]
        · have : ¬ Good n := fun h => a4 h.2.2.2.1
          simp [a4, this]
      · have : ¬ Good n := fun h => a3 h.2.2.1
        simp [a3, this]
    · have d2 : decide ((1 : Int) ≤ (n.Lines.length : Int) ∧ (n.Lines.length : Int) ≤ 5) = false := by simp; omega
      have : ¬ Good n := fun h => a2 h.2.1
      simp [d2, this]
  · have d1 : decide ((2 : Int) ≤ (n.Stops.length : Int) ∧ (n.Stops.length : Int) ≤ 8) = false := by simp; omega
    have : ¬ Good n := fun h => a1 h.1
    simp [d1, this]

theorem good_eq (n : Network) (h : Bd n) : s_l2Good n = some (decide (Good n)) := by
  obtain ⟨h1, h2, h3⟩ := h
  unfold s_l2Good
  simp only [l1In_eq, Option.bind_some]
  by_cases a1 : 2 ≤ n.Stops.length ∧ n.Stops.length ≤ 8
  · have d1 : decide ((2 : Int) ≤ (n.Stops.length : Int) ∧ (n.Stops.length : Int) ≤ 8) = true := by simp; omega
    simp only [d1, Bool.not_true, Bool.false_eq_true, if_false]
    by_cases a2 : 1 ≤ n.Lines.length ∧ n.Lines.length ≤ 5
    · have d2 : decide ((1 : Int) ≤ (n.Lines.length : Int) ∧ (n.Lines.length : Int) ≤ 5) = true := by simp; omega
      simp only [d2, Bool.not_true, Option.bind_some, Bool.false_eq_true, if_false]
      rw [all_val (hd := Classical.propDecidable _) n.Stops (fun i x => NameOK x ∧ fixI (fun e => x.toList == e.toList) n.Stops = (i : Int)) (fun i x hx => ?_) (by unfold s_l2Good_L1; simp)]
      · rw [all_val (hd := Classical.propDecidable _) n.Lines (fun i x => (NameOK x.Name ∧ LineP n.Stops.length x) ∧ fixI (fun e => x.Name.toList == e.toList) (n.Lines.map (·.Name)) = (i : Int)) (fun i x hx => ?_) (by unfold s_l2Good_L2; simp)]
        · by_cases b1 : NamesP n.Stops
          · rw [if_pos (show ∀ (i : Nat) x, n.Stops[i]? = some x → NameOK x ∧ fixI (fun e => x.toList == e.toList) n.Stops = (i : Int) from b1)]
            by_cases b2 : ∀ (i : Nat) x, n.Lines[i]? = some x → (NameOK x.Name ∧ LineP n.Stops.length x) ∧ fixI (fun e => x.Name.toList == e.toList) (n.Lines.map (·.Name)) = (i : Int)
            · rw [if_pos b2]
              have : Good n := ⟨a1, a2, b1, fun i y hy => by
                rw [List.getElem?_map] at hy
                obtain ⟨x, hx, rfl⟩ := Option.map_eq_some_iff.1 hy
                exact ⟨(b2 i x hx).1.1, (b2 i x hx).2⟩, fun i x hx => (b2 i x hx).1.2⟩
              simp [this]
            · rw [if_neg b2]
              have : ¬ Good n := fun h => b2 fun i x hx => by
                have h4 := h.2.2.2.1 i x.Name (by rw [List.getElem?_map, hx]; rfl)
                exact ⟨⟨h4.1, h.2.2.2.2 i x hx⟩, h4.2⟩
              simp [this]
          · rw [if_neg (show ¬ ∀ (i : Nat) x, n.Stops[i]? = some x → NameOK x ∧ fixI (fun e => x.toList == e.toList) n.Stops = (i : Int) from b1)]
            have : ¬ Good n := fun h => b1 h.2.2.1
            simp [this]
        · have hi := (List.getElem?_eq_some_iff.1 hx).1
          obtain ⟨g1, g2⟩ := h3 x (List.mem_of_getElem? hx)
          unfold s_l2Good_L2
          have hlt : decide ((i : Int) < (n.Lines.length : Int)) = true := by simp; omega
          simp only [hlt, if_true, idx_nat, hx, Option.bind_some, l2Line_eq x n.Stops.length h1 g1 g2, l2LineNamed_eq n (by omega), w64_succ (n := i) (by omega)]
          by_cases b1 : NameOK x.Name ∧ LineP n.Stops.length x
          · by_cases b2 : fixI (fun e => x.Name.toList == e.toList) (n.Lines.map (·.Name)) = (i : Int)
            · left; simp [b1, b2]
            · right; simp [b1, b2]
          · right; simp [b1]
      · have hi := (List.getElem?_eq_some_iff.1 hx).1
        unfold s_l2Good_L1
        have hlt : decide ((i : Int) < (n.Stops.length : Int)) = true := by simp; omega
        simp only [hlt, if_true, idx_nat, hx, Option.bind_some, l2Name_eq, l2Find_eq n.Stops (by omega), w64_succ (n := i) (by omega)]
        by_cases b1 : NameOK x
        · by_cases b2 : fixI (fun e => x.toList == e.toList) n.Stops = (i : Int)
          · left; simp [b1, b2]
          · right; simp [b1, b2]
        · right; simp [b1]
    · have d2 : decide ((1 : Int) ≤ (n.Lines.length : Int) ∧ (n.Lines.length : Int) ≤ 5) = false := by simp; omega
      have : ¬ Good n := fun h => a2 h.2.1
      simp [d2, this]
  · have d1 : decide ((2 : Int) ≤ (n.Stops.length : Int) ∧ (n.Stops.length : Int) ≤ 8) = false := by simp; omega
    have : ¬ Good n := fun h => a1 h.1
    simp [d1, this]
/-! Copies, reversed lists, the reversed line. -/
theorem l1Own_eq (l : List Int) (h : l.length ≤ 1000) : s_l1Own_f l = some l := by
  unfold s_l1Own_f
  rw [chk_of (by simp; omega)]; rfl
theorem l2Own_eq (n : Network) (h : Bd n) : s_l2Own n = some n := by
  obtain ⟨h1, h2, h3⟩ := h
  unfold s_l2Own
  rw [chk_of (by simp; omega)]
  simp only [Option.bind_some]
  rw [app_loop (fun x : Line => x) n.Lines (fun i a x ha hx => ?_) (fun a ha => ?_)]
  · simp only [Option.bind_some, List.map_id', List.nil_append]
  · have hi := (List.getElem?_eq_some_iff.1 hx).1
    obtain ⟨g1, g2⟩ := h3 x (List.mem_of_getElem? hx)
    unfold s_l2Own_L1
    have hlt : decide ((i : Int) < (n.Lines.length : Int)) = true := by simp; omega
    have hch : ∀ y : Line, chk (a.length + ([y] : List Line).length ≤ 4294967296) = some () := fun y => chk_of (by simp; omega)
    simp only [hlt, if_true, idx_nat, hx, Option.bind_some, l1Own_eq _ g1, l1Own_eq _ g2, hch, w64_succ (n := i) (by omega)]
  · unfold s_l2Own_L1; simp
theorem l2Own_t_eq (n : Network) (h : Bd n) : s_l2Own_t n = some n := by
  have : s_l2Own_t n = s_l2Own n := rfl
  rw [this]; exact l2Own_eq n h

theorem l2Back_eq (s : List Int) (hs : s.length ≤ 1000) : s_l2Back s = some s.reverse := by
  unfold s_l2Back
  have e0 : w64 ((s.length : Int) - 1) = (s.length : Int) - 1 := w64_id (by omega)
  rw [e0]
  have h := iter_rule (step := s_l2Back_L1 s) (fun m a => ∃ j : Nat, a.1 = (s.length : Int) - 1 - j ∧ m + j = s.length ∧ a.2 = s.reverse.take j) (fun b => b = s.reverse) ?_ (k := s.length) (a := ((s.length : Int) - 1, [])) ⟨0, by simp, by omega, by simp⟩
  · obtain ⟨b, hb, rfl⟩ := h
    rw [hb]; rfl
  rintro m ⟨v, i⟩ ⟨j, hv, hm, hi⟩
  simp only at hv hi
  subst hv
  by_cases hlt : j < s.length
  · left
    have ev : (s.length : Int) - 1 - j = ((s.length - 1 - j : Nat) : Int) := by omega
    rw [ev]
    obtain ⟨e, he⟩ := get_ex (l := s) (i := s.length - 1 - j) (by omega)
    have hd : decide ((0 : Int) ≤ ((s.length - 1 - j : Nat) : Int)) = true := by simp
    have hlen : i.length = j := by rw [hi]; simp; omega
    have hch : chk (i.length + ([e] : List Int).length ≤ 4294967296) = some () := chk_of (by simp; omega)
    have ev2 : w64 (((s.length - 1 - j : Nat) : Int) - 1) = (s.length : Int) - 1 - ((j + 1 : Nat) : Int) := by rw [w64_id (by omega)]; omega
    refine ⟨((s.length : Int) - 1 - ((j + 1 : Nat) : Int), i ++ [e]), m - 1, ?_, by omega, j + 1, rfl, by omega, ?_⟩
    · unfold s_l2Back_L1
      simp only [hd, if_true, idx_nat, he, hch, Option.bind_some, ev2]
    · show i ++ [e] = _
      rw [take_succ (x := e) (by rw [List.getElem?_reverse hlt]; exact he), hi]
  · right
    have ej : j = s.length := by omega
    subst ej
    have hd : decide ((0 : Int) ≤ (s.length : Int) - 1 - (s.length : Int)) = false := by simp; omega
    refine ⟨i, by unfold s_l2Back_L1; simp only [hd, Bool.false_eq_true, if_false], ?_⟩
    rw [hi, List.take_of_length_le (by simp)]
theorem l2BackF_eq (s : List Int) (hs : s.length ≤ 1000) : s_l2Back_f s = some s.reverse := l2Back_eq s hs

/-- The network with the reversed line. -/
def Rev (n : Network) (e : Line) (name : ByteArray) : Network := ⟨n.Stops, n.Lines ++ [⟨name, e.Stops.reverse, e.Runs.reverse⟩]⟩
def Asked (n : Network) (line : Int) (name : ByteArray) : Prop := Good n ∧ 0 ≤ line ∧ ∃ e, n.Lines[line.toNat]? = some e ∧ Good (Rev n e name)
theorem good_lines {n : Network} (h : Good n) : n.Lines.length ≤ 5 := h.2.1.2
theorem rev_bd {n : Network} {e : Line} {name : ByteArray} (h : Bd n) (hg : Good n) (he : e ∈ n.Lines) : Bd (Rev n e name) := by
  obtain ⟨h1, h2, h3⟩ := h
  have := good_lines hg
  refine ⟨h1, by simp [Rev]; omega, fun x hx => ?_⟩
  rcases List.mem_append.1 hx with hx | hx
  · exact h3 x hx
  · simp at hx
    subst hx
    obtain ⟨g1, g2⟩ := h3 e he
    exact ⟨by simpa using g1, by simpa using g2⟩

/-! The draws: they answer, with bounds. -/
/-- A drawn line. -/
def LB (x : Line) : Prop := (2 ≤ x.Stops.length ∧ x.Stops.length ≤ 10) ∧ 1 ≤ x.Runs.length ∧ x.Runs.length ≤ 10
def NB (n : Network) : Prop := (2 ≤ n.Stops.length ∧ n.Stops.length ≤ 6) ∧ (1 ≤ n.Lines.length ∧ n.Lines.length ≤ 8) ∧ ∀ x ∈ n.Lines, LB x
theorem NB.bd {n : Network} (h : NB n) : Bd n := ⟨by have := h.1; omega, by have := h.2.1; omega, fun x hx => by have := h.2.2 x hx; unfold LB at this; omega⟩
theorem l1Num_ok (n : Int) (h0 : 0 ≤ n) (h1 : n < 10) : ∃ r, s_l1Num n = some r ∧ r.size ≤ 10 := by
  have e : s_l1Num n = s_l1Num_F (s_l1Num_k 4294967295) n := rfl
  rw [e]
  unfold s_l1Num_F
  have d1 : decide (n < 0) = false := by simp; omega
  have d2 : decide (n < 10) = true := by simp; omega
  have e1 : w64 (n + 1) = n + 1 := w64_id (by omega)
  have hs : (str [48, 49, 50, 51, 52, 53, 54, 55, 56, 57]).size = 10 := rfl
  simp only [d1, d2, Bool.false_eq_true, if_false, if_true, e1, hs]
  rw [chk_of (by omega)]
  refine ⟨_, rfl, ?_⟩
  rw [ByteArray.size_extract, hs]
  omega

theorem line_ok {k : Nat} {c : l1Cur} (name : ByteArray) (stops : Int) (hs : 2 ≤ stops ∧ stops ≤ 1000) (h : Cur k c) (hk : k ≤ 1000000000) : ∃ r, s_l1Cur_line c name stops = some r ∧ Cur (k + 40) r.2 ∧ LB r.1 := by
  unfold s_l1Cur_line
  obtain ⟨r, hr, hc, h0, h1⟩ := pick_ok stops h (by omega)
  obtain ⟨r1, hr1, hc1, h10, h11⟩ := pick_ok 3 hc (by omega)
  simp only [hr, hr1, Option.bind_some]
  have e1 : w64 (2 + r1.1) = ((2 + r1.1.toNat : Nat) : Int) := by rw [w64_id (by omega)]; omega
  rw [e1]
  have loop : ∃ b, iter (s_l1Cur_line_L1 name stops) (r.1, ((2 + r1.1.toNat : Nat) : Int), r1.2.code_, r1.2.at_, r1.2.seed_.v, []) = some b ∧ (Cur (k + 4 + 2 * 4) ⟨b.1, b.2.1, ⟨b.2.2.1⟩⟩ ∧ 1 ≤ b.2.2.2.length ∧ b.2.2.2.length ≤ 4) := by
    refine iter_rule (fun m a => (0 ≤ a.1 ∧ a.1 < stops) ∧ a.2.1 = (m : Int) ∧ m + a.2.2.2.2.2.length ≤ 4 ∧ (1 ≤ m ∨ 1 ≤ a.2.2.2.2.2.length) ∧ Cur (k + 4 + 2 * (4 - m)) ⟨a.2.2.1, a.2.2.2.1, ⟨a.2.2.2.2.1⟩⟩) _ ?_ (k := 2 + r1.1.toNat) ⟨⟨h0, by show r.1 < stops; omega⟩, rfl, by simp; omega, .inl (by omega), hc1.mono (by omega)⟩
    rintro m ⟨v, v1, v2, v3, v4, v5⟩ ⟨hv, hv1, hl, hne, hcur⟩
    simp only at hv hv1 hl hne hcur
    subst hv1
    unfold s_l1Cur_line_L1
    cases m with
    | zero => right; exact ⟨_, by simp; rfl, hcur, by show 1 ≤ v5.length; omega, by show v5.length ≤ 4; omega⟩
    | succ m =>
      left
      have hpos : decide ((0 : Int) < ((m + 1 : Nat) : Int)) = true := by simp
      obtain ⟨r3, hr3, hc3, h30, h31⟩ := pick_ok 2 hcur (by omega)
      have hpl := l2Place_eq (⟨name, v5, []⟩ : Line) (by show v5.length ≤ _; omega) v
      have hch : chk (v5.length + ([v] : List Int).length ≤ 4294967296) = some () := chk_of (by simp; omega)
      have hne0 : chk (stops ≠ 0) = some () := chk_of (by omega)
      have w1 : w64 (v + 1) = v + 1 := w64_id (by omega)
      have w2 : w64 (v + 1 + r3.1) = v + 1 + r3.1 := w64_id (by omega)
      have ht := tmod_rng (a := v + 1 + r3.1) (b := stops) (by omega) (by omega)
      simp only [hpos, if_true, hpl, hch, hr3, hne0, w1, w2, Option.bind_some]
      have w3 : w64 (((m + 1 : Nat) : Int) - 1) = (m : Int) := w64_pred (by omega)
      split
      · refine ⟨_, m, by simp only [Option.bind_some]; rfl, by omega, ht, w3, ?_, .inr ?_, ?_⟩
        · simp; omega
        · simp
        · exact hc3.mono (by omega)
      · rename_i hn
        refine ⟨_, m, by simp only [Option.bind_some]; rfl, by omega, ht, w3, ?_, .inr ?_, ?_⟩
        · show m + v5.length ≤ 4; omega
        · show 1 ≤ v5.length
          cases v5 with
          | nil => simp [fixI] at hn
          | cons a l => simp
        · exact hc3.mono (by omega)
  obtain ⟨⟨v7, v8, v9, v10⟩, hb, hcb, hlb⟩ := loop
  simp only at hcb hlb
  rw [hb]
  simp only [Option.bind_some]
  -- at least two stops
  have two : ∃ v11 : List Int, (if decide ((v10.length : Int) < 2) = true then (idx v10 0).bind fun e1 => (chk ((stops : Int) ≠ 0)).bind fun u4 => (chk (v10.length + ([((w64 (e1 + 1)).tmod stops)] : List Int).length ≤ 4294967296)).bind fun u5 => some (v10 ++ ([((w64 (e1 + 1)).tmod stops)] : List Int)) else some v10) = some v11 ∧ 2 ≤ v11.length ∧ v11.length ≤ 5 := by
    by_cases h2 : (v10.length : Int) < 2
    · obtain ⟨e, he, _⟩ := idx_lt (l := v10) (i := 0) (by omega) (by omega)
      have hch : ∀ y : Int, chk (v10.length + ([y] : List Int).length ≤ 4294967296) = some () := fun y => chk_of (by simp; omega)
      have hne0 : chk (stops ≠ 0) = some () := chk_of (by omega)
      refine ⟨v10 ++ [(w64 (e + 1)).tmod stops], by simp only [h2, decide_true, if_true, he, hne0, hch, Option.bind_some], ?_, ?_⟩
      · simp; omega
      · simp; omega
    · exact ⟨v10, by simp [h2], by omega, by omega⟩
  obtain ⟨v11, hv11, l1, l2⟩ := two
  rw [hv11]
  simp only [Option.bind_some]
  have loop2 : ∃ b, iter (s_l1Cur_line_L2 v11) (1, v7, v8, v9, []) = some b ∧ (Cur (k + 40) ⟨b.1, b.2.1, ⟨b.2.2.1⟩⟩ ∧ b.2.2.2.length + 1 = v11.length) := by
    refine iter_rule (fun m a => ∃ i : Nat, a.1 = (i : Int) ∧ m + i = v11.length ∧ a.2.2.2.2.length + 1 = i ∧ Cur (k + 12 + 2 * i) ⟨a.2.1, a.2.2.1, ⟨a.2.2.2.1⟩⟩) _ ?_ (k := v11.length - 1) ⟨1, rfl, by omega, rfl, hcb.mono (by omega)⟩
    rintro m ⟨v12, v13, v14, v15, v16⟩ ⟨i, hi, hm, hl, hcur⟩
    simp only at hi hl hcur
    subst hi
    unfold s_l1Cur_line_L2
    by_cases hlt : i < v11.length
    · left
      have hd : decide ((i : Int) < (v11.length : Int)) = true := by simp; omega
      obtain ⟨r5, hr5, hc5, _⟩ := pick_ok 12 hcur (by omega)
      have hch : ∀ y : Int, chk (v16.length + ([y] : List Int).length ≤ 4294967296) = some () := fun y => chk_of (by simp; omega)
      refine ⟨_, m - 1, by simp only [hd, if_true, hr5, hch, Option.bind_some, w64_succ (n := i) (by omega)]; rfl, by omega, i + 1, rfl, by omega, ?_, ?_⟩
      · simp; omega
      · exact hc5.mono (by omega)
    · right
      have hd : decide ((i : Int) < (v11.length : Int)) = false := by simp; omega
      refine ⟨_, by simp only [hd, Bool.false_eq_true, if_false]; rfl, ?_, ?_⟩
      · exact hcur.mono (by omega)
      · show v16.length + 1 = _; omega
  obtain ⟨⟨v17, v18, v19, v20⟩, hb2, hcb2, hl2⟩ := loop2
  simp only at hcb2 hl2
  rw [hb2]
  simp only [Option.bind_some]
  exact ⟨_, rfl, hcb2, ⟨l1, by show v11.length ≤ 10; omega⟩, by show 1 ≤ v20.length; omega, by show v20.length ≤ 10; omega⟩
theorem lineF_ok {k : Nat} {c : l1Cur} (name : ByteArray) (stops : Int) (hs : 2 ≤ stops ∧ stops ≤ 1000) (h : Cur k c) (hk : k ≤ 1000000000) : ∃ r, s_l1Cur_line_f c name stops = some r ∧ Cur (k + 40) r.2 ∧ LB r.1 := line_ok name stops hs h hk

theorem six_len (i : Nat) (h2 : 2 ≤ i) (h6 : i ≤ 6) (l : List ByteArray) (hl : l.length = 6) : 2 ≤ ((l.take i).drop (0 : Int).toNat).length ∧ ((l.take i).drop (0 : Int).toNat).length ≤ 6 := by
  simp; omega

theorem networkT_ok {k : Nat} {c : l1Cur} (h : Cur k c) (hk : k ≤ 500000000) : ∃ r, s_l1Cur_network_t c = some r ∧ Cur (k + 300) r.2 ∧ NB r.1 := by
  unfold s_l1Cur_network_t
  obtain ⟨r, hr, hc, h0, h1⟩ := pick_ok 5 h (by omega)
  have e1 : w64 (2 + r.1) = 2 + r.1 := w64_id (by omega)
  have hsix : ([(str [112, 111, 114, 116]), (str [109, 105, 108, 108]), (str [112, 97, 114, 107]), (str [104, 97, 108, 108]), (str [100, 111, 99, 107]), (str [102, 97, 105, 114])] : List ByteArray).length = 6 := rfl
  simp only [hr, Option.bind_some, e1, hsix]
  rw [chk_of (by omega)]
  obtain ⟨r1, hr1, hc1, h10, h11⟩ := pick_ok 3 hc (by omega)
  have e2 : w64 (1 + r1.1) = ((1 + r1.1.toNat : Nat) : Int) := by rw [w64_id (by omega)]; omega
  simp only [hr1, Option.bind_some, e2]
  have loop : ∃ b, iter (s_l1Cur_network_t_L1 r) (((1 + r1.1.toNat : Nat) : Int), r1.2.code_, r1.2.at_, r1.2.seed_.v, []) = some b ∧ (Cur (k + 4 + 40 * 3) ⟨b.1, b.2.1, ⟨b.2.2.1⟩⟩ ∧ (1 ≤ b.2.2.2.length ∧ b.2.2.2.length ≤ 3) ∧ ∀ x ∈ b.2.2.2, LB x) := by
    refine iter_rule (fun m a => a.1 = (m : Int) ∧ m + a.2.2.2.2.length ≤ 3 ∧ 1 ≤ m + a.2.2.2.2.length ∧ (∀ x ∈ a.2.2.2.2, LB x) ∧ Cur (k + 4 + 40 * (3 - m)) ⟨a.2.1, a.2.2.1, ⟨a.2.2.2.1⟩⟩) _ ?_ (k := 1 + r1.1.toNat) ⟨rfl, by simp; omega, by simp, by simp, hc1.mono (by omega)⟩
    rintro m ⟨x, v, v1, v2, v3⟩ ⟨hx, hl, hl1, hlb, hcur⟩
    simp only at hx hl hl1 hlb hcur
    subst hx
    unfold s_l1Cur_network_t_L1
    cases m with
    | zero => right; exact ⟨_, by simp; rfl, hcur, ⟨by show 1 ≤ v3.length; omega, by show v3.length ≤ 3; omega⟩, hlb⟩
    | succ m =>
      left
      have hpos : decide ((0 : Int) < ((m + 1 : Nat) : Int)) = true := by simp
      obtain ⟨r4, hr4, hs4⟩ := l1Num_ok ((m + 1 : Nat) : Int) (by omega) (by omega)
      have hs : (str [108]).size = 1 := rfl
      have hch : chk ((str [108]).size + r4.size ≤ 4294967296) = some () := chk_of (by omega)
      obtain ⟨r5, hr5, hc5, hb5⟩ := lineF_ok (str [108] ++ r4) (2 + r.1) (by omega) hcur (by omega)
      have hch2 : ∀ y : Line, chk (v3.length + ([y] : List Line).length ≤ 4294967296) = some () := fun y => chk_of (by simp; omega)
      refine ⟨_, m, by simp only [hpos, if_true, hr4, hch, e1, hr5, hch2, Option.bind_some]; rfl, by omega, ?_, ?_, ?_, ?_, ?_⟩
      · exact w64_pred (by omega)
      · simp; omega
      · simp; omega
      · intro y hy
        rcases List.mem_append.1 hy with hy | hy
        · exact hlb y hy
        · simp at hy; subst hy; exact hb5
      · exact hc5.mono (by omega)
  obtain ⟨⟨v4, v5, v6, v7⟩, hb, hcb, hlb, hall⟩ := loop
  simp only at hcb hlb hall
  rw [hb]
  simp only [Option.bind_some]
  obtain ⟨r6, hr6, hc6⟩ := one_ok 2 hcb (by omega)
  simp only [hr6, Option.bind_some]
  have fin : ∀ (v8 : List UInt8) (v9 v10 : Int) (v11 : List Line), Cur (k + 200) ⟨v8, v9, ⟨v10⟩⟩ → (1 ≤ v11.length ∧ v11.length ≤ 8) → (∀ x ∈ v11, LB x) →
      ∃ r', ((s_l2Own_t (⟨((([(str [112, 111, 114, 116]), (str [109, 105, 108, 108]), (str [112, 97, 114, 107]), (str [104, 97, 108, 108]), (str [100, 111, 99, 107]), (str [102, 97, 105, 114])] : List ByteArray).take (2 + r.1).toNat).drop (0 : Int).toNat), v11⟩ : Network)).bind fun r11 => some ((⟨r11.Stops, r11.Lines⟩ : Network), (⟨v8, v9, (⟨v10⟩ : IK .u64)⟩ : l1Cur))) = some r' ∧ Cur (k + 300) r'.2 ∧ NB r'.1 := by
    intro v8 v9 v10 v11 g1 g2 g3
    have hst := six_len (2 + r.1).toNat (by omega) (by omega) _ hsix
    have hnb : NB (⟨((([(str [112, 111, 114, 116]), (str [109, 105, 108, 108]), (str [112, 97, 114, 107]), (str [104, 97, 108, 108]), (str [100, 111, 99, 107]), (str [102, 97, 105, 114])] : List ByteArray).take (2 + r.1).toNat).drop (0 : Int).toNat), v11⟩ : Network) := ⟨hst, g2, g3⟩
    rw [l2Own_t_eq _ hnb.bd]
    exact ⟨_, rfl, g1.mono (by omega), hnb⟩
  split
  · obtain ⟨e, he, _, hem⟩ := idx_lt (l := v7) (i := 0) (by omega) (by omega)
    obtain ⟨g1, g2⟩ := hall e hem
    have hch2 : ∀ y : Line, chk (v7.length + ([y] : List Line).length ≤ 4294967296) = some () := fun y => chk_of (by simp; omega)
    simp only [he, l2BackF_eq e.Stops (by omega), l2BackF_eq e.Runs (by omega), hch2, Option.bind_some]
    refine fin _ _ _ _ (hc6.mono (by omega)) (by simp; omega) fun y hy => ?_
    rcases List.mem_append.1 hy with hy | hy
    · exact hall y hy
    · simp at hy; subst hy
      exact ⟨by simpa using g1, by simpa using g2⟩
  · simp only [Option.bind_some]
    exact fin _ _ _ _ (hc6.mono (by omega)) (by omega) hall

theorem anyNetwork_ok {k : Nat} {c : l1Cur} (h : Cur k c) (hk : k ≤ 200000000) : ∃ r, s_l1Cur_anyNetwork c = some r ∧ Cur (k + 1000) r.2 ∧ Bd r.1 := by
  unfold s_l1Cur_anyNetwork
  obtain ⟨r, hr, hc, hnb⟩ := networkT_ok h (by omega)
  obtain ⟨n1, n2, n3⟩ := hnb
  obtain ⟨r1, hr1, hc1, h10, h11⟩ := pick_ok (r.1.Lines.length : Int) hc (by omega)
  obtain ⟨e, he, he2, hem⟩ := idx_lt (l := r.1.Lines) (i := r1.1) h10 (by omega)
  obtain ⟨g1, g2⟩ := n3 e hem
  obtain ⟨r2, hr2, hc2, _⟩ := pick_ok 24 hc1 (by omega)
  simp only [hr, hr1, he, hr2, Option.bind_some]
  have fin : ∀ (v : List UInt8) (v1 v2 : Int) (v3 : ByteArray) (v4 : List ByteArray) (v5 : List Line) (v6 : List Int), Cur (k + 900) ⟨v, v1, ⟨v2⟩⟩ → v4.length ≤ 6 → v5.length = r.1.Lines.length → (∀ x ∈ v5, LB x) → v6.length ≤ 11 →
      ∃ r', ((idx v5 r1.1).bind fun e9 => some ((⟨v4, (v5.set r1.1.toNat (⟨v3, e9.Stops, v6⟩ : Line))⟩ : Network), (⟨v, v1, (⟨v2⟩ : IK .u64)⟩ : l1Cur))) = some r' ∧ Cur (k + 1000) r'.2 ∧ Bd r'.1 := by
    intro v v1 v2 v3 v4 v5 v6 q1 q2 q3 q4 q5
    obtain ⟨e9, he9, _, hm9⟩ := idx_lt (l := v5) (i := r1.1) h10 (by omega)
    rw [he9]
    refine ⟨_, rfl, q1.mono (by omega), by show v4.length ≤ _; omega, by simp; omega, fun x hx => ?_⟩
    rcases List.mem_or_eq_of_mem_set hx with hx | hx
    · have := q4 x hx
      unfold LB at this; omega
    · subst hx
      have := q4 e9 hm9
      unfold LB at this
      exact ⟨by show e9.Stops.length ≤ _; omega, by show v6.length ≤ _; omega⟩
  split
  · obtain ⟨r4, hr4, hc4, _⟩ := ofw_ok ([(str [109, 105, 108, 108]), (str []), (str [65]), (str [97, 98, 99, 100, 101, 102, 103, 104]), (str [97, 98, 99, 100, 101, 102, 103, 104, 105])] : List ByteArray) (by simp) hc2 (by omega)
    obtain ⟨e2, he2', _⟩ := idx_lt (l := r.1.Stops) (i := 0) (by omega) (by omega)
    simp only [hr4, he2', Option.bind_some, flb_go]
    exact fin _ _ _ _ _ _ _ (hc4.mono (by omega)) (by simp; omega) rfl n3 (by omega)
  split
  · obtain ⟨r5, hr5, hc5, _⟩ := ofw_ok ([(str [114, 49]), (str [108, 49]), (str []), (str [88])] : List ByteArray) (by simp) hc2 (by omega)
    simp only [hr5, Option.bind_some, flb_go]
    exact fin _ _ _ _ _ _ _ (hc5.mono (by omega)) (by omega) rfl n3 (by omega)
  split
  · obtain ⟨r8, hr8, hc8, h80, h81⟩ := pick_ok (e.Stops.length : Int) hc2 (by omega)
    obtain ⟨r9, hr9, hc9, _⟩ := pick_ok 10 hc8 (by omega)
    obtain ⟨e4, he4, _⟩ := idx_lt (l := e.Stops) (i := r8.1) h80 (by omega)
    simp only [hr8, hr9, he4, Option.bind_some, flb_go]
    refine fin _ _ _ _ _ _ _ (hc9.mono (by omega)) (by omega) (by simp) (fun x hx => ?_) (by show e.Runs.length ≤ 11; omega)
    rcases List.mem_or_eq_of_mem_set hx with hx | hx
    · exact n3 x hx
    · subst hx; exact ⟨by simpa using g1, g2⟩
  split
  · obtain ⟨r12, hr12, hc12, h120, h121⟩ := pick_ok (e.Runs.length : Int) hc2 (by omega)
    obtain ⟨r13, hr13, hc13, _⟩ := amongw_ok ([0, 60, 61, (-1)] : List Int) (by simp) hc12 (by omega)
    obtain ⟨e6, he6, _⟩ := idx_lt (l := e.Runs) (i := r12.1) h120 (by omega)
    simp only [hr12, hr13, he6, Option.bind_some, flb_go]
    refine fin _ _ _ _ _ _ _ (hc13.mono (by omega)) (by omega) (by simp) (fun x hx => ?_) (by simp; omega)
    rcases List.mem_or_eq_of_mem_set hx with hx | hx
    · exact n3 x hx
    · subst hx; exact ⟨g1, by simpa using g2⟩
  split
  · have hch : chk (e.Runs.length + ([3] : List Int).length ≤ 4294967296) = some () := chk_of (by simp; omega)
    simp only [hch, Option.bind_some, flb_go]
    exact fin _ _ _ _ _ _ _ (hc2.mono (by omega)) (by omega) rfl n3 (by simp; omega)
  split
  · simp only [flb_ret]
    exact ⟨_, rfl, hc2.mono (by omega), by show r.1.Stops.length ≤ _; omega, by simp, by simp⟩
  split
  · have loop : ∃ b, iter (s_l1Cur_anyNetwork_L1 r) (0, r2.2.code_, r2.2.at_, r2.2.seed_.v, r.1.Lines) = some b ∧ (Cur (k + 900) ⟨b.1, b.2.1, ⟨b.2.2.1⟩⟩ ∧ b.2.2.2.length ≤ 20 ∧ ∀ x ∈ b.2.2.2, LB x) := by
      refine iter_rule (fun m a => ∃ i : Nat, a.1 = (i : Int) ∧ m + i = 8 ∧ i ≤ 7 ∧ a.2.2.2.2.length ≤ 8 + i ∧ (∀ x ∈ a.2.2.2.2, LB x) ∧ Cur (k + 310 + 50 * i) ⟨a.2.1, a.2.2.1, ⟨a.2.2.2.1⟩⟩) _ ?_ (k := 8) ⟨0, rfl, rfl, by omega, by simpa using n2.2, n3, hc2.mono (by omega)⟩
      rintro m ⟨v7, v8, v9, v10, v11⟩ ⟨i, hi, hm, hi7, hl, hlb, hcur⟩
      simp only at hi hl hlb hcur
      subst hi
      unfold s_l1Cur_anyNetwork_L1
      obtain ⟨r16, hr16, hc16, h160, h161⟩ := pick_ok 2 hcur (by omega)
      have w1 : w64 (5 + r16.1) = 5 + r16.1 := w64_id (by omega)
      simp only [hr16, w1, Option.bind_some]
      by_cases a1 : (v11.length : Int) < 5 + r16.1 ∧ (i : Int) < 7
      · left
        have d1 : decide ((v11.length : Int) < 5 + r16.1) = true := by simp; omega
        have d2 : decide ((i : Int) < 7) = true := by simp; omega
        obtain ⟨r19, hr19, hs19⟩ := l1Num_ok (i : Int) (by omega) (by omega)
        have hs : (str [120]).size = 1 := rfl
        have hch : chk ((str [120]).size + r19.size ≤ 4294967296) = some () := chk_of (by omega)
        obtain ⟨r20, hr20, hc20, hb20⟩ := line_ok (str [120] ++ r19) (r.1.Stops.length : Int) (by omega) hc16 (by omega)
        have hch2 : ∀ y : Line, chk (v11.length + ([y] : List Line).length ≤ 4294967296) = some () := fun y => chk_of (by simp; omega)
        refine ⟨_, m - 1, by simp only [d1, d2, if_true, hr19, hch, hr20, hch2, Option.bind_some, w64_succ (n := i) (by omega)]; rfl, by omega, i + 1, rfl, by omega, by omega, ?_, fun x hx => ?_, ?_⟩
        · simp; omega
        · rcases List.mem_append.1 hx with hx | hx
          · exact hlb x hx
          · simp at hx; subst hx; exact hb20
        · exact hc20.mono (by omega)
      · right
        have hcond : (if decide ((v11.length : Int) < 5 + r16.1) = true then some (decide ((i : Int) < 7)) else some false) = some false := by
          by_cases b1 : (v11.length : Int) < 5 + r16.1
          · have : decide ((i : Int) < 7) = false := by simp; omega
            simp [b1, this]
          · simp [b1]
        refine ⟨_, by simp only [hcond, Option.bind_some, Bool.false_eq_true, if_false]; rfl, ?_, ?_, hlb⟩
        · exact hc16.mono (by omega)
        · show v11.length ≤ 20; omega
    obtain ⟨⟨v13, v14, v15, v16⟩, hb, hcb, hlb, hall⟩ := loop
    simp only at hcb hlb hall
    rw [hb]
    simp only [Option.bind_some, flb_ret]
    refine ⟨_, rfl, hcb.mono (by omega), by show r.1.Stops.length ≤ _; omega, by show v16.length ≤ _; omega, fun x hx => ?_⟩
    have := hall x hx
    unfold LB at this; omega
  · simp only [flb_go]
    exact fin _ _ _ _ _ _ _ (hc2.mono (by omega)) (by omega) rfl n3 (by omega)

/-! Timetables: when they are valid. -/
def TB (t : Timetable) : Prop := Bd t.Network ∧ t.Trips.length ≤ 1000
def TripP (n : Network) (x : Trip) : Prop := (1 ≤ x.Id ∧ x.Id ≤ 999) ∧ ∃ l, idx n.Lines x.Line = some l ∧ (0 ≤ x.Start ∧ x.Start ≤ 1799) ∧ 0 ≤ x.Start + l.Runs.sum ∧ x.Start + l.Runs.sum ≤ 1799
def GoodT (t : Timetable) : Prop := Good t.Network ∧ t.Trips.length ≤ 12 ∧ (∀ (i : Nat) x, t.Trips[i]? = some x → TripP t.Network x) ∧ ∀ (i : Nat) a b, t.Trips[i]? = some a → t.Trips[i + 1]? = some b → a.Id < b.Id
noncomputable instance (t : Timetable) : Decidable (GoodT t) := Classical.propDecidable _
noncomputable instance (n : Network) (x : Trip) : Decidable (TripP n x) := Classical.propDecidable _
theorem time_eq (t : Int) : i_IsValidTime t = some (decide (0 ≤ t ∧ t ≤ 1799)) := by
  unfold i_IsValidTime; rw [within_eq]; rfl
theorem l4Time_eq (t : Int) : s_l4Time t = some (decide (0 ≤ t ∧ t ≤ 1799)) := by
  unfold s_l4Time; rw [l1In_eq]; rfl
theorem total_eq (l : List Int) (h1 : l.length ≤ 1000000) (h2 : ∀ x ∈ l, 0 ≤ x ∧ x ≤ 1000000) : i_total l = some l.sum := by
  unfold i_total
  rw [sum_loop (fun x : Int => x) l h1 h2 (fun i s x hx => ?_) (fun s => ?_)]
  · simp
  · have := get_lt hx
    unfold i_total_L1
    simp (disch := omega) only [if_pos, if_neg, decide_eq_true_eq, decide_true, decide_false, Bool.not_true, Bool.not_false, Bool.false_eq_true, Bool.not_eq_true', decide_eq_false_iff_not, if_true, if_false, w64_id, chk_of, idx_nat, Option.bind_some, Option.map_some, Int.toNat_natCast, not_true_eq_false, not_false_eq_true, true_and, and_true, and_self, false_and, and_false, reduceIte, flb_go, flb_ret, beq_self_eq_true, ne_eq, bne_self_eq_false, Int.ofNat_lt.2 this, hx]
  · unfold i_total_L1; simp
theorem l2Run_eq (x : Line) (a b : Nat) (hab : a ≤ b) (hb : b ≤ x.Runs.length) (hl : x.Runs.length ≤ 1000) (h2 : ∀ r ∈ x.Runs, 0 ≤ r ∧ r ≤ 1000000) : s_l2Run x (a : Int) (b : Int) = some (((x.Runs.take b).drop a).sum) := by
  unfold s_l2Run
  refine Tot.val (.call (P := fun v => v = ((x.Runs.take b).drop a).sum) ?_ fun v h => .ok h)
  refine .iter (fun m s => ∃ k : Nat, s.2 = ((a + k : Nat) : Int) ∧ m + k = b - a ∧ s.1 = (((x.Runs.take b).drop a).take k).sum) (n := b - a) ⟨0, by simp, by omega, by simp⟩ ?_
  rintro m ⟨s, v⟩ ⟨k, hk, hm, hs⟩
  simp only at hk hs
  subst hk
  unfold s_l2Run_L1
  refine .iteP (fun hc => ?_) (fun hc => .dn ?_)
  · obtain ⟨r, hr⟩ := get_ex (l := x.Runs) (i := a + k) (by omega)
    have hr2 : ((x.Runs.take b).drop a)[k]? = some r := by
      rw [List.getElem?_drop, List.getElem?_take_of_lt (by omega)]; exact hr
    have hb1 := h2 r (List.mem_of_getElem? hr)
    have hb2 := sum_bd (l := ((x.Runs.take b).drop a).take k) (M := 1000000) fun y hy => h2 y (List.mem_of_mem_take (List.mem_of_mem_drop (List.mem_of_mem_take hy)))
    have hlen : ((((x.Runs.take b).drop a).take k).length : Int) ≤ 1000 := by simp; omega
    rw [← hs] at hb2
    refine .eq (by rw [idx_nat]; exact hr) (.nx ⟨m - 1, by omega, k + 1, ?_, by omega, ?_⟩)
    · show w64 (((a + k : Nat) : Int) + 1) = _
      rw [w64_id (by omega)]; omega
    · show w64 (s + r) = _
      rw [w64_id (by omega), sum_take_succ hr2, hs]
  · rw [hs, List.take_of_length_le (by rw [List.length_drop, List.length_take]; omega)]
theorem good_line {n : Network} (h : Good n) {k : Int} {l : Line} (hl : idx n.Lines k = some l) : LineP n.Stops.length l := h.2.2.2.2 _ l (idx_some hl).2.2
theorem line_stop {st : Nat} {l : Line} (h : LineP st l) {j : Nat} {s : Int} (hs : l.Stops[j]? = some s) : 0 ≤ s ∧ s < (st : Int) := (h.2.2.1 j s hs).1
theorem line_runs {st : Nat} {l : Line} (h : LineP st l) : (l.Runs.length + 1 = l.Stops.length ∧ 1 ≤ l.Runs.length ∧ l.Runs.length ≤ 5) ∧ ∀ r ∈ l.Runs, 1 ≤ r ∧ r ≤ 60 := by
  obtain ⟨h1, h2, h3, h4⟩ := h
  refine ⟨by omega, fun r hr => ?_⟩
  obtain ⟨i, hi⟩ := List.getElem?_of_mem hr
  exact h4 i r hi
theorem runs_sum {st : Nat} {l : Line} (h : LineP st l) (k : Nat) : 0 ≤ (l.Runs.take k).sum ∧ (l.Runs.take k).sum ≤ 300 := by
  obtain ⟨⟨h1, h2, h3⟩, h4⟩ := line_runs h
  have := sum_bd (l := l.Runs.take k) (M := 60) fun x hx => by have := h4 x (List.mem_of_mem_take hx); omega
  have hl : ((l.Runs.take k).length : Int) ≤ 5 := by simp; omega
  omega
theorem runs_sum' {st : Nat} {l : Line} (h : LineP st l) : 0 ≤ l.Runs.sum ∧ l.Runs.sum ≤ 300 := by
  have := runs_sum h l.Runs.length
  rwa [List.take_length] at this
theorem endOf_eq {t : Timetable} (hg : Good t.Network) {x : Trip} {l : Line} (hl : idx t.Network.Lines x.Line = some l) (hs : 0 ≤ x.Start ∧ x.Start ≤ 1799) : i_endOf t x = some (x.Start + l.Runs.sum) := by
  have h := good_line hg hl
  obtain ⟨⟨h1, h2, h3⟩, h4⟩ := line_runs h
  have h5 := runs_sum' h
  unfold i_endOf
  rw [hl]
  simp only [Option.bind_some]
  rw [total_eq l.Runs (by omega) (fun x hx => by have := h4 x hx; omega)]
  simp (disch := omega) only [if_pos, if_neg, decide_eq_true_eq, decide_true, decide_false, Bool.not_true, Bool.not_false, Bool.false_eq_true, Bool.not_eq_true', decide_eq_false_iff_not, if_true, if_false, w64_id, chk_of, idx_nat, Option.bind_some, Option.map_some, Int.toNat_natCast, not_true_eq_false, not_false_eq_true, true_and, and_true, and_self, false_and, and_false, reduceIte, flb_go, flb_ret, beq_self_eq_true, ne_eq, bne_self_eq_false]
theorem l5Line_eq {t : Timetable} {i : Nat} {x : Trip} {l : Line} (hx : t.Trips[i]? = some x) (hl : idx t.Network.Lines x.Line = some l) : s_l5Line t (i : Int) = some l := by
  unfold s_l5Line
  simp (disch := omega) only [if_pos, if_neg, decide_eq_true_eq, decide_true, decide_false, Bool.not_true, Bool.not_false, Bool.false_eq_true, Bool.not_eq_true', decide_eq_false_iff_not, if_true, if_false, w64_id, chk_of, idx_nat, Option.bind_some, Option.map_some, Int.toNat_natCast, not_true_eq_false, not_false_eq_true, true_and, and_true, and_self, false_and, and_false, reduceIte, flb_go, flb_ret, beq_self_eq_true, ne_eq, bne_self_eq_false, hx, hl]
theorem l5Stops_eq {t : Timetable} {i : Nat} {x : Trip} {l : Line} (hx : t.Trips[i]? = some x) (hl : idx t.Network.Lines x.Line = some l) : s_l5Stops t (i : Int) = some l.Stops := by
  unfold s_l5Stops
  rw [l5Line_eq hx hl]; rfl
theorem l5At_eq {t : Timetable} (hg : Good t.Network) {i : Nat} {x : Trip} {l : Line} (hx : t.Trips[i]? = some x) (hl : idx t.Network.Lines x.Line = some l) (hs : 0 ≤ x.Start ∧ x.Start ≤ 1799) {k : Nat} (hk : k ≤ l.Runs.length) : s_l5At t (i : Int) (k : Int) = some (x.Start + (l.Runs.take k).sum) := by
  have h := good_line hg hl
  obtain ⟨⟨h1, h2, h3⟩, h4⟩ := line_runs h
  have h5 := runs_sum h k
  have e := l2Run_eq l 0 k (by omega) hk (by omega) (fun x hx => by have := h4 x hx; omega)
  rw [List.drop_zero] at e
  have e' : s_l2Run l 0 (k : Int) = some (l.Runs.take k).sum := e
  unfold s_l5At
  simp (disch := omega) only [if_pos, if_neg, decide_eq_true_eq, decide_true, decide_false, Bool.not_true, Bool.not_false, Bool.false_eq_true, Bool.not_eq_true', decide_eq_false_iff_not, if_true, if_false, w64_id, chk_of, idx_nat, Option.bind_some, Option.map_some, Int.toNat_natCast, not_true_eq_false, not_false_eq_true, true_and, and_true, and_self, false_and, and_false, reduceIte, flb_go, flb_ret, beq_self_eq_true, ne_eq, bne_self_eq_false, hx, l5Line_eq hx hl, e']
theorem l5End_eq {t : Timetable} (hg : Good t.Network) {i : Nat} {x : Trip} {l : Line} (hx : t.Trips[i]? = some x) (hl : idx t.Network.Lines x.Line = some l) (hs : 0 ≤ x.Start ∧ x.Start ≤ 1799) : s_l5End t (i : Int) = some (x.Start + l.Runs.sum) := by
  have h := good_line hg hl
  obtain ⟨⟨h1, h2, h3⟩, h4⟩ := line_runs h
  have e : w64 ((l.Stops.length : Int) - 1) = (l.Runs.length : Int) := by rw [w64_id (by omega)]; omega
  unfold s_l5End
  rw [l5Stops_eq hx hl]
  simp only [Option.bind_some, e, l5At_eq hg hx hl hs (Nat.le_refl _), List.take_length]
def TripsP (t : Timetable) : Prop := (∀ (i : Nat) x, t.Trips[i]? = some x → TripP t.Network x) ∧ ∀ (i : Nat) a b, t.Trips[i]? = some a → t.Trips[i + 1]? = some b → a.Id < b.Id
noncomputable instance (t : Timetable) : Decidable (TripsP t) := Classical.propDecidable _
/-- One trip's check in the program. -/
theorem trip_i {t : Timetable} (hb : TB t) (hg : Good t.Network) (x : Trip) (last : Int) (hlast : 0 ≤ last) : ((if (decide (x.Id ≤ last)) = true then some true else if (decide (999 < x.Id)) = true then some true else (i_isLine t.Network x.Line).bind fun r =>
      if (!r) = true then some true else (i_IsValidTime x.Start).bind fun r1 =>
      if (!r1) = true then some true else (i_endOf t x).bind fun r2 =>
      (i_IsValidTime r2).bind fun r3 =>
      some (!r3))) = some (!decide (last < x.Id ∧ TripP t.Network x)) := by
  by_cases c1 : x.Id ≤ last
  · have : ¬ (last < x.Id ∧ TripP t.Network x) := fun h => by omega
    simp [c1, this]
  · by_cases c2 : 999 < x.Id
    · have : ¬ (last < x.Id ∧ TripP t.Network x) := fun h => by have := h.2.1; omega
      simp [c1, c2, this]
    · simp only [isLine_eq, time_eq, Option.bind_some, c1, c2, decide_false, Bool.false_eq_true, if_false]
      by_cases c3 : 0 ≤ x.Line ∧ x.Line < (t.Network.Lines.length : Int)
      · obtain ⟨l, hl, _⟩ := idx_lt (l := t.Network.Lines) c3.1 c3.2
        by_cases c4 : 0 ≤ x.Start ∧ x.Start ≤ 1799
        · have hT : (last < x.Id ∧ TripP t.Network x) ↔ (0 ≤ x.Start + l.Runs.sum ∧ x.Start + l.Runs.sum ≤ 1799) := by
            constructor
            · rintro ⟨_, _, l', hl', _, h⟩
              rw [hl] at hl'; cases hl'; exact h
            · intro h; exact ⟨by omega, ⟨by omega, by omega⟩, l, hl, c4, h⟩
          simp only [c3, c4, and_self, decide_true, Bool.not_true, Bool.false_eq_true, if_false, endOf_eq hg hl c4, time_eq, Option.bind_some, hT]
        · have : ¬ (last < x.Id ∧ TripP t.Network x) := fun h => by
            obtain ⟨_, _, l', _, h4, _⟩ := h
            exact c4 h4
          simp only [c3, c4, this, and_self, decide_true, decide_false, Bool.not_true, Bool.not_false, Bool.false_eq_true, if_false, if_true]
      · have : ¬ (last < x.Id ∧ TripP t.Network x) := fun h => by
          obtain ⟨_, _, l', hl', _⟩ := h
          have := idx_some hl'
          exact c3 ⟨this.1, this.2.1⟩
        simp only [c3, this, decide_false, Bool.not_false, if_true]
theorem areTrips_eq {t : Timetable} (hb : TB t) (hg : Good t.Network) : i_areTrips t = some (decide (t.Trips.length ≤ 12 ∧ TripsP t)) := by
  unfold i_areTrips
  by_cases h12 : t.Trips.length ≤ 12
  · have d : decide ((12 : Int) < (t.Trips.length : Int)) = false := by simp; omega
    have e : decide (t.Trips.length ≤ 12 ∧ TripsP t) = decide (TripsP t) := by simp [h12]
    rw [d, e]
    simp only [Bool.false_eq_true, if_false]
    refine flb_dec (.iter (fun m a => ∃ i : Nat, a.2 = (i : Int) ∧ m + i = t.Trips.length ∧ 0 ≤ a.1 ∧ (∀ y, 0 < i → t.Trips[i - 1]? = some y → a.1 = y.Id) ∧ (i = 0 → a.1 = 0) ∧ (∀ (j : Nat) x, j < i → t.Trips[j]? = some x → TripP t.Network x) ∧ ∀ (j : Nat) a b, j + 1 < i → t.Trips[j]? = some a → t.Trips[j + 1]? = some b → a.Id < b.Id)
      (n := t.Trips.length) ⟨0, rfl, rfl, by simp, by simp, by simp, fun j x h => by omega, fun j a b h => by omega⟩ ?_)
    rintro m ⟨last, v⟩ ⟨i, hv, hm, h0, h1, h2, h3, h4⟩
    simp only at hv h0 h1 h2
    subst hv
    unfold i_areTrips_L1
    refine .iteP (fun hc => ?_) (fun hc => .dn (.inl ⟨rfl, fun j x hx => h3 j x (by have := get_lt hx; omega) hx, fun j a b ha hb' => h4 j a b (by have := get_lt hb'; omega) ha hb'⟩))
    obtain ⟨x, hx⟩ := get_ex (l := t.Trips) (i := i) (by omega)
    refine .eq (by rw [idx_nat]; exact hx) (.eq (trip_i hb hg x last h0) (.iteN (fun hn => .dn (.inr ⟨rfl, fun hp => hn ⟨?_, hp.1 i x hx⟩⟩)) (fun hp => .nx ⟨m - 1, by omega, i + 1, w64_succ (by omega), by omega, ?_, ?_, by simp, ?_, ?_⟩)))
    · by_cases hi : i = 0
      · rw [h2 hi]; have := (hp.1 i x hx).1; omega
      · obtain ⟨y, hy⟩ := get_ex (l := t.Trips) (i := i - 1) (by omega)
        rw [h1 y (by omega) hy]
        exact hp.2 (i - 1) y x hy (by rw [show i - 1 + 1 = i by omega]; exact hx)
    · show 0 ≤ x.Id
      have := hp.2.1; omega
    · intro y _ hy
      rw [show i + 1 - 1 = i by omega, hx] at hy; cases hy; rfl
    · intro j y hj hy
      by_cases hji : j = i
      · subst hji; rw [hx] at hy; cases hy; exact hp.2
      · exact h3 j y (by omega) hy
    · intro j a b hj ha hb'
      by_cases hji : j + 1 = i
      · subst hji; rw [hx] at hb'; cases hb'
        have := h1 a (by omega) (by simpa using ha)
        omega
      · exact h4 j a b (by omega) ha hb'
  · have d : decide ((12 : Int) < (t.Trips.length : Int)) = true := by simp; omega
    simp [d, h12]
/-- A trip is as it should be, and behind the one before it. -/
def TripQ (t : Timetable) (i : Nat) (x : Trip) : Prop := TripP t.Network x ∧ ∀ y, 0 < i → t.Trips[i - 1]? = some y → y.Id < x.Id
noncomputable instance (t : Timetable) (i : Nat) (x : Trip) : Decidable (TripQ t i x) := Classical.propDecidable _
theorem goodT_iff (t : Timetable) : GoodT t ↔ Good t.Network ∧ t.Trips.length ≤ 12 ∧ TripsP t := Iff.rfl
theorem validT_eq {t : Timetable} (hb : TB t) : i_IsValidTimetable t = some (decide (GoodT t)) := by
  unfold i_IsValidTimetable
  rw [valid_eq _ hb.1]
  by_cases hg : Good t.Network
  · simp only [hg, decide_true, if_true, Option.bind_some, areTrips_eq hb hg, goodT_iff, true_and]
  · have : ¬ GoodT t := fun h => hg h.1
    simp [hg, this]
theorem goodT_eq {t : Timetable} (hb : TB t) : s_l5Good t = some (decide (GoodT t)) := by
  unfold s_l5Good
  rw [good_eq _ hb.1]
  by_cases hg : Good t.Network
  · by_cases h12 : t.Trips.length ≤ 12
    · have d : decide ((12 : Int) < (t.Trips.length : Int)) = false := by simp; omega
      have e : decide (GoodT t) = decide (TripsP t) := by rw [decide_eq_decide, goodT_iff]; simp [hg, h12]
      simp only [hg, decide_true, Bool.not_true, Bool.false_eq_true, if_false, Option.bind_some, d, e]
      refine flb_dec (.iter (fun m a => ∃ i : Nat, a = (i : Int) ∧ m + i = t.Trips.length ∧ (∀ (j : Nat) x, j < i → t.Trips[j]? = some x → TripP t.Network x) ∧ ∀ (j : Nat) a b, j + 1 < i → t.Trips[j]? = some a → t.Trips[j + 1]? = some b → a.Id < b.Id)
        (n := t.Trips.length) ⟨0, rfl, rfl, fun j x h => by omega, fun j a b h => by omega⟩ ?_)
      rintro m v ⟨i, hv, hm, h3, h4⟩
      subst hv
      unfold s_l5Good_L1
      refine .iteP (fun hc => ?_) (fun hc => .dn (.inl ⟨rfl, fun j x hx => h3 j x (by have := get_lt hx; omega) hx, fun j a b ha hb' => h4 j a b (by have := get_lt hb'; omega) ha hb'⟩))
      obtain ⟨x, hx⟩ := get_ex (l := t.Trips) (i := i) (by omega)
      refine .eq (by rw [idx_nat]; exact hx) ?_
      have hll := hg.2.1
      have ew : w64 ((t.Network.Lines.length : Int) - 1) = (t.Network.Lines.length : Int) - 1 := w64_id (by omega)
      have key : ((s_l1In x.Id 1 999).bind fun r6 =>
      (if (!r6) = true then some true else (s_l1In x.Line 0 (w64 ((t.Network.Lines.length : Int) - 1))).bind fun r7 =>
      if (!r7) = true then some true else (s_l4Time x.Start).bind fun r8 =>
      if (!r8) = true then some true else (s_l5End t (i : Int)).bind fun r9 =>
      (s_l4Time r9).bind fun r10 =>
      if (!r10) = true then some true else if (decide (0 < (i : Int))) = true then (idx t.Trips (w64 ((i : Int) - 1))).bind fun e2 =>
      some (decide (x.Id ≤ e2.Id)) else some false)) = some (!decide (TripQ t i x)) := by
        have no : ¬ TripP t.Network x → (!decide (TripQ t i x)) = true := fun h => (by simp [show ¬ TripQ t i x from fun q => h q.1])
        simp only [l1In_eq, l4Time_eq, ew, Option.bind_some]
        by_cases c1 : 1 ≤ x.Id ∧ x.Id ≤ 999
        · by_cases c3 : 0 ≤ x.Line ∧ x.Line ≤ (t.Network.Lines.length : Int) - 1
          · obtain ⟨l, hl, _⟩ := idx_lt (l := t.Network.Lines) c3.1 (by omega)
            by_cases c4 : 0 ≤ x.Start ∧ x.Start ≤ 1799
            · simp only [c1, c3, c4, and_self, decide_true, Bool.not_true, Bool.false_eq_true, if_false, l5End_eq hg hx hl c4, l4Time_eq, Option.bind_some]
              by_cases c5 : 0 ≤ x.Start + l.Runs.sum ∧ x.Start + l.Runs.sum ≤ 1799
              · have hT : TripP t.Network x := ⟨c1, l, hl, c4, c5⟩
                simp only [c5, and_self, decide_true, Bool.not_true, Bool.false_eq_true, if_false, ]
                by_cases c6 : 0 < i
                · obtain ⟨y, hy⟩ := get_ex (l := t.Trips) (i := i - 1) (by omega)
                  have e1 : w64 ((i : Int) - 1) = ((i - 1 : Nat) : Int) := by rw [w64_id (by omega)]; omega
                  have c6' : (0 : Int) < (i : Int) := by omega
                  simp only [c6', decide_true, if_true, e1, idx_nat, hy, Option.bind_some, Option.some.injEq]
                  by_cases c7 : x.Id ≤ y.Id
                  · have : ¬ TripQ t i x := fun h => by have := h.2 y c6 hy; omega
                    simp only [c7, decide_true, this, decide_false, Bool.not_false]
                  · have : TripQ t i x := ⟨hT, fun z _ hz => by rw [hy] at hz; cases hz; omega⟩
                    simp only [c7, decide_false, this, decide_true, Bool.not_true]
                · have c6' : ¬ (0 : Int) < (i : Int) := by omega
                  have : TripQ t i x := ⟨hT, fun z h0 _ => absurd h0 c6⟩
                  simp only [c6', decide_false, Bool.false_eq_true, if_false, this, decide_true, Bool.not_true]
              · rw [no (fun hT => by
                  obtain ⟨_, l', hl', _, h⟩ := hT
                  rw [hl] at hl'; cases hl'; exact c5 h)]
                simp only [c5, decide_false, Bool.not_false, if_true]
            · rw [no (fun hT => by obtain ⟨_, l', _, h, _⟩ := hT; exact c4 h)]
              simp only [c1, c3, c4, and_self, decide_true, decide_false, Bool.not_true, Bool.not_false, Bool.false_eq_true, if_false, if_true]
          · rw [no (fun hT => by
              obtain ⟨_, l', hl', _⟩ := hT
              have := idx_some hl'
              exact c3 ⟨this.1, by omega⟩)]
            simp only [c1, c3, and_self, decide_true, decide_false, Bool.not_true, Bool.not_false, Bool.false_eq_true, if_false, if_true]
        · rw [no (fun hT => c1 hT.1)]
          simp only [c1, decide_false, Bool.not_false, if_true]
      rw [bind_assoc', key]
      refine .iteN (fun hn => .dn (.inr ⟨rfl, fun hp => hn ⟨hp.1 i x hx, fun y hi hy => hp.2 (i - 1) y x hy (by rw [show i - 1 + 1 = i by omega]; exact hx)⟩⟩)) (fun hp => .nx ⟨m - 1, by omega, i + 1, w64_succ (by omega), by omega, ?_, ?_⟩)
      · intro j y hj hy
        by_cases hji : j = i
        · subst hji; rw [hx] at hy; cases hy; exact hp.1
        · exact h3 j y (by omega) hy
      · intro j a b hj ha hb'
        by_cases hji : j + 1 = i
        · subst hji; rw [hx] at hb'; cases hb'
          exact hp.2 a (by omega) (by simpa using ha)
        · exact h4 j a b (by omega) ha hb'
    · have d : decide ((12 : Int) < (t.Trips.length : Int)) = true := by simp; omega
      have : ¬ GoodT t := fun h => h12 h.2.1
      simp [hg, d, this]
  · have : ¬ GoodT t := fun h => hg h.1
    simp [hg, this]
/-! Timetables: what is looked up; stop times; draws. -/
theorem tripIndex_eq (t : Timetable) (h : t.Trips.length ≤ 1000) (id : Int) : i_tripIndex t id = some (fixI (fun x => x.Id == id) t.Trips) := by
  unfold i_tripIndex slices_IndexFunc_Trip__i_tripIndex_1 slices_IndexFunc_Trip
  rw [find_val t.Trips (fun x => x.Id == id) (fun i x hx => ?_) (by unfold slices_IndexFunc_Trip_L1; simp)]
  · rfl
  · have := get_lt hx
    unfold slices_IndexFunc_Trip_L1 i_tripIndex_1
    simp (disch := omega) only [if_pos, if_neg, decide_eq_true_eq, decide_true, decide_false, Bool.not_true, Bool.not_false, Bool.false_eq_true, Bool.not_eq_true', decide_eq_false_iff_not, if_true, if_false, w64_id, chk_of, idx_nat, Option.bind_some, Option.map_some, Int.toNat_natCast, not_true_eq_false, not_false_eq_true, true_and, and_true, and_self, false_and, and_false, reduceIte, flb_go, flb_ret, beq_self_eq_true, ne_eq, bne_self_eq_false, hx, Int.ofNat_lt.2 this]
    split <;> simp [*] <;> omega
theorem l5Find_eq (t : Timetable) (h : t.Trips.length ≤ 1000) (id : Int) : s_l5Find t id = some (fixI (fun x => x.Id == id) t.Trips) := by
  unfold s_l5Find
  rw [find_val t.Trips (fun x => x.Id == id) (fun i x hx => ?_) (by unfold s_l5Find_L1; simp)]
  have := get_lt hx
  unfold s_l5Find_L1
  simp (disch := omega) only [if_pos, if_neg, decide_eq_true_eq, decide_true, decide_false, Bool.not_true, Bool.not_false, Bool.false_eq_true, Bool.not_eq_true', decide_eq_false_iff_not, if_true, if_false, w64_id, chk_of, idx_nat, Option.bind_some, Option.map_some, Int.toNat_natCast, not_true_eq_false, not_false_eq_true, true_and, and_true, and_self, false_and, and_false, reduceIte, flb_go, flb_ret, beq_self_eq_true, ne_eq, bne_self_eq_false, hx, Int.ofNat_lt.2 this]
  split <;> simp [*] <;> omega
theorem lineOf_eq {t : Timetable} {x : Trip} {l : Line} (hl : idx t.Network.Lines x.Line = some l) : i_lineOf t x = some l := by
  unfold i_lineOf; rw [hl]; rfl
/-- A valid timetable's trip, with its line. -/
theorem trip_line {t : Timetable} (h : GoodT t) {i : Nat} {x : Trip} (hx : t.Trips[i]? = some x) : ∃ l, idx t.Network.Lines x.Line = some l ∧ LineP t.Network.Stops.length l ∧ (1 ≤ x.Id ∧ x.Id ≤ 999) ∧ (0 ≤ x.Start ∧ x.Start ≤ 1799) ∧ 0 ≤ x.Start + l.Runs.sum ∧ x.Start + l.Runs.sum ≤ 1799 := by
  obtain ⟨h1, l, hl, h2, h3⟩ := h.2.2.1 i x hx
  exact ⟨l, hl, good_line h.1 hl, h1, h2, h3⟩
theorem ids_lt {t : Timetable} (h : GoodT t) {i j : Nat} {a b : Trip} (hij : i < j) (ha : t.Trips[i]? = some a) (hb : t.Trips[j]? = some b) : a.Id < b.Id := by
  induction j generalizing b with
  | zero => omega
  | succ j ih =>
    obtain ⟨c, hc⟩ := get_ex (l := t.Trips) (i := j) (by have := get_lt hb; omega)
    have h1 := h.2.2.2 j c b hc hb
    by_cases hji : i = j
    · subst hji; rw [ha] at hc; cases hc; exact h1
    · have := ih (by omega) hc; omega
/-- A trip is found by its Id. -/
theorem trip_fix {t : Timetable} (h : GoodT t) {i : Nat} {x : Trip} (hx : t.Trips[i]? = some x) : fixI (fun y => y.Id == x.Id) t.Trips = (i : Int) := by
  refine fixI_of hx (by simp) fun j y hj hy => ?_
  have := ids_lt h hj hy hx
  simp; omega
/-- The stop times. -/
def ST (l : Line) (s : Int) : List Int := (List.range (l.Runs.length + 1)).map fun k => s + (l.Runs.take k).sum
theorem ST_len (l : Line) (s : Int) : (ST l s).length = l.Runs.length + 1 := by simp [ST]
theorem ST_at {l : Line} {s : Int} {k : Nat} (hk : k ≤ l.Runs.length) : (ST l s)[k]? = some (s + (l.Runs.take k).sum) := by
  unfold ST; rw [List.getElem?_map, List.getElem?_range (by omega)]; rfl
theorem stopTimes_eq {t : Timetable} {x : Trip} {l : Line} {st : Nat} (hl : idx t.Network.Lines x.Line = some l) (hp : LineP st l) (hs : 0 ≤ x.Start ∧ x.Start ≤ 1799) : i_stopTimes t x = some (ST l x.Start) := by
  obtain ⟨⟨h1, h2, h3⟩, h4⟩ := line_runs hp
  unfold i_stopTimes
  rw [lineOf_eq hl]
  simp only [Option.bind_some]
  refine Tot.val (.call (P := fun v => v = ST l x.Start) ?_ fun v h => .ok h)
  refine .iter (fun m s => ∃ k : Nat, s.1 = (k : Int) ∧ m + k = l.Runs.length ∧ s.2 = (ST l x.Start).take (k + 1)) (n := l.Runs.length) ⟨0, rfl, rfl, ?_⟩ ?_
  · rw [take_succ (x := x.Start) (by have := ST_at (l := l) (s := x.Start) (k := 0) (by omega); simpa using this)]; rfl
  · rintro m ⟨v, r⟩ ⟨k, hk, hm, hr⟩
    simp only at hk hr
    subst hk
    unfold i_stopTimes_L1
    have hlen := ST_len l x.Start
    refine .iteP (fun hc => ?_) (fun hc => .dn (by rw [hr, List.take_of_length_le (by omega)]))
    obtain ⟨e, he⟩ := get_ex (l := l.Runs) (i := k) (by omega)
    have hk1 := ST_at (l := l) (s := x.Start) (k := k) (by omega)
    have hk2 := ST_at (l := l) (s := x.Start) (k := k + 1) (by omega)
    have b1 := runs_sum hp k
    have b2 := h4 e (List.mem_of_getElem? he)
    refine .eq (by rw [idx_nat]; exact he) (.eq (by rw [idx_nat, hr, List.getElem?_take_of_lt (by omega)]; exact hk1) (.chk (by rw [hr]; simp; omega) (.nx ⟨m - 1, by omega, k + 1, w64_succ (by omega), by omega, ?_⟩)))
    show r ++ [w64 (x.Start + (l.Runs.take k).sum + e)] = _
    rw [take_succ hk2, hr, w64_id (by omega), sum_take_succ he, Int.add_assoc]

/-- A trip that is there, found by its Id. -/
theorem find_trip {t : Timetable} (hb : TB t) (hT : GoodT t) {k : Nat} {y : Trip} (hy : t.Trips[k]? = some y) : i_tripIndex t y.Id = some (k : Int) ∧ s_l5Find t y.Id = some (k : Int) := by
  rw [tripIndex_eq t hb.2, l5Find_eq t hb.2, trip_fix hT hy]
  exact ⟨rfl, rfl⟩
theorem tripWith_eq {t : Timetable} (hb : TB t) (hT : GoodT t) {k : Nat} {y : Trip} (hy : t.Trips[k]? = some y) : i_tripWith t y.Id = some y := by
  unfold i_tripWith
  rw [(find_trip hb hT hy).1]
  simp (disch := omega) only [if_pos, if_neg, decide_eq_true_eq, decide_true, decide_false, Bool.not_true, Bool.not_false, Bool.false_eq_true, Bool.not_eq_true', decide_eq_false_iff_not, if_true, if_false, w64_id, chk_of, idx_nat, Option.bind_some, Option.map_some, Int.toNat_natCast, not_true_eq_false, not_false_eq_true, true_and, and_true, and_self, false_and, and_false, reduceIte, flb_go, flb_ret, beq_self_eq_true, ne_eq, bne_self_eq_false, hy]
theorem found_or {t : Timetable} (id : Int) : (fixI (fun x => x.Id == id) t.Trips < 0 ∧ ∀ (k : Nat) y, t.Trips[k]? = some y → y.Id ≠ id) ∨ ∃ (k : Nat) (y : Trip), t.Trips[k]? = some y ∧ y.Id = id := by
  by_cases h : fixI (fun x => x.Id == id) t.Trips < 0
  · refine .inl ⟨h, fun k y hy => ?_⟩
    have := fixI_neg h y (List.mem_of_getElem? hy)
    simpa using this
  · obtain ⟨k, y, _, h2, h3, _⟩ := idx_fix h
    exact .inr ⟨k, y, h2, by simpa using h3⟩
theorem StopTimes_eq {t : Timetable} (hb : TB t) (hT : GoodT t) {i : Nat} {x : Trip} {l : Line} (hx : t.Trips[i]? = some x) (hl : idx t.Network.Lines x.Line = some l) : i_StopTimes t x.Id = some (ST l x.Start, true) := by
  obtain ⟨l', hl', hp, _, hs, _⟩ := trip_line hT hx
  rw [hl] at hl'; cases hl'
  have c1 : ¬ ((i : Int) < 0) := by omega
  unfold i_StopTimes
  simp only [validT_eq hb, hT, decide_true, Bool.not_true, Bool.false_eq_true, if_false, Option.bind_some, tripIndex_eq t hb.2, trip_fix hT hx, c1, decide_false, idx_nat, hx, stopTimes_eq hl hp hs]

/-! Draws -/
theorem network_ok {k : Nat} {c : l1Cur} (h : Cur k c) (hk : k ≤ 500000000) : ∃ r, s_l1Cur_network c = some r ∧ Cur (k + 300) r.2 ∧ NB r.1 := networkT_ok h hk
theorem network_t_ok {k : Nat} {c : l1Cur} (h : Cur k c) (hk : k ≤ 500000000) : ∃ r, s_l1Cur_network_t c = some r ∧ Cur (k + 300) r.2 ∧ NB r.1 := networkT_ok h hk
theorem anyNet_ok {k : Nat} {c : l1Cur} (h : Cur k c) (hk : k ≤ 200000000) : Tot (s_l1Cur_anyNetwork c) fun r => Cur (k + 1000) r.2 ∧ Bd r.1 := anyNetwork_ok h hk
def DT (t : Timetable) : Prop := Bd t.Network ∧ t.Trips.length ≤ 30
theorem DT.tb {t : Timetable} (h : DT t) : TB t := ⟨h.1, by have := h.2; omega⟩
theorem timetable_ok {k : Nat} {c : l1Cur} (h : Cur k c) (hk : k ≤ 100000000) : Tot (s_l1Cur_timetable c) fun r => Cur (k + 400) r.2 ∧ DT r.1 ∧ NB r.1.Network ∧ r.1.Trips.length ≤ 8 := by
  unfold s_l1Cur_timetable
  refine .call (networkT_ok h (by omega)) fun r ⟨hc, hn⟩ => .call (pick_ok 8 hc (by omega)) fun r1 ⟨hc1, h0, h1⟩ => ?_
  refine .call (P := fun o => Cur (k + 400) ⟨o.1, o.2.1, ⟨o.2.2.1⟩⟩ ∧ o.2.2.2.length ≤ 8) ?_ fun o ⟨ho1, ho2⟩ => .ok ⟨ho1, ⟨hn.bd, by show o.2.2.2.length ≤ 30; omega⟩, hn, ho2⟩
  refine .iter (fun m s => s.2.1 = (m : Int) ∧ m + s.2.2.2.2.2.length ≤ 8 ∧ Cur (k + 302 + 6 * (8 - m)) ⟨s.2.2.1, s.2.2.2.1, ⟨s.2.2.2.2.1⟩⟩) (n := r1.1.toNat) ⟨by show r1.1 = _; omega, by show r1.1.toNat + 0 ≤ 8; omega, hc1.mono (by omega)⟩ ?_
  rintro m ⟨n, v, v1, v2, v3, v4⟩ ⟨hv, hl, hcur⟩
  simp only at hv hl hcur
  subst hv
  unfold s_l1Cur_timetable_L1
  refine .iteP (fun hc => ?_) (fun hc => .dn ⟨hcur.mono (by omega), by show v4.length ≤ 8; omega⟩)
  refine .call (pick_ok 3 hcur (by omega)) fun r2 ⟨hc2, _⟩ => .call (pick_ok _ hc2 (by omega)) fun r5 ⟨hc5, _⟩ => .call (pick_ok 24 hc5 (by omega)) fun r6 ⟨hc6, _⟩ => .chk (by simp; omega) (.nx ⟨m - 1, by omega, ?_, ?_, ?_⟩)
  · show w64 ((m : Int) - 1) = _; rw [w64_id (by omega)]; omega
  · show m - 1 + (v4 ++ [_]).length ≤ 8; simp; omega
  · exact hc6.mono (by omega)
theorem anyTimetable_ok {k : Nat} {c : l1Cur} (h : Cur k c) (hk : k ≤ 50000000) : Tot (s_l1Cur_anyTimetable c) fun r => Cur (k + 2000) r.2 ∧ DT r.1 := by
  unfold s_l1Cur_anyTimetable
  refine .call (timetable_ok h (by omega)) fun r ⟨hc, hd, hn, hl⟩ => ?_
  refine .ite (fun _ => .ok ⟨hc.mono (by omega), hd⟩) fun he => ?_
  have hpos : 0 < r.1.Trips.length := by
    have : (r.1.Trips.length : Int) ≠ 0 := by simpa using he
    omega
  refine .call (pick_ok _ hc (by omega)) fun r1 ⟨hc1, h10, h11⟩ => ?_
  have h12 : r1.1 < (r.1.Trips.length : Int) := by omega
  refine .idx h10 h12 fun e _ => ?_
  have fin : ∀ (v : List UInt8) (v1 v2 : Int) (v3 : List Line) (v4 v5 v6 : Int) (v7 : List ByteArray), Cur (k + 2000) ⟨v, v1, ⟨v2⟩⟩ → Bd ⟨v7, v3⟩ → Tot ((idx r.1.Trips r1.1).bind fun e2 => some ((⟨(⟨v7, v3⟩ : Network), (r.1.Trips.set r1.1.toNat (⟨v4, v5, v6⟩ : Trip))⟩ : Timetable), (⟨v, v1, (⟨v2⟩ : IK .u64)⟩ : l1Cur))) fun r => Cur (k + 2000) r.2 ∧ DT r.1 := fun v v1 v2 v3 v4 v5 v6 v7 q1 q2 =>
    .idx h10 h12 fun e2 _ => .ok ⟨q1, q2, by show (r.1.Trips.set _ _).length ≤ 30; rw [List.length_set]; omega⟩
  refine .flb (.call (pick_ok 24 hc1 (by omega)) fun r2 ⟨hc2, _⟩ => ?_)
  refine .ite (fun _ => .call (among_ok _ (by simp) hc2 (by omega)) fun r3 ⟨hc3, _⟩ => .go (fin _ _ _ _ _ _ _ _ (hc3.mono (by omega)) hd.1)) fun _ => ?_
  refine .ite (fun _ => .call (pick_ok 7 hc2 (by omega)) fun r3 ⟨hc3, _⟩ => .go (fin _ _ _ _ _ _ _ _ (hc3.mono (by omega)) hd.1)) fun _ => ?_
  refine .ite (fun _ => .call (among_ok _ (by simp) hc2 (by omega)) fun r3 ⟨hc3, _⟩ => .go (fin _ _ _ _ _ _ _ _ (hc3.mono (by omega)) hd.1)) fun _ => ?_
  refine .ite (fun _ => .call (anyNet_ok hc2 (by omega)) fun r3 ⟨hc3, hb⟩ => .go (fin _ _ _ _ _ _ _ _ (hc3.mono (by omega)) hb)) fun _ => ?_
  refine .ite (fun _ => ?_) fun _ => .go (fin _ _ _ _ _ _ _ _ (hc2.mono (by omega)) hd.1)
  refine .call (P := fun o => Cur (k + 2000) ⟨o.1, o.2.1, ⟨o.2.2.1⟩⟩ ∧ o.2.2.2.length ≤ 30) ?_ fun o ⟨ho1, ho2⟩ => .ret ⟨ho1, hd.1, ho2⟩
  refine .iter (fun m s => ∃ i : Nat, s.1 = (i : Int) ∧ m + i = 14 ∧ s.2.2.2.2.length ≤ 8 + i ∧ Cur (k + 500 + 2 * i) ⟨s.2.1, s.2.2.1, ⟨s.2.2.2.1⟩⟩) (n := 14) ⟨0, rfl, rfl, by simpa using hl, hc2.mono (by omega)⟩ ?_
  rintro m ⟨v8, v9, v10, v11, v12⟩ ⟨i, hv, hm, hl12, hcur⟩
  simp only at hv hl12 hcur
  subst hv
  unfold s_l1Cur_anyTimetable_L1
  refine .call (pick_ok 2 hcur (by omega)) fun r8 ⟨hc8, _⟩ => ?_
  refine .call (P := fun b => b = true → i < 14) (.ite (fun _ => .ok fun hb => by simp at hb; omega) fun _ => .ok fun hb => by cases hb) fun b hb => ?_
  refine .ite (fun ht => .chk (by simp; omega) (.nx ⟨m - 1, by have := hb ht; omega, i + 1, w64_succ (by omega), by have := hb ht; omega, ?_, hc8.mono (by omega)⟩)) (fun _ => .dn ⟨hc8.mono (by omega), by show v12.length ≤ 30; omega⟩)
  show (v12 ++ [_]).length ≤ 8 + (i + 1); simp; omega
theorem trips_ok {k : Nat} {c : l1Cur} (h : Cur k c) (hk : k ≤ 40000000) : Tot (s_l1Cur_trips c) fun r => Cur (k + 3000) r.2 ∧ DT r.1 := by
  unfold s_l1Cur_trips
  refine .call (one_ok 16 h (by omega)) fun r hc => ?_
  refine .ite (fun _ => .call (anyTimetable_ok hc (by omega)) fun r1 ⟨hc1, hd⟩ => .ok ⟨hc1.mono (by omega), hd⟩) fun _ => ?_
  refine .call (networkT_ok hc (by omega)) fun r2 ⟨hc2, hn⟩ => .call (pick_ok 6 hc2 (by omega)) fun r3 ⟨hc3, h30, h31⟩ => ?_
  refine .call (P := fun o => Cur (k + 3000) ⟨o.1, o.2.1, ⟨o.2.2.1⟩⟩ ∧ o.2.2.2.length ≤ 10) ?_ fun o ⟨ho1, ho2⟩ => ?_
  · refine .iter (fun m s => s.1 = (m : Int) ∧ m + s.2.2.2.2.length ≤ 10 ∧ Cur (k + 310 + 6 * (10 - m)) ⟨s.2.1, s.2.2.1, ⟨s.2.2.2.1⟩⟩) (n := 3 + r3.1.toNat) ⟨by show w64 (3 + r3.1) = _; rw [w64_id (by omega)]; omega, by show 3 + r3.1.toNat + 0 ≤ 10; omega, hc3.mono (by omega)⟩ ?_
    rintro m ⟨i, v, v1, v2, v3⟩ ⟨hv, hl, hcur⟩
    simp only at hv hl hcur
    subst hv
    unfold s_l1Cur_trips_L1
    refine .iteP (fun hc => ?_) (fun hc => .dn ⟨hcur.mono (by omega), by show v3.length ≤ 10; omega⟩)
    refine .call (pick_ok 2 hcur (by omega)) fun r7 ⟨hc7, _⟩ => .call (pick_ok _ hc7 (by omega)) fun r8 ⟨hc8, _⟩ => .call (pick_ok 16 hc8 (by omega)) fun r9 ⟨hc9, _⟩ => .chk (by simp; omega) (.nx ⟨m - 1, by omega, ?_, ?_, ?_⟩)
    · show w64 ((m : Int) - 1) = _; rw [w64_id (by omega)]; omega
    · show m - 1 + (v3 ++ [_]).length ≤ 10; simp; omega
    · exact hc9.mono (by omega)
  · refine .call (P := fun l => l.length ≤ 10) ?_ fun l hl => .ok ⟨ho1, hn.bd, by show l.length ≤ 30; omega⟩
    refine .iter (fun m s => ∃ i : Nat, s.1 = (i : Int) ∧ 1 ≤ i ∧ m + i = 11 ∧ s.2.length ≤ 10) (n := 10) ⟨1, rfl, by omega, by omega, ho2⟩ ?_
    rintro m ⟨x, v8⟩ ⟨i, hx, h1, hm, hl⟩
    simp only at hx hl
    subst hx
    unfold s_l1Cur_trips_L2
    refine .iteP (fun hc => ?_) (fun hc => .dn hl)
    have e1 : w64 ((i : Int) - 1) = (i : Int) - 1 := w64_id (by omega)
    refine .idx (by omega) hc fun e _ => ?_
    rw [e1]
    refine .idx (by omega) (by omega) fun e2 _ => ?_
    refine .call (P := fun _ => True) ?_ fun r11 _ => .idx (by omega) hc fun e3 _ => .nx ⟨m - 1, by omega, i + 1, w64_succ (by omega), by omega, by omega, by show (v8.set _ _).length ≤ 10; rw [List.length_set]; exact hl⟩
    unfold s_l1Most
    exact .ite (fun _ => .ok trivial) fun _ => .ok trivial
theorem idOf_ok {k : Nat} {c : l1Cur} (t : Timetable) (h : Cur k c) (hk : k ≤ 1000000000) : Tot (s_l1Cur_idOf c t) fun r => Cur (k + 4) r.2 := by
  unfold s_l1Cur_idOf
  refine .call (P := fun o => Cur (k + 2) ⟨o.2.1, o.2.2.1, ⟨o.2.2.2⟩⟩ ∧ (o.1 = false → 0 < t.Trips.length)) (.ite (fun _ => .ok ⟨h.mono (by omega), fun h => by cases h⟩) fun he => .call (one_ok 8 h (by omega)) fun r hc => .ok ⟨hc, fun _ => ?_⟩) fun o ⟨ho, hz⟩ => ?_
  · have : (t.Trips.length : Int) ≠ 0 := by simpa using he
    omega
  · refine .ite (fun _ => .call (pick_ok 30 ho (by omega)) fun r1 ⟨hc1, _⟩ => .ok (hc1.mono (by omega))) fun hf => ?_
    have := hz hf
    refine .call (pick_ok _ ho (by omega)) fun r3 ⟨hc3, h0, h1⟩ => .idx h0 (by omega) fun e _ => .ok (hc3.mono (by omega))
/-! Sorting: the helpers of the library's quicksort. -/
theorem fdivp {x : Int} (h : 0 ≤ x) (k : Nat) : x.fdiv (2 ^ k) = x / (2 ^ k : Nat) := by
  rw [Int.fdiv_eq_ediv_of_nonneg _ (by exact_mod_cast Nat.zero_le (2 ^ k))]
  simp
theorem pow_step {x y : Int} {v k : Nat} (h : y * (2 ^ v : Nat) ≤ x) (hy : 0 ≤ y) : y / (2 ^ k : Nat) * (2 ^ (v + k) : Nat) ≤ x := by
  have h1 : y / (2 ^ k : Nat) * (2 ^ k : Nat) ≤ y := Int.ediv_mul_le _ (by have := Nat.two_pow_pos k; omega)
  have h2 : y / (2 ^ k : Nat) * (2 ^ k : Nat) * (2 ^ v : Nat) ≤ y * (2 ^ v : Nat) := Int.mul_le_mul_of_nonneg_right h1 (Int.natCast_nonneg _)
  rw [Nat.add_comm, Nat.pow_add, Int.natCast_mul, ← Int.mul_assoc]
  omega
theorem len64_ok (x : IK .u64) (h0 : 0 ≤ x.v) (h1 : x.v < 8589934592) : Tot (math_bits_Len64 x) fun r => 0 ≤ r ∧ r ≤ 64 ∧ (1 ≤ x.v → ((2 ^ r.toNat : Nat) : Int) ≤ 2 * x.v) := by
  unfold math_bits_Len64
  refine Tot.call (P := fun (r : Int × Int) => 0 ≤ r.1 ∧ r.1 < 4294967296 ∧ (1 ≤ x.v → 1 ≤ r.1) ∧ 0 ≤ r.2 ∧ r.2 ≤ 32 ∧ r.1 * (2 ^ r.2.toNat : Nat) ≤ x.v) (.iteP (fun hc => Tot.chk (by decide) (.ok ?_)) (fun hc => .ok ⟨h0, by dsimp only; omega, fun h => h, Int.le_refl _, by dsimp only; omega, by simp⟩)) fun ⟨x1, v⟩ ⟨p1, p2, p3, p4, p5, p6⟩ => ?_
  · have e : ((2 ^ 32 : Nat) : Int) = 4294967296 := by decide
    have e2 : x.v.fdiv (2 ^ (min (32 : Int).toNat (IntKind.u64).bits)) = x.v / (2 ^ 32 : Nat) := fdivp h0 32
    simp only [e2]
    exact ⟨by omega, by omega, fun _ => by omega, by omega, by omega, Int.ediv_mul_le _ (by decide)⟩
  dsimp only at p1 p2 p3 p4 p5 p6 ⊢
  refine Tot.call (P := fun (r : Int × Int) => 0 ≤ r.1 ∧ r.1 < 65536 ∧ (1 ≤ x.v → 1 ≤ r.1) ∧ 0 ≤ r.2 ∧ r.2 ≤ 48 ∧ r.1 * (2 ^ r.2.toNat : Nat) ≤ x.v) (.iteP (fun hc => Tot.chk (by decide) (.ok ?_)) (fun hc => .ok ⟨p1, by dsimp only; omega, p3, p4, by dsimp only; omega, p6⟩)) fun ⟨x2, v1⟩ ⟨q1, q2, q3, q4, q5, q6⟩ => ?_
  · have e : ((2 ^ 16 : Nat) : Int) = 65536 := by decide
    have e2 : x1.fdiv (2 ^ (min (16 : Int).toNat (IntKind.u64).bits)) = x1 / (2 ^ 16 : Nat) := fdivp p1 16
    have e3 : w64 (v + 16) = v + 16 := w64_id (by omega)
    have e4 : (v + 16).toNat = v.toNat + 16 := by omega
    simp only [e2, e3, e4]
    exact ⟨by omega, by omega, fun _ => by omega, by omega, by omega, pow_step p6 p1⟩
  dsimp only at q1 q2 q3 q4 q5 q6 ⊢
  refine Tot.call (P := fun (r : Int × Int) => 0 ≤ r.1 ∧ r.1 < 256 ∧ (1 ≤ x.v → 1 ≤ r.1) ∧ 0 ≤ r.2 ∧ r.2 ≤ 56 ∧ r.1 * (2 ^ r.2.toNat : Nat) ≤ x.v) (.iteP (fun hc => Tot.chk (by decide) (.ok ?_)) (fun hc => .ok ⟨q1, by dsimp only; omega, q3, q4, by dsimp only; omega, q6⟩)) fun ⟨x3, v2⟩ ⟨r1, r2, r3, r4, r5, r6⟩ => ?_
  · have e : ((2 ^ 8 : Nat) : Int) = 256 := by decide
    have e2 : x2.fdiv (2 ^ (min (8 : Int).toNat (IntKind.u64).bits)) = x2 / (2 ^ 8 : Nat) := fdivp q1 8
    have e3 : w64 (v1 + 8) = v1 + 8 := w64_id (by omega)
    have e4 : (v1 + 8).toNat = v1.toNat + 8 := by omega
    simp only [e2, e3, e4]
    exact ⟨by omega, by omega, fun _ => by omega, by omega, by omega, pow_step q6 q1⟩
  dsimp only at r1 r2 r3 r4 r5 r6 ⊢
  have e8 : IntKind.u8.wrap x3 = x3 := Int.emod_eq_of_lt r1 r2
  rw [e8]
  generalize hs : str _ = S
  have hS : (Nat.beq S.size 256 && (List.range 256).all fun i => Nat.ble (S.data.toList.getD i 0).toNat 8 && (Nat.beq i 0 || Nat.ble (2 ^ (S.data.toList.getD i 0).toNat) (2 * i))) = true := by
    rw [← hs]; kernel_rfl
  clear hs
  simp only [Bool.and_eq_true, List.all_eq_true, List.mem_range, Bool.or_eq_true] at hS
  obtain ⟨s1, s2⟩ := hS
  have s1 := Nat.eq_of_beq_eq_true s1
  obtain ⟨n, rfl⟩ : ∃ n : Nat, x3 = n := ⟨x3.toNat, by omega⟩
  have s2 := s2 n (by omega)
  have t1 := Nat.le_of_ble_eq_true s2.1
  refine Tot.chk (by omega) (.ok ?_)
  rw [Int.toNat_natCast]
  revert t1 s2
  generalize (S.data.toList.getD n 0).toNat = t
  intro s2 t1
  rw [w64_id (x := (t : Int)) (by omega), w64_id (by omega)]
  refine ⟨by omega, by omega, fun hx => ?_⟩
  have e1 : (v2 + (t : Int)).toNat = v2.toNat + t := by omega
  rw [e1, Nat.pow_add, Int.natCast_mul]
  have hn := r3 hx
  have t2 : 2 ^ t ≤ 2 * n := by
    rcases s2.2 with h | h
    · have := Nat.eq_of_beq_eq_true h; omega
    · exact Nat.le_of_ble_eq_true h
  have t3 : ((2 ^ v2.toNat : Nat) : Int) * (2 ^ t : Nat) ≤ (2 ^ v2.toNat : Nat) * (2 * n : Nat) := Int.mul_le_mul_of_nonneg_left (by exact_mod_cast t2) (by exact_mod_cast Nat.zero_le _)
  have t4 : ((2 ^ v2.toNat : Nat) : Int) * ((2 * n : Nat) : Int) = 2 * ((n : Int) * (2 ^ v2.toNat : Nat)) := by
    rw [Int.natCast_mul, Int.mul_comm ((2 ^ v2.toNat : Nat) : Int), Int.mul_assoc]; rfl
  omega
theorem len_ok (x : IK .u64) (h0 : 0 ≤ x.v) (h1 : x.v < 8589934592) : Tot (math_bits_Len x) fun r => 0 ≤ r ∧ r ≤ 64 ∧ (1 ≤ x.v → ((2 ^ r.toNat : Nat) : Int) ≤ 2 * x.v) := by
  unfold math_bits_Len
  exact Tot.call (len64_ok x h0 h1) fun r hr => .ok hr
theorem u64_id' {n : Int} (h0 : 0 ≤ n) (h1 : n < 18446744073709551616) : IntKind.u64.wrap n = n := by
  show n % 18446744073709551616 = n
  exact Int.emod_eq_of_lt h0 h1
theorem hlp : Pdq.Hlp slices_nextPowerOfTwo slices_xorshift_Next := by
  refine ⟨fun n h1 h2 => ?_, fun x => ?_⟩
  · unfold slices_nextPowerOfTwo
    rw [u64_id' (by omega) (by omega)]
    refine Tot.call (len_ok ⟨n⟩ (by dsimp only; omega) (by dsimp only; omega)) fun r ⟨r1, r2, r3⟩ => Tot.chk r1 (.ok ?_)
    have r3 := r3 (by dsimp only; omega)
    dsimp only at r3 ⊢
    have e : min r.toNat (IntKind.u64).bits = r.toNat := Nat.min_eq_left (by show r.toNat ≤ 64; omega)
    have e2 : (1 : Int) * 2 ^ r.toNat = ((2 ^ r.toNat : Nat) : Int) := by rw [Int.one_mul]; norm_cast
    rw [e, e2]
    have := Nat.two_pow_pos r.toNat
    rw [u64_id' (by omega) (by omega)]
    omega
  · unfold slices_xorshift_Next
    exact Tot.chk (by decide) (Tot.chk (by decide) (Tot.chk (by decide) (.ok trivial)))
/-! What many laws lean on: draws in the style of Tot, lists held against themselves, comparisons. -/
theorem t_pick {k : Nat} {c : l1Cur} (n : Int) (h : Cur k c) (hk : k ≤ 3000000000) : Tot (s_l1Cur_pick c n) fun r => Cur (k + 2) r.2 ∧ 0 ≤ r.1 ∧ (r.1 < n ∨ r.1 = 0) := pick_ok n h hk
theorem t_one {k : Nat} {c : l1Cur} (n : Int) (h : Cur k c) (hk : k ≤ 3000000000) : Tot (s_l1Cur_one c n) fun r => Cur (k + 2) r.2 := one_ok n h hk
theorem t_among {k : Nat} {c : l1Cur} (l : List Int) (hl : l ≠ []) (h : Cur k c) (hk : k ≤ 3000000000) : Tot (s_l1Cur_among c l) fun r => Cur (k + 2) r.2 ∧ r.1 ∈ l := among_ok l hl h hk
theorem t_amongw {k : Nat} {c : l1Cur} (l : List Int) (hl : l ≠ []) (h : Cur k c) (hk : k ≤ 3000000000) : Tot (s_l1Cur_among_w c l) fun r => Cur (k + 2) r.2 ∧ r.1 ∈ l := amongw_ok l hl h hk
theorem vBig_eq (code : List UInt8) : v_vBig code = some (decide (65536 < (code.length : Int))) := rfl
theorem compare_int (x y : Int) : cmp_Compare_int x y = some (if x < y then -1 else if y < x then 1 else 0) := by
  unfold cmp_Compare_int cmp_isNaN_int
  by_cases h : x < y
  · simp [h]
  · by_cases h2 : y < x <;> simp [h, h2]
theorem idx0 {α : Type} (l : List α) : idx l 0 = l[0]? := idx_nat l 0
/-! Sorting pairs of numbers. -/
theorem lt_RunsAt : Pdq.Lt i_RunsAt_1 (fun a b => a.X0 < b.X0 ∨ (a.X0 = b.X0 ∧ a.X1 ≤ b.X1)) := by
  refine ⟨fun x y => by omega, fun a b => by omega, fun x y => ?_⟩
  have hz : ∀ (a b : Int), idx [a, b] 0 = some a ∧ idx [a, b] 1 = some b := fun a b => ⟨rfl, rfl⟩
  have e : i_RunsAt_1 x y = some (if x.X0 < y.X0 then -1 else if y.X0 < x.X0 then 1 else if x.X1 < y.X1 then -1 else if y.X1 < x.X1 then 1 else 0) := by
    unfold i_RunsAt_1 slices_Compare_int
    have w1 : w64 (0 + 1) = 1 := rfl
    have w2 : w64 (1 + 1) = 2 := rfl
    by_cases h1 : x.X0 < y.X0
    · rw [iter_eq]; unfold slices_Compare_int_L1; simp [hz, compare_int, h1]
    · by_cases h2 : y.X0 < x.X0
      · rw [iter_eq]; unfold slices_Compare_int_L1; simp [hz, compare_int, h1, h2]
      · rw [iter_eq]
        have s1 : slices_Compare_int_L1 [x.X0, x.X1] [y.X0, y.X1] 0 = some (.nx 1) := by unfold slices_Compare_int_L1; simp [hz, compare_int, h1, h2]; rfl
        rw [s1]; simp only []
        by_cases h3 : x.X1 < y.X1
        · rw [iter_eq]; unfold slices_Compare_int_L1; simp [hz, compare_int, h1, h2, h3]
        · by_cases h4 : y.X1 < x.X1
          · rw [iter_eq]; unfold slices_Compare_int_L1; simp [hz, compare_int, h1, h2, h3, h4]
          · have s2 : slices_Compare_int_L1 [x.X0, x.X1] [y.X0, y.X1] 1 = some (.nx 2) := by unfold slices_Compare_int_L1; simp [hz, compare_int, h3, h4]; rfl
            have s3 : slices_Compare_int_L1 [x.X0, x.X1] [y.X0, y.X1] 2 = some (.dn (.go ())) := by unfold slices_Compare_int_L1; simp
            simp only [iter_eq, s2, s3]
            simp [h1, h2, h3, h4]
  refine ⟨_, e, ?_⟩
  by_cases h1 : x.X0 < y.X0
  · rw [if_pos h1]; omega
  · by_cases h2 : y.X0 < x.X0
    · simp [h1, h2]
    · by_cases h3 : x.X1 < y.X1
      · rw [if_neg h1, if_neg h2, if_pos h3]; omega
      · by_cases h4 : y.X1 < x.X1
        · rw [if_neg h1, if_neg h2, if_neg h3, if_pos h4]; omega
        · rw [if_neg h1, if_neg h2, if_neg h3, if_neg h4]; omega
theorem pdqk_RunsAt : ∀ n, slices_pdqsortCmpFunc__2_int_w__i_RunsAt_1_k n = Pdq.pdq_k slices_nextPowerOfTwo slices_xorshift_Next i_RunsAt_1 n
  | 0 => rfl
  | n + 1 => by
    show slices_pdqsortCmpFunc__2_int_w__i_RunsAt_1_F (slices_pdqsortCmpFunc__2_int_w__i_RunsAt_1_k n) = Pdq.pdq_F slices_nextPowerOfTwo slices_xorshift_Next i_RunsAt_1 (Pdq.pdq_k slices_nextPowerOfTwo slices_xorshift_Next i_RunsAt_1 n)
    rw [pdqk_RunsAt n]
    rfl
theorem sort_RunsAt (l : List A2_Int) (h : l.length < 4294967296) : Tot (slices_SortFunc__2_int_w__i_RunsAt_1 l) fun l' => l'.Perm l ∧ l'.Pairwise fun a b => a.X0 < b.X0 ∨ (a.X0 = b.X0 ∧ a.X1 ≤ b.X1) := by
  unfold slices_SortFunc__2_int_w__i_RunsAt_1
  refine Tot.call (len_ok _ (by dsimp only; rw [u64_id' (by omega) (by omega)]; omega) (by dsimp only; rw [u64_id' (by omega) (by omega)]; omega)) fun r _ => ?_
  unfold slices_pdqsortCmpFunc__2_int_w__i_RunsAt_1
  rw [pdqk_RunsAt]
  exact Tot.call (Pdq.pdq_ok lt_RunsAt hlp (limit := r) h) fun l' hl' => .ok hl'
/-! Runs: when they are valid; shortened and joined ones. -/
def RunP (t : Timetable) (x : Run) : Prop := ∃ (k : Nat) (y : Trip) (l : Line), t.Trips[k]? = some y ∧ y.Id = x.Trip ∧ idx t.Network.Lines y.Line = some l ∧ (0 ≤ x.Hold ∧ x.Hold ≤ 60) ∧ 0 ≤ x.From ∧ x.From < x.To ∧ x.To < (l.Stops.length : Int)
def RunsP (t : Timetable) (list : List Run) : Prop := (∀ (i : Nat) x, list[i]? = some x → RunP t x) ∧ ∀ (i : Nat) a b, list[i]? = some a → list[i + 1]? = some b → a.Trip < b.Trip
noncomputable instance (t : Timetable) (list : List Run) : Decidable (RunsP t list) := Classical.propDecidable _
noncomputable instance (t : Timetable) (x : Run) : Decidable (RunP t x) := Classical.propDecidable _
theorem run_iff {t : Timetable} (hT : GoodT t) {x : Run} {k : Nat} {y : Trip} {l : Line} (hy : t.Trips[k]? = some y) (hid : y.Id = x.Trip) (hl : idx t.Network.Lines y.Line = some l) : RunP t x ↔ (0 ≤ x.Hold ∧ x.Hold ≤ 60) ∧ 0 ≤ x.From ∧ x.From < x.To ∧ x.To < (l.Stops.length : Int) := by
  constructor
  · rintro ⟨k', y', l', h1, h2, h3, h4⟩
    have e1 := trip_fix hT hy
    have e2 := trip_fix hT h1
    rw [hid] at e1; rw [h2] at e2
    have : k' = k := by omega
    subst this
    rw [hy] at h1; cases h1
    rw [hl] at h3; cases h3
    exact h4
  · intro h; exact ⟨k, y, l, hy, hid, hl, h⟩
/-- Is a run out of order or wrong? The program's two questions. -/
theorem runQ_i {t : Timetable} (hb : TB t) (hT : GoodT t) (x : Run) (last : Int) : ∃ b : Bool, ((if (decide (x.Trip ≤ last)) = true then some true else (i_tripIndex t x.Trip).bind fun r1 =>
      if (decide (r1 < 0)) = true then some true else (i_within x.Hold 0 60).bind fun r2 =>
      some (!r2))) = some b ∧ (b = true → ¬ (last < x.Trip ∧ RunP t x)) ∧ (b = false → ∃ b2 : Bool, (if (decide (x.From < 0)) = true then some true else if (decide (x.To ≤ x.From)) = true then some true else (i_tripWith t x.Trip).bind fun r6 =>
        (i_lineOf t r6).bind fun r7 =>
        some (decide ((r7.Stops.length : Int) ≤ x.To))) = some b2 ∧ (b2 = false ↔ last < x.Trip ∧ RunP t x)) := by
  by_cases c1 : x.Trip ≤ last
  · exact ⟨true, by simp [c1], fun _ h => by omega, fun h => by cases h⟩
  · rcases found_or (t := t) x.Trip with ⟨c2, c3⟩ | ⟨k, y, hy, hid⟩
    · refine ⟨true, ?_, ?_, fun h => by cases h⟩
      · simp only [c1, decide_false, Bool.false_eq_true, if_false, tripIndex_eq t hb.2, Option.bind_some, c2, decide_true, if_true]
      · rintro _ ⟨_, k, y, l, h1, h2, _⟩
        exact c3 k y h1 h2
    · obtain ⟨l, hl, hp, _⟩ := trip_line hT hy
      have e1 := (find_trip hb hT hy).1
      have e2 := tripWith_eq hb hT hy
      rw [hid] at e1 e2
      have hk : ¬ ((k : Int) < 0) := by omega
      have hiff := run_iff hT hy hid hl
      refine ⟨!decide (0 ≤ x.Hold ∧ x.Hold ≤ 60), ?_, ?_, fun hh => ?_⟩
      · simp only [c1, decide_false, Bool.false_eq_true, if_false, e1, hk, within_eq, Option.bind_some]
      · intro hh h
        simp only [Bool.not_eq_true', decide_eq_false_iff_not] at hh
        exact hh (hiff.1 h.2).1
      · have hh' : 0 ≤ x.Hold ∧ x.Hold ≤ 60 := by simpa using hh
        by_cases c4 : x.From < 0
        · exact ⟨true, by simp [c4], by simp only [Bool.true_eq_false, false_iff]; intro h; have := (hiff.1 h.2).2.1; omega⟩
        · by_cases c5 : x.To ≤ x.From
          · exact ⟨true, by simp [c4, c5], by simp only [Bool.true_eq_false, false_iff]; intro h; have := (hiff.1 h.2).2.2.1; omega⟩
          · refine ⟨decide ((l.Stops.length : Int) ≤ x.To), by simp only [c4, c5, decide_false, Bool.false_eq_true, if_false, e2, lineOf_eq hl, Option.bind_some], ?_⟩
            rw [hiff]
            simp only [decide_eq_false_iff_not]
            exact ⟨fun h => ⟨by omega, hh', by omega, by omega, by omega⟩, fun h => by omega⟩
theorem chain_ext {list : List Run} {i : Nat} {x : Run} {R : Run → Prop} {O : Run → Run → Prop} (hx : list[i]? = some x) (hR : R x) (hO : ∀ y, 0 < i → list[i - 1]? = some y → O y x)
    (h : (∀ (j : Nat) y, j < i → list[j]? = some y → R y) ∧ ∀ (j : Nat) a b, j + 1 < i → list[j]? = some a → list[j + 1]? = some b → O a b) : (∀ (j : Nat) y, j < i + 1 → list[j]? = some y → R y) ∧ ∀ (j : Nat) a b, j + 1 < i + 1 → list[j]? = some a → list[j + 1]? = some b → O a b := by
  constructor
  · intro j y hj hy
    by_cases hji : j = i
    · subst hji; rw [hx] at hy; cases hy; exact hR
    · exact h.1 j y (by omega) hy
  · intro j a b hj ha hb
    by_cases hji : j + 1 = i
    · subst hji; rw [hx] at hb; cases hb
      exact hO a (by omega) (by simpa using ha)
    · exact h.2 j a b (by omega) ha hb
theorem areRuns_eq {t : Timetable} (hb : TB t) (hT : GoodT t) (list : List Run) (hl : list.length ≤ 1000) : i_areRuns t list = some (decide (RunsP t list)) := by
  unfold i_areRuns
  refine flb_dec (.iter (fun m a => ∃ i : Nat, a.2 = (i : Int) ∧ m + i = list.length ∧ (∀ y, 0 < i → list[i - 1]? = some y → a.1 = y.Trip) ∧ (i = 0 → a.1 = 0) ∧ ((∀ (j : Nat) x, j < i → list[j]? = some x → RunP t x) ∧ ∀ (j : Nat) a b, j + 1 < i → list[j]? = some a → list[j + 1]? = some b → a.Trip < b.Trip))
    (n := list.length) ⟨0, rfl, rfl, by simp, by simp, fun j x h => by omega, fun j a b h => by omega⟩ ?_)
  rintro m ⟨last, v⟩ ⟨i, hv, hm, h1, h2, h3⟩
  simp only at hv h1 h2
  subst hv
  unfold i_areRuns_L1
  refine .iteP (fun hc => ?_) (fun hc => .dn (.inl ⟨rfl, fun j x hx => h3.1 j x (by have := get_lt hx; omega) hx, fun j a b ha hb' => h3.2 j a b (by have := get_lt hb'; omega) ha hb'⟩))
  obtain ⟨x, hx⟩ := get_ex (l := list) (i := i) (by omega)
  obtain ⟨b, q1, q2, q3⟩ := runQ_i hb hT x last
  have bad : ¬ (last < x.Trip ∧ RunP t x) → ¬ RunsP t list := by
    intro hn hp
    refine hn ⟨?_, hp.1 i x hx⟩
    by_cases hi : i = 0
    · rw [h2 hi]
      obtain ⟨k, y, l, g1, g2, _⟩ := hp.1 i x hx
      obtain ⟨_, _, _, g3, _⟩ := trip_line hT g1
      omega
    · obtain ⟨y, hy⟩ := get_ex (l := list) (i := i - 1) (by omega)
      rw [h1 y (by omega) hy]
      exact hp.2 (i - 1) y x hy (by rw [show i - 1 + 1 = i by omega]; exact hx)
  refine .eq (by rw [idx_nat]; exact hx) (.eq q1 (.ite (fun hb1 => .dn (.inr ⟨rfl, bad (q2 hb1)⟩)) fun hb1 => ?_))
  obtain ⟨b2, q4, q5⟩ := q3 hb1
  refine .eq q4 (.ite (fun hb2 => .dn (.inr ⟨rfl, bad fun h => by rw [q5.2 h] at hb2; cases hb2⟩)) fun hb2 => ?_)
  have hok := q5.1 hb2
  refine .nx ⟨m - 1, by omega, i + 1, w64_succ (by omega), by omega, ?_, by simp, chain_ext hx hok.2 ?_ h3⟩
  · intro y _ hy
    rw [show i + 1 - 1 = i by omega, hx] at hy; cases hy; rfl
  · intro y hi hy
    rw [← h1 y hi hy]; exact hok.1
theorem l18List_eq {t : Timetable} (hb : TB t) (hT : GoodT t) (list : List Run) (hl : list.length ≤ 1000) : s_l18List t list = some (decide (RunsP t list)) := by
  unfold s_l18List
  refine flb_dec (.iter (fun m a => ∃ i : Nat, a = (i : Int) ∧ m + i = list.length ∧ ((∀ (j : Nat) x, j < i → list[j]? = some x → RunP t x) ∧ ∀ (j : Nat) a b, j + 1 < i → list[j]? = some a → list[j + 1]? = some b → a.Trip < b.Trip))
    (n := list.length) ⟨0, rfl, rfl, fun j x h => by omega, fun j a b h => by omega⟩ ?_)
  rintro m v ⟨i, hv, hm, h3⟩
  subst hv
  unfold s_l18List_L1
  refine .iteP (fun hc => ?_) (fun hc => .dn (.inl ⟨rfl, fun j x hx => h3.1 j x (by have := get_lt hx; omega) hx, fun j a b ha hb' => h3.2 j a b (by have := get_lt hb'; omega) ha hb'⟩))
  obtain ⟨x, hx⟩ := get_ex (l := list) (i := i) (by omega)
  refine .eq (by rw [idx_nat]; exact hx) (.eq (l5Find_eq t hb.2 x.Trip) ?_)
  have badO : ∀ y, 0 < i → list[i - 1]? = some y → x.Trip ≤ y.Trip → ¬ RunsP t list := fun y hi hy hle hp => by
    have := hp.2 (i - 1) y x hy (by rw [show i - 1 + 1 = i by omega]; exact hx)
    omega
  have badR : ¬ RunP t x → ¬ RunsP t list := fun h hp => h (hp.1 i x hx)
  rcases found_or (t := t) x.Trip with ⟨c2, c3⟩ | ⟨k, y, hy, hid⟩
  · have hno : ¬ RunP t x := fun ⟨k, y, l, h1, h2, _⟩ => c3 k y h1 h2
    refine .call (P := fun b => b = true) (.iteP (fun _ => .ok rfl) fun h => absurd c2 h) fun b hb => ?_
    subst hb
    exact .ite (fun _ => .dn (.inr ⟨rfl, badR hno⟩)) fun h => by cases h
  · obtain ⟨l, hl', hp, _⟩ := trip_line hT hy
    have e1 := trip_fix hT hy
    rw [hid] at e1
    have hiff := run_iff hT hy hid hl'
    rw [e1]
    refine .call (P := fun b => (b = true → ¬ RunsP t list) ∧ (b = false → (0 ≤ x.Hold ∧ x.Hold ≤ 60) ∧ ∀ z, 0 < i → list[i - 1]? = some z → z.Trip < x.Trip)) ?_ fun b ⟨hb1, hb2⟩ => ?_
    · refine .iteP (fun h => by omega) fun _ => .iteP (fun h0 => ?_) fun h0 => ?_
      · obtain ⟨z, hz⟩ := get_ex (l := list) (i := i - 1) (by omega)
        have ew : w64 ((i : Int) - 1) = ((i - 1 : Nat) : Int) := by rw [w64_id (by omega)]; omega
        refine .eq (by rw [ew, idx_nat]; exact hz) (.iteP (fun h => .ok ⟨fun _ => badO z (by omega) hz h, fun h => by cases h⟩) fun h => .eq (l1In_eq _ _ _) (.ok ⟨fun hh => badR fun hr => ?_, fun hh => ⟨by simpa using hh, fun z' _ hz' => ?_⟩⟩))
        · have := (hiff.1 hr).1
          simp at hh; omega
        · rw [hz] at hz'; cases hz'; omega
      · refine .eq (l1In_eq _ _ _) (.ok ⟨fun hh => badR fun hr => ?_, fun hh => ⟨by simpa using hh, fun z' h0' _ => by omega⟩⟩)
        have := (hiff.1 hr).1
        simp at hh; omega
    · refine .ite (fun h => .dn (.inr ⟨rfl, hb1 h⟩)) fun h => ?_
      obtain ⟨g1, g2⟩ := hb2 h
      refine .call (P := fun b => b = false ↔ RunP t x) ?_ fun b2 hb2 => .ite (fun h => .dn (.inr ⟨rfl, badR fun hr => by rw [hb2.2 hr] at h; cases h⟩)) fun h => .nx ⟨m - 1, by omega, i + 1, w64_succ (by omega), by omega, chain_ext hx (hb2.1 h) (fun z h0 hz => g2 z h0 hz) h3⟩
      rw [hiff]
      refine .iteP (fun h1 => .ok ⟨fun h => (by cases h), fun h => (by omega)⟩) fun h1 => .iteP (fun h2 => .ok ⟨fun h => (by cases h), fun h => (by omega)⟩) fun h2 => .eq (l5Stops_eq hy hl') (.ok ?_)
      simp only [decide_eq_false_iff_not]
      exact ⟨fun h => ⟨g1, by omega, by omega, by omega⟩, fun h => by omega⟩
def ValidR (t : Timetable) (list : List Run) : Prop := GoodT t ∧ RunsP t list
noncomputable instance (t : Timetable) (list : List Run) : Decidable (ValidR t list) := Classical.propDecidable _
theorem validRuns_eq {t : Timetable} (hb : TB t) (list : List Run) (hl : list.length ≤ 1000) : i_IsValidRuns t list = some (decide (ValidR t list)) := by
  unfold i_IsValidRuns
  rw [validT_eq hb]
  by_cases hT : GoodT t
  · have : ValidR t list ↔ RunsP t list := ⟨fun h => h.2, fun h => ⟨hT, h⟩⟩
    simp only [hT, decide_true, if_true, Option.bind_some, areRuns_eq hb hT list hl, this]
  · have : ¬ ValidR t list := fun h => hT h.1
    simp [hT, this]
theorem l18Asked_eq {t : Timetable} (hb : TB t) (list : List Run) (hl : list.length ≤ 1000) : s_l18Asked t list = some (decide (ValidR t list)) := by
  unfold s_l18Asked
  rw [goodT_eq hb]
  by_cases hT : GoodT t
  · have : ValidR t list ↔ RunsP t list := ⟨fun h => h.2, fun h => ⟨hT, h⟩⟩
    simp only [hT, decide_true, if_true, Option.bind_some, l18List_eq hb hT list hl, this]
  · have : ¬ ValidR t list := fun h => hT h.1
    simp [hT, this]
def runIx (list : List Run) (id : Int) : Int := fixI (fun x => x.Trip == id) list
theorem runIndex_eq (list : List Run) (h : list.length ≤ 1000) (id : Int) : i_runIndex list id = some (runIx list id) := by
  unfold i_runIndex slices_IndexFunc_Run__i_runIndex_1 slices_IndexFunc_Run
  rw [find_val list (fun x => x.Trip == id) (fun i x hx => ?_) (by unfold slices_IndexFunc_Run_L1; simp)]
  · rfl
  · have := get_lt hx
    unfold slices_IndexFunc_Run_L1 i_runIndex_1
    simp (disch := omega) only [if_pos, if_neg, decide_eq_true_eq, decide_true, decide_false, Bool.not_true, Bool.not_false, Bool.false_eq_true, Bool.not_eq_true', decide_eq_false_iff_not, if_true, if_false, w64_id, chk_of, idx_nat, Option.bind_some, Option.map_some, Int.toNat_natCast, not_true_eq_false, not_false_eq_true, true_and, and_true, and_self, false_and, and_false, reduceIte, flb_go, flb_ret, beq_self_eq_true, ne_eq, bne_self_eq_false, hx, Int.ofNat_lt.2 this]
    split <;> simp [*] <;> omega
theorem l18Find_eq (list : List Run) (h : list.length ≤ 1000) (id : Int) : s_l18Find list id = some (runIx list id) := by
  unfold s_l18Find runIx
  rw [find_val list (fun x => x.Trip == id) (fun i x hx => ?_) (by unfold s_l18Find_L1; simp)]
  have := get_lt hx
  unfold s_l18Find_L1
  simp (disch := omega) only [if_pos, if_neg, decide_eq_true_eq, decide_true, decide_false, Bool.not_true, Bool.not_false, Bool.false_eq_true, Bool.not_eq_true', decide_eq_false_iff_not, if_true, if_false, w64_id, chk_of, idx_nat, Option.bind_some, Option.map_some, Int.toNat_natCast, not_true_eq_false, not_false_eq_true, true_and, and_true, and_self, false_and, and_false, reduceIte, flb_go, flb_ret, beq_self_eq_true, ne_eq, bne_self_eq_false, hx, Int.ofNat_lt.2 this]
  split <;> simp [*] <;> omega
theorem runs_lt {t : Timetable} {list : List Run} (h : RunsP t list) {i j : Nat} {a b : Run} (hij : i < j) (ha : list[i]? = some a) (hb : list[j]? = some b) : a.Trip < b.Trip := by
  induction j generalizing b with
  | zero => omega
  | succ j ih =>
    obtain ⟨c, hc⟩ := get_ex (l := list) (i := j) (by have := get_lt hb; omega)
    have h1 := h.2 j c b hc hb
    by_cases hji : i = j
    · subst hji; rw [ha] at hc; cases hc; exact h1
    · have := ih (by omega) hc; omega
theorem run_fix {t : Timetable} {list : List Run} (h : RunsP t list) {i : Nat} {x : Run} (hx : list[i]? = some x) : runIx list x.Trip = (i : Int) := by
  refine fixI_of hx (by simp) fun j y hj hy => ?_
  have := runs_lt h hj hy hx
  simp; omega
/-- A run of a list, with its trip and line. -/
structure At (t : Timetable) (list : List Run) (i : Nat) (x : Run) (k : Nat) (y : Trip) (l : Line) : Prop where
  run : list[i]? = some x
  trip : t.Trips[k]? = some y
  id : y.Id = x.Trip
  line : idx t.Network.Lines y.Line = some l
  ok : LineP t.Network.Stops.length l
  start : 0 ≤ y.Start ∧ y.Start ≤ 1799
  hold : 0 ≤ x.Hold ∧ x.Hold ≤ 60
  ends : 0 ≤ x.From ∧ x.From < x.To ∧ x.To < (l.Stops.length : Int)
theorem at_of {t : Timetable} {list : List Run} (h : ValidR t list) {i : Nat} {x : Run} (hx : list[i]? = some x) : ∃ k y l, At t list i x k y l := by
  obtain ⟨k, y, l, h1, h2, h3, h4, h5⟩ := h.2.1 i x hx
  obtain ⟨l', g1, g2, _, g3, _⟩ := trip_line h.1 h1
  rw [h3] at g1; cases g1
  exact ⟨k, y, l, hx, h1, h2, h3, g2, g3, h4, h5⟩
/-- The place of a stop inside a run, or -1. -/
def inner (x : Run) (l : Line) (stop : Int) : Int := if fixI (fun e => stop == e) l.Stops ≤ x.From ∨ x.To ≤ fixI (fun e => stop == e) l.Stops then -1 else fixI (fun e => stop == e) l.Stops
theorem stops_len {st : Nat} {l : Line} (h : LineP st l) : l.Stops.length ≤ 6 := h.1.2
/-- What is asked can be done: the run, its trip and line, and the place. -/
structure Can (t : Timetable) (list : List Run) (id stop : Int) (i : Nat) (x : Run) (k : Nat) (y : Trip) (l : Line) (p : Int) : Prop where
  valid : ValidR t list
  at_ : At t list i x k y l
  id : x.Trip = id
  between : x.From < p ∧ p < x.To
/-! Times of runs; held runs; lost calls. -/
def runT (l : Line) (s : Int) (x : Run) : List Int := (((ST l s).take (x.To + 1).toNat).drop x.From.toNat).map (· + x.Hold)
theorem runT_len {t : Timetable} {list : List Run} {i k : Nat} {x : Run} {y : Trip} {l : Line} (ha : At t list i x k y l) : ((runT l y.Start x).length : Int) = x.To - x.From + 1 := by
  obtain ⟨e1, e2, e3⟩ := ha.ends
  obtain ⟨⟨h1, _⟩, _⟩ := line_runs ha.ok
  unfold runT
  rw [List.length_map, List.length_drop, List.length_take, ST_len]
  omega
theorem runT_at {t : Timetable} {list : List Run} {i k : Nat} {x : Run} {y : Trip} {l : Line} (ha : At t list i x k y l) {j : Nat} (hj : (j : Int) ≤ x.To - x.From) : (runT l y.Start x)[j]? = some (y.Start + (l.Runs.take (x.From.toNat + j)).sum + x.Hold) := by
  obtain ⟨e1, e2, e3⟩ := ha.ends
  obtain ⟨⟨h1, _⟩, _⟩ := line_runs ha.ok
  unfold runT
  rw [List.getElem?_map, List.getElem?_drop, List.getElem?_take_of_lt (by omega), ST_at (by omega)]
  rfl
theorem runTimes_eq {t : Timetable} (hb : TB t) {list : List Run} (hv : ValidR t list) {i k : Nat} {x : Run} {y : Trip} {l : Line} (ha : At t list i x k y l) : i_runTimes t x = some (runT l y.Start x) := by
  obtain ⟨e1, e2, e3⟩ := ha.ends
  obtain ⟨⟨h1, h2, h3⟩, _⟩ := line_runs ha.ok
  have e4 := tripWith_eq hb hv.1 ha.trip
  rw [ha.id] at e4
  have ew : w64 (x.To + 1) = x.To + 1 := w64_id (by omega)
  have hlen := ST_len l y.Start
  unfold i_runTimes
  simp only [e4, stopTimes_eq ha.line ha.ok ha.start, ew, Option.bind_some, chk_of (show (0 : Int) ≤ x.From ∧ x.From ≤ x.To + 1 ∧ x.To + 1 ≤ ((ST l y.Start).length : Int) by rw [hlen]; omega)]
  generalize hL : ((ST l y.Start).take (x.To + 1).toNat).drop x.From.toNat = L
  have hbd : ∀ z ∈ L, 0 ≤ z ∧ z ≤ 3000 := by
    intro z hz
    rw [← hL] at hz
    have := List.mem_of_mem_take (List.mem_of_mem_drop hz)
    unfold ST at this
    obtain ⟨q, _, rfl⟩ := List.mem_map.1 this
    have := runs_sum ha.ok q
    have := ha.start
    omega
  have hLl : L.length ≤ 10 := by rw [← hL, List.length_drop, List.length_take, hlen]; omega
  rw [map_loop (fun z => z + x.Hold) L (fun j a z ha1 haz hz => ?_) (fun a ha1 => ?_)]
  · unfold runT; rw [hL]; rfl
  · have hj := get_lt hz
    have := hbd z (List.mem_of_getElem? hz)
    have hh := ha.hold
    unfold i_runTimes_L1
    rw [ew, hL]
    simp (disch := omega) only [if_pos, if_neg, decide_eq_true_eq, decide_true, decide_false, Bool.not_true, Bool.not_false, Bool.false_eq_true, Bool.not_eq_true', decide_eq_false_iff_not, if_true, if_false, w64_id, chk_of, idx_nat, Option.bind_some, Option.map_some, Int.toNat_natCast, not_true_eq_false, not_false_eq_true, true_and, and_true, and_self, false_and, and_false, reduceIte, flb_go, flb_ret, beq_self_eq_true, ne_eq, bne_self_eq_false, Int.ofNat_lt.2 hj, haz, w64_succ (n := j) (by omega)] <;> rfl
  · unfold i_runTimes_L1
    rw [ew, hL]
    simp
theorem RunTimes_eq {t : Timetable} (hb : TB t) {list : List Run} (hl : list.length ≤ 1000) (hv : ValidR t list) {i k : Nat} {x : Run} {y : Trip} {l : Line} (ha : At t list i x k y l) : i_RunTimes t list x.Trip = some (runT l y.Start x, true) := by
  have hi : ¬ ((i : Int) < 0) := by omega
  unfold i_RunTimes
  simp only [validRuns_eq hb list hl, hv, decide_true, Bool.not_true, Bool.false_eq_true, if_false, Option.bind_some, runIndex_eq list hl, run_fix hv.2 ha.run, hi, decide_false, idx_nat, ha.run, runTimes_eq hb hv ha]
/-- Another run of the same trip in its place. -/
theorem set_valid {t : Timetable} {list : List Run} (hv : ValidR t list) {i : Nat} {x x' : Run} (hx : list[i]? = some x) (hid : x'.Trip = x.Trip) (hr : RunP t x') : ValidR t (list.set i x') := by
  refine ⟨hv.1, fun j z hz => ?_, fun j a b ha hb => ?_⟩
  · by_cases hj : i = j
    · subst hj; rw [set_at hx] at hz; cases hz; exact hr
    · rw [List.getElem?_set_ne hj] at hz; exact hv.2.1 j z hz
  · have key : ∀ (j : Nat) a, (list.set i x')[j]? = some a → ∃ a', list[j]? = some a' ∧ a'.Trip = a.Trip := by
      intro j a ha
      by_cases hj : i = j
      · subst hj; rw [set_at hx] at ha; cases ha; exact ⟨x, hx, hid.symm⟩
      · rw [List.getElem?_set_ne hj] at ha; exact ⟨a, ha, rfl⟩
    obtain ⟨a', h1, h2⟩ := key j a ha
    obtain ⟨b', h3, h4⟩ := key (j + 1) b hb
    have := hv.2.2 j a' b' h1 h3
    omega
theorem set_At {t : Timetable} {list : List Run} {i k : Nat} {x x' : Run} {y : Trip} {l : Line} (ha : At t list i x k y l) (hid : x'.Trip = x.Trip) (hh : 0 ≤ x'.Hold ∧ x'.Hold ≤ 60) (he : 0 ≤ x'.From ∧ x'.From < x'.To ∧ x'.To < (l.Stops.length : Int)) : At t (list.set i x') i x' k y l :=
  ⟨set_at ha.run, ha.trip, ha.id.trans hid.symm, ha.line, ha.ok, ha.start, hh, he⟩
theorem At.runP {t : Timetable} {list : List Run} {i k : Nat} {x : Run} {y : Trip} {l : Line} (ha : At t list i x k y l) : RunP t x := ⟨k, y, l, ha.trip, ha.id, ha.line, ha.hold, ha.ends⟩
theorem lost_ok {t : Timetable} (hb : TB t) {list : List Run} (hl : list.length ≤ 1000) (hv : ValidR t list) : Tot (i_LostCalls t list) fun r => r.2 = true := by
  unfold i_LostCalls
  simp only [validRuns_eq hb list hl, hv, decide_true, Bool.not_true, Bool.false_eq_true, if_false, Option.bind_some]
  refine .call (P := fun _ => True) ?_ fun x _ => .ok rfl
  have h12 := hv.1.2.1
  refine .iter (fun m s => ∃ i : Nat, s.1 = (i : Int) ∧ m + i = t.Trips.length ∧ s.2.length ≤ 6 * i) (n := t.Trips.length) ⟨0, rfl, rfl, by simp⟩ ?_
  rintro m ⟨v, x⟩ ⟨i, hi, hm, hx⟩
  simp only at hi hx
  subst hi
  unfold i_LostCalls_L2
  refine .iteP (fun hc => ?_) (fun hc => .dn trivial)
  obtain ⟨e, he⟩ := get_ex (l := t.Trips) (i := i) (by omega)
  obtain ⟨l, hl', hp, _⟩ := trip_line hv.1 he
  have h6 := stops_len hp
  refine .eq (by rw [idx_nat]; exact he) (.eq (runIndex_eq list hl e.Id) (.eq (lineOf_eq hl') (.call (P := fun z => z.length ≤ 6 * i + 6) ?_ fun z hz => .nx ⟨m - 1, by omega, i + 1, w64_succ (by omega), by omega, by show z.length ≤ _; omega⟩)))
  have hr : ¬ (runIx list e.Id < 0) → ∃ q, idx list (runIx list e.Id) = some q := by
    intro hn
    obtain ⟨j, q, h1, h2, _⟩ := idx_fix hn
    have h1' : runIx list e.Id = (j : Int) := h1
    exact ⟨q, by rw [h1', idx_nat]; exact h2⟩
  refine .iter (fun m s => ∃ j : Nat, s.1 = (j : Int) ∧ m + j = l.Stops.length ∧ s.2.length ≤ 6 * i + j) (n := l.Stops.length) ⟨0, rfl, rfl, by simpa using hx⟩ ?_
  rintro m2 ⟨v1, x1⟩ ⟨j, hj, hm2, hx1⟩
  simp only at hj hx1
  subst hj
  unfold i_LostCalls_L1
  refine .iteP (fun hc => ?_) (fun hc => .dn (by show x1.length ≤ _; omega))
  refine .call (P := fun z => z.length ≤ 6 * i + j + 1) (.call (P := fun _ => True) (.iteP (fun _ => .ok trivial) fun hn => ?_) fun b _ => .ite (fun _ => .chk (by simp; omega) (.ok (by simp; omega))) fun _ => .ok (by omega)) fun z hz => .nx ⟨m2 - 1, by omega, j + 1, w64_succ (by omega), by omega, by show z.length ≤ _; omega⟩
  obtain ⟨q, hq⟩ := hr hn
  exact .eq hq (.ite (fun _ => .ok trivial) fun _ => .eq hq (.ok trivial))
theorem runIx_set {list : List Run} {i : Nat} {x x' : Run} (hx : list[i]? = some x) (hid : x'.Trip = x.Trip) (id : Int) : runIx (list.set i x') id = runIx list id := by
  have h : (list.set i x').map (·.Trip) = list.map (·.Trip) := by
    rw [List.map_set, hid]
    exact set_same (by rw [List.getElem?_map, hx]; rfl)
  have e : ∀ l : List Run, runIx l id = fixI (fun z => z == id) (l.map (·.Trip)) := fun l => by rw [fixI_map]; rfl
  rw [e, e, h]
theorem lost_same {t : Timetable} (hb : TB t) {list : List Run} (hl : list.length ≤ 1000) {i : Nat} {x x' : Run} (hx : list[i]? = some x) (hid : x'.Trip = x.Trip) (hf : x'.From = x.From) (ht : x'.To = x.To) (hv : ValidR t list) (hv' : ValidR t (list.set i x')) : i_LostCalls t (list.set i x') = i_LostCalls t list := by
  have hl' : (list.set i x').length ≤ 1000 := by simpa using hl
  unfold i_LostCalls
  simp only [validRuns_eq hb list hl, validRuns_eq hb _ hl', hv, hv']
  have h1 : ∀ (e : Trip) (r1 : Int) (r2 : Line), i_LostCalls_L1 (list.set i x') e r1 r2 = i_LostCalls_L1 list e r1 r2 := by
    intro e r1 r2
    have key : ((idx (list.set i x') r1).bind fun e1 => some (e1.From, e1.To)) = (idx list r1).bind fun e1 => some (e1.From, e1.To) := by
      unfold idx
      split
      · by_cases hj : i = r1.toNat
        · subst hj; rw [set_at hx, hx]; simp [hf, ht]
        · rw [List.getElem?_set_ne hj]
      · rfl
    funext s
    obtain ⟨v1, x1⟩ := s
    unfold i_LostCalls_L1
    have k2 : ∀ (L : List Run), ((idx L r1).bind fun e1 => if (decide (v1 < e1.From)) = true then some true else (idx L r1).bind fun e2 => some (decide (e2.To < v1))) = ((idx L r1).bind fun e1 => some (e1.From, e1.To)).bind fun p => some (decide (v1 < p.1) || decide (p.2 < v1)) := by
      intro L
      cases idx L r1 with
      | none => rfl
      | some q => by_cases h : v1 < q.From <;> simp [h]
    dsimp only
    rw [k2, k2, key]
  have h2 : i_LostCalls_L2 t (list.set i x') = i_LostCalls_L2 t list := by
    funext s
    obtain ⟨v, q⟩ := s
    unfold i_LostCalls_L2
    simp only [h1, runIndex_eq list hl, runIndex_eq _ hl', runIx_set hx hid]
  rw [h2]
/-! The draw; the law. -/
theorem runs_ok {k : Nat} {c : l1Cur} (h : Cur k c) (hk : k ≤ 30000000) : Tot (s_l1Cur_runs c) fun r => Cur (k + 5000) r.2.2 ∧ DT r.1 ∧ r.2.1.length ≤ 30 := by
  unfold s_l1Cur_runs
  refine .call (trips_ok h (by omega)) fun r ⟨hc, hd⟩ => ?_
  refine .call (P := fun o => Cur (k + 4000) ⟨o.1, o.2.1, ⟨o.2.2.1⟩⟩ ∧ o.2.2.2.length ≤ 30) ?_ fun o ⟨ho, hl⟩ => ?_
  · refine .iter (fun m s => ∃ i : Nat, s.1 = (i : Int) ∧ m + i = 31 ∧ (i : Int) ≤ r.1.Trips.length ∧ s.2.2.2.2.length ≤ i ∧ Cur (k + 3000 + 10 * i) ⟨s.2.1, s.2.2.1, ⟨s.2.2.2.1⟩⟩) (n := 31) ⟨0, rfl, rfl, by omega, by simp, hc.mono (by omega)⟩ ?_
    have h30 := hd.2
    rintro m ⟨n, v, v1, v2, i0⟩ ⟨i, hi, hm, hle, hl, hcur⟩
    simp only at hi hl hcur
    subst hi
    unfold s_l1Cur_runs_L1
    refine .call (P := fun b => b = true → i < r.1.Trips.length ∧ GoodT r.1) (.iteP (fun hlt => .eq (goodT_eq hd.tb) (.ok fun hb => ⟨by omega, by simpa using hb⟩)) fun _ => .ok fun hb => by cases hb) fun b hb => .ite (fun ht => ?_) fun _ => .dn ⟨hcur.mono (by omega), by show i0.length ≤ 30; omega⟩
    obtain ⟨hlt, hg⟩ := hb ht
    obtain ⟨x, hx⟩ := get_ex hlt
    obtain ⟨l, hl', hp, _⟩ := trip_line hg hx
    refine .call (P := fun o => Cur (k + 3000 + 10 * (i + 1)) ⟨o.1, o.2.1, ⟨o.2.2.1⟩⟩ ∧ o.2.2.2.length ≤ i + 1) ?_ fun o ⟨q1, q2⟩ => .nx ⟨m - 1, by omega, i + 1, w64_succ (by omega), by omega, by omega, q2, q1⟩
    refine .eq (l5Stops_eq hx hl') (.eq (by rw [idx_nat]; exact hx) (.call (one_ok 6 hcur (by omega)) fun r3 hc3 => .ite (fun _ => .ok ⟨hc3.mono (by omega), by show i0.length ≤ _; omega⟩) fun _ => ?_))
    refine .call (P := fun o => Cur (k + 3000 + 10 * i + 4) ⟨o.1, o.2.1, ⟨o.2.2.1⟩⟩) (.call (P := fun o => Cur (k + 3000 + 10 * i + 4) ⟨o.2.1, o.2.2.1, ⟨o.2.2.2⟩⟩) (.ite (fun _ => .call (one_ok 3 hc3 (by omega)) fun r4 hc4 => .ok (hc4.mono (by omega))) fun _ => .ok (hc3.mono (by omega))) fun o ho => .ite (fun _ => .ok ho) fun _ => .ok ho) fun o1 h1 => ?_
    refine .call (P := fun o => Cur (k + 3000 + 10 * i + 6) ⟨o.1, o.2.1, ⟨o.2.2.1⟩⟩) (.call (P := fun o => Cur (k + 3000 + 10 * i + 6) ⟨o.2.1, o.2.2.1, ⟨o.2.2.2⟩⟩) (.ite (fun _ => .call (one_ok 4 h1 (by omega)) fun r4 hc4 => .ok (hc4.mono (by omega))) fun _ => .ok (h1.mono (by omega))) fun o ho => .ite (fun _ => .ok ho) fun _ => .ok ho) fun o2 h2 => ?_
    refine .call (P := fun o => Cur (k + 3000 + 10 * i + 10) ⟨o.1, o.2.1, ⟨o.2.2.1⟩⟩) (.call (one_ok 3 h2 (by omega)) fun r6 hc6 => .ite (fun _ => .call (among_ok _ (by simp) hc6 (by omega)) fun r7 ⟨hc7, _⟩ => .ok (hc7.mono (by omega))) fun _ => .ok (hc6.mono (by omega))) fun o3 h3 => .chk (by simp; omega) (.ok ⟨h3.mono (by omega), by simp; omega⟩)
  · obtain ⟨w1, w2, w3, w4⟩ := o
    simp only at ho hl
    refine .call (P := fun o => Cur (k + 5000) ⟨o.1, o.2.1, ⟨o.2.2.1⟩⟩ ∧ o.2.2.2.length ≤ 30) (.call (P := fun p => Cur (k + 4002) ⟨p.2.1, p.2.2.1, ⟨p.2.2.2⟩⟩ ∧ (p.1 = true → 0 < w4.length)) (.iteP (fun hlt => .call (one_ok 12 ho (by omega)) fun r8 hc8 => .ok ⟨hc8, fun _ => Int.natCast_pos.1 hlt⟩) fun _ => .ok ⟨ho.mono (by omega), fun h => by cases h⟩) fun p ⟨hp1, hp2⟩ => ?_) fun o2 ⟨q1, q2⟩ => .ok ⟨q1, hd, q2⟩
    obtain ⟨p1, p2, p3, p4⟩ := p
    simp only at hp1 hp2
    refine .ite (fun ht => ?_) fun _ => .ok ⟨hp1.mono (by omega), hl⟩
    have hpos := hp2 ht
    refine .call (pick_ok (w4.length : Int) hp1 (by omega)) fun r9 ⟨hc9, h90, h91⟩ => .idx h90 (by omega) fun e1 _ => .call (P := fun z => Cur (k + 5000) ⟨z.1, z.2.1, ⟨z.2.2.1⟩⟩) ?_ fun z hz => .idx h90 (by omega) fun e2 _ => .ok ⟨hz, by show (w4.set _ _).length ≤ 30; rw [List.length_set]; exact hl⟩
    refine .call (pick_ok 4 hc9 (by omega)) fun r10 ⟨hc10, _⟩ => ?_
    refine .ite (fun _ => .call (pick_ok 4 hc10 (by omega)) fun r11 ⟨hc11, _⟩ => .ok (hc11.mono (by omega))) fun _ => ?_
    refine .ite (fun _ => .call (pick_ok 8 hc10 (by omega)) fun r11 ⟨hc11, _⟩ => .ok (hc11.mono (by omega))) fun _ => ?_
    refine .ite (fun _ => .call (among_ok _ (by simp) hc10 (by omega)) fun r11 ⟨hc11, _⟩ => .ok (hc11.mono (by omega))) fun _ => ?_
    exact .call (idOf_ok r.1 hc10 (by omega)) fun r11 hc11 => .ok (hc11.mono (by omega))
/-! Sums over lists. -/
theorem sum_swap {α β : Type} (f : α → β → Int) (M : List β) : ∀ L : List α, (L.map fun x => (M.map fun r => f x r).sum).sum = (M.map fun r => (L.map fun x => f x r).sum).sum
  | [] => by
    simp only [List.map_nil, List.sum_nil]
    induction M with
    | nil => rfl
    | cons a M ih => simp only [List.map_cons, List.sum_cons, ← ih]; rfl
  | x :: L => by
    simp only [List.map_cons, List.sum_cons, sum_swap f M L]
    induction M with
    | nil => rfl
    | cons a M ih => simp only [List.map_cons, List.sum_cons]; omega
theorem sum_none {α : Type} (p : α → Bool) (g : α → Int) : ∀ l : List α, (∀ y ∈ l, p y = false) → (l.map fun r => if p r = true then g r else 0).sum = 0
  | [], _ => rfl
  | y :: l, h => by
    simp only [List.map_cons, List.sum_cons, h y (List.mem_cons_self ..), Bool.false_eq_true, if_false, sum_none p g l fun z hz => h z (List.mem_cons_of_mem _ hz)]
    rfl
theorem sum_one {α : Type} (p : α → Bool) (g : α → Int) : ∀ (l : List α) (j : Nat) (x : α), l[j]? = some x → p x = true → (∀ (i : Nat) y, l[i]? = some y → p y = true → i = j) → (l.map fun r => if p r = true then g r else 0).sum = g x
  | [], j, x, h, _, _ => by simp at h
  | y :: l, 0, x, h, hp, hu => by
    obtain rfl : y = x := by simpa using h
    have hn := sum_none p g l fun z hz => by
      obtain ⟨i, hi⟩ := List.getElem?_of_mem hz
      cases hz2 : p z with
      | false => rfl
      | true => have := hu (i + 1) z (by simpa using hi) hz2; omega
    simp only [List.map_cons, List.sum_cons, hp, if_true, hn]
    omega
  | y :: l, j + 1, x, h, hp, hu => by
    have h' : l[j]? = some x := by simpa using h
    have hy : p y = false := by
      cases hy : p y with
      | false => rfl
      | true => have := hu 0 y (by simp) hy; omega
    have ih := sum_one p g l j x h' hp fun i z hi hz => by have := hu (i + 1) z (by simpa using hi) hz; omega
    simp only [List.map_cons, List.sum_cons, hy, Bool.false_eq_true, if_false, ih]
    omega
theorem sum_congr {α : Type} {f g : α → Int} {l : List α} (h : ∀ x ∈ l, f x = g x) : (l.map f).sum = (l.map g).sum := by rw [List.map_congr_left h]
theorem sum_sub {α : Type} (f g : α → Int) : ∀ l : List α, (l.map fun x => f x - g x).sum = (l.map f).sum - (l.map g).sum
  | [] => rfl
  | x :: l => by simp only [List.map_cons, List.sum_cons, sum_sub f g l]; omega
theorem sum_tk {α : Type} (f : α → Int) {l : List α} {i : Nat} {x : α} (h : l[i]? = some x) : ((l.take (i + 1)).map f).sum = ((l.take i).map f).sum + f x := by rw [take_succ h]; simp
theorem sum_mrng {α : Type} {f : α → Int} {M : Int} : ∀ {l : List α}, (∀ x ∈ l, 0 ≤ f x ∧ f x ≤ M) → 0 ≤ (l.map f).sum ∧ (l.map f).sum ≤ M * l.length
  | [], _ => by simp
  | x :: l, h => by
    have h1 := h x (List.mem_cons_self ..)
    have h2 := sum_mrng (l := l) fun y hy => h y (List.mem_cons_of_mem _ hy)
    simp only [List.map_cons, List.sum_cons, List.length_cons, Int.natCast_add, Int.mul_add]
    omega
/-! Runs: calls are counted. -/
def sL (t : Timetable) (x : Trip) : Int := match idx t.Network.Lines x.Line with
  | some l => (l.Stops.length : Int)
  | none => 0
theorem sL_eq {t : Timetable} {x : Trip} {l : Line} (hl : idx t.Network.Lines x.Line = some l) : sL t x = (l.Stops.length : Int) := by unfold sL; rw [hl]
def rl (list : List Run) (id : Int) : Int := (list.map fun r => if (r.Trip == id) = true then r.To - r.From + 1 else 0).sum
theorem rl_none {t : Timetable} {list : List Run} (hv : ValidR t list) {id : Int} (h : runIx list id < 0) : rl list id = 0 := sum_none _ _ list fun y hy => fixI_neg h y hy
theorem rl_some {t : Timetable} {list : List Run} (hv : ValidR t list) {i : Nat} {r : Run} (hr : list[i]? = some r) : rl list r.Trip = r.To - r.From + 1 := by
  refine sum_one (fun y : Run => y.Trip == r.Trip) (fun y => y.To - y.From + 1) list i r hr (by simp) fun j y hj hy => ?_
  have e : y.Trip = r.Trip := by simpa using hy
  rcases Nat.lt_trichotomy j i with h | h | h
  · have := runs_lt hv.2 h hj hr; omega
  · exact h
  · have := runs_lt hv.2 h hr hj; omega
/-- A trip's run: none, or one that lies in its line. -/
theorem run_of {t : Timetable} {list : List Run} (hv : ValidR t list) {k : Nat} {x : Trip} {l : Line} (hx : t.Trips[k]? = some x) (hl : idx t.Network.Lines x.Line = some l) : (runIx list x.Id < 0 ∧ rl list x.Id = 0) ∨ ∃ (i : Nat) (r : Run), runIx list x.Id = (i : Int) ∧ list[i]? = some r ∧ rl list x.Id = r.To - r.From + 1 ∧ 0 ≤ r.From ∧ r.From < r.To ∧ r.To < (l.Stops.length : Int) := by
  by_cases h : runIx list x.Id < 0
  · exact .inl ⟨h, rl_none hv h⟩
  · right
    obtain ⟨i, r, h1, h2, h3, _⟩ := idx_fix h
    have e : r.Trip = x.Id := by simpa using h3
    obtain ⟨k', y, l', ha⟩ := at_of hv h2
    have : k' = k := by
      have a := trip_fix hv.1 ha.trip
      have b := trip_fix hv.1 hx
      rw [ha.id, e] at a
      rw [a] at b; omega
    subst this
    have hxy := ha.trip
    rw [hx] at hxy; cases hxy
    have hll := ha.line
    rw [hl] at hll; cases hll
    have := rl_some hv h2
    rw [e] at this
    exact ⟨i, r, h1, h2, this, ha.ends⟩
theorem ilost_row {t : Timetable} {list : List Run} (hv : ValidR t list) {k : Nat} {x : Trip} {l : Line} (hx : t.Trips[k]? = some x) (hl : idx t.Network.Lines x.Line = some l) (o : List A2_Int) (ho : o.length ≤ 1000) : Tot (iter (i_LostCalls_L1 list x (runIx list x.Id) l) ((0 : Int), o)) fun o' => (o'.length : Int) = o.length + (sL t x - rl list x.Id) := by
  have hp := good_line hv.1.1 hl
  have hs6 := hp.1
  rw [sL_eq hl]
  rcases run_of hv hx hl with ⟨h1, h2⟩ | ⟨i, r, h1, h2, h3, h4, h5, h6⟩
  · rw [h2]
    refine .iter (fun m s => ∃ j : Nat, s.1 = (j : Int) ∧ m + j = l.Stops.length ∧ s.2.length = o.length + j) (n := l.Stops.length) ⟨0, rfl, by omega, rfl⟩ ?_
    rintro m ⟨v, q⟩ ⟨j, hj, hm, hq⟩
    simp only at hj hq
    subst hj
    unfold i_LostCalls_L1
    refine .iteP (fun hc => ?_) (fun hc => .dn (by omega))
    refine .call (P := fun q' => q'.length = o.length + (j + 1)) (.call (P := fun b => b = true) (.iteP (fun _ => .ok rfl) fun h => absurd h1 h) fun b hb => .ite (fun _ => .chk (by simp; omega) (.ok (by simp; omega))) fun h => by rw [hb] at h; cases h) fun q' hq' => .nx ⟨m - 1, by omega, j + 1, w64_succ (by omega), by omega, hq'⟩
  · rw [h3, h1]
    refine .iter (fun m s => ∃ j : Nat, s.1 = (j : Int) ∧ m + j = l.Stops.length ∧ (s.2.length : Int) = o.length + (if (j : Int) ≤ r.From then (j : Int) else if (j : Int) ≤ r.To + 1 then r.From else j - (r.To - r.From + 1))) (n := l.Stops.length) ⟨0, rfl, by omega, by simp [h4]⟩ ?_
    rintro m ⟨v, q⟩ ⟨j, hj, hm, hq⟩
    simp only at hj hq
    subst hj
    unfold i_LostCalls_L1
    have hil : ¬ ((i : Int) < 0) := by omega
    refine .iteP (fun hc => ?_) (fun hc => .dn ?_)
    · refine .call (P := fun q' => (q'.length : Int) = o.length + (if ((j + 1 : Nat) : Int) ≤ r.From then ((j + 1 : Nat) : Int) else if ((j + 1 : Nat) : Int) ≤ r.To + 1 then r.From else ((j + 1 : Nat) : Int) - (r.To - r.From + 1))) (.call (P := fun b => b = decide ((j : Int) < r.From ∨ r.To < (j : Int))) (.iteP (fun h => absurd h hil) fun _ => .eq (ixs h2) (.iteP (fun h => .ok (by simp [h])) fun h => .eq (ixs h2) (.ok (by simp [h])))) fun b hb => ?_) fun q' hq' => .nx ⟨m - 1, by omega, j + 1, w64_succ (by omega), by omega, hq'⟩
      subst hb
      have hqb : q.length ≤ 2000 := by split at hq <;> (try split at hq) <;> omega
      refine .iteP (fun h => .chk (by simp; omega) (.ok ?_)) fun h => .ok ?_
      · rw [List.length_append, List.length_singleton, Int.natCast_add, hq]
        split <;> split <;> (try split) <;> (try split) <;> omega
      · rw [hq]
        split <;> split <;> (try split) <;> (try split) <;> omega
    · rw [hq]
      split <;> (try split) <;> omega
theorem slost_row {t : Timetable} {list : List Run} (hv : ValidR t list) {k : Nat} {x : Trip} {l : Line} (hx : t.Trips[k]? = some x) (hl : idx t.Network.Lines x.Line = some l) (o : List A2_Int) (ho : o.length ≤ 1000) : Tot (iter (s_LostCalls_L1 t list (k : Int) (runIx list x.Id)) ((0 : Int), o)) fun o' => (o'.length : Int) = o.length + (sL t x - rl list x.Id) := by
  have hp := good_line hv.1.1 hl
  have hs6 := hp.1
  rw [sL_eq hl]
  rcases run_of hv hx hl with ⟨h1, h2⟩ | ⟨i, r, h1, h2, h3, h4, h5, h6⟩
  · rw [h2]
    refine .iter (fun m s => ∃ j : Nat, s.1 = (j : Int) ∧ m + j = l.Stops.length ∧ s.2.length = o.length + j) (n := l.Stops.length) ⟨0, rfl, by omega, rfl⟩ ?_
    rintro m ⟨v, q⟩ ⟨j, hj, hm, hq⟩
    simp only at hj hq
    subst hj
    unfold s_LostCalls_L1
    refine .eq (l5Stops_eq hx hl) (.iteP (fun hc => ?_) (fun hc => .dn (by omega)))
    refine .call (P := fun q' => q'.length = o.length + (j + 1)) (.call (P := fun b => b = true) (.iteP (fun _ => .ok rfl) fun h => absurd h1 h) fun b hb => .ite (fun _ => .eq (ixs hx) (.chk (by simp; omega) (.ok (by simp; omega)))) fun h => by rw [hb] at h; cases h) fun q' hq' => .nx ⟨m - 1, by omega, j + 1, w64_succ (by omega), by omega, hq'⟩
  · rw [h3, h1]
    refine .iter (fun m s => ∃ j : Nat, s.1 = (j : Int) ∧ m + j = l.Stops.length ∧ (s.2.length : Int) = o.length + (if (j : Int) ≤ r.From then (j : Int) else if (j : Int) ≤ r.To + 1 then r.From else j - (r.To - r.From + 1))) (n := l.Stops.length) ⟨0, rfl, by omega, by simp [h4]⟩ ?_
    rintro m ⟨v, q⟩ ⟨j, hj, hm, hq⟩
    simp only at hj hq
    subst hj
    unfold s_LostCalls_L1
    have hil : ¬ ((i : Int) < 0) := by omega
    refine .eq (l5Stops_eq hx hl) (.iteP (fun hc => ?_) (fun hc => .dn ?_))
    · refine .call (P := fun q' => (q'.length : Int) = o.length + (if ((j + 1 : Nat) : Int) ≤ r.From then ((j + 1 : Nat) : Int) else if ((j + 1 : Nat) : Int) ≤ r.To + 1 then r.From else ((j + 1 : Nat) : Int) - (r.To - r.From + 1))) (.call (P := fun b => b = decide ((j : Int) < r.From ∨ r.To < (j : Int))) (.iteP (fun h => absurd h hil) fun _ => .eq (ixs h2) (.iteP (fun h => .ok (by simp [h])) fun h => .eq (ixs h2) (.ok (by simp [h])))) fun b hb => ?_) fun q' hq' => .nx ⟨m - 1, by omega, j + 1, w64_succ (by omega), by omega, hq'⟩
      subst hb
      have hqb : q.length ≤ 2000 := by split at hq <;> (try split at hq) <;> omega
      refine .iteP (fun h => .eq (ixs hx) (.chk (by simp; omega) (.ok ?_))) fun h => .ok ?_
      · rw [List.length_append, List.length_singleton, Int.natCast_add, hq]
        split <;> split <;> (try split) <;> (try split) <;> omega
      · rw [hq]
        split <;> split <;> (try split) <;> (try split) <;> omega
    · rw [hq]
      split <;> (try split) <;> omega
theorem row_rng {t : Timetable} {list : List Run} (hv : ValidR t list) {k : Nat} {x : Trip} (hx : t.Trips[k]? = some x) : 0 ≤ sL t x - rl list x.Id ∧ sL t x - rl list x.Id ≤ 6 := by
  obtain ⟨l, hl, hp, _⟩ := trip_line hv.1 hx
  have := hp.1
  rw [sL_eq hl]
  rcases run_of hv hx hl with ⟨h1, h2⟩ | ⟨i, r, h1, h2, h3, h4, h5, h6⟩ <;> omega
def lostN (t : Timetable) (list : List Run) (k : Nat) : Int := ((t.Trips.take k).map fun x => sL t x - rl list x.Id).sum
theorem lostN_rng {t : Timetable} {list : List Run} (hv : ValidR t list) (k : Nat) : 0 ≤ lostN t list k ∧ lostN t list k ≤ 72 := by
  have h12 := hv.1.2.1
  have := sum_mrng (f := fun x => sL t x - rl list x.Id) (M := 6) (l := t.Trips.take k) fun x hx => by
    obtain ⟨i, hi⟩ := List.getElem?_of_mem (List.mem_of_mem_take hx)
    exact row_rng hv hi
  have hl : ((t.Trips.take k).length : Int) ≤ 12 := by rw [List.length_take]; omega
  unfold lostN
  omega
theorem ilost_ok {t : Timetable} (hb : TB t) {list : List Run} (hl : list.length ≤ 1000) (hv : ValidR t list) : Tot (i_LostCalls t list) fun r => r.2 = true ∧ (r.1.length : Int) = lostN t list t.Trips.length := by
  have h12 := hv.1.2.1
  unfold i_LostCalls
  simp only [validRuns_eq hb list hl, hv, decide_true, Bool.not_true, Bool.false_eq_true, if_false, Option.bind_some]
  refine .call (P := fun o => (o.length : Int) = lostN t list t.Trips.length) ?_ fun o ho => .ok ⟨rfl, ho⟩
  refine .iter (fun m s => ∃ k : Nat, s.1 = (k : Int) ∧ m + k = t.Trips.length ∧ (s.2.length : Int) = lostN t list k) (n := t.Trips.length) ⟨0, rfl, by omega, rfl⟩ ?_
  rintro m ⟨v, o⟩ ⟨k, hk, hm, ho⟩
  simp only at hk ho
  subst hk
  unfold i_LostCalls_L2
  refine .iteP (fun hc => ?_) (fun hc => .dn (by rw [show t.Trips.length = k by omega]; exact ho))
  obtain ⟨x, hx⟩ := get_ex (l := t.Trips) (i := k) (by omega)
  obtain ⟨l, hl', _⟩ := trip_line hv.1 hx
  have hr := lostN_rng hv k
  refine .eq (ixs hx) (.eq (runIndex_eq list hl x.Id) (.eq (lineOf_eq hl') (.call (ilost_row hv hx hl' o (by omega)) fun o' ho' => .nx ⟨m - 1, by omega, k + 1, w64_succ (by omega), by omega, ?_⟩)))
  dsimp only
  rw [ho', ho]
  unfold lostN
  rw [sum_tk _ hx]
theorem slost_ok {t : Timetable} (hb : TB t) {list : List Run} (hl : list.length ≤ 1000) (hv : ValidR t list) : Tot (s_LostCalls t list) fun r => r.2 = true ∧ (r.1.length : Int) = lostN t list t.Trips.length := by
  have h12 := hv.1.2.1
  unfold s_LostCalls
  simp only [l18Asked_eq hb list hl, hv, decide_true, Bool.not_true, Bool.false_eq_true, if_false, Option.bind_some]
  refine .call (P := fun o => (o.length : Int) = lostN t list t.Trips.length) ?_ fun o ho => .ok ⟨rfl, ho⟩
  refine .iter (fun m s => ∃ k : Nat, s.1 = (k : Int) ∧ m + k = t.Trips.length ∧ (s.2.length : Int) = lostN t list k) (n := t.Trips.length) ⟨0, rfl, by omega, rfl⟩ ?_
  rintro m ⟨v, o⟩ ⟨k, hk, hm, ho⟩
  simp only at hk ho
  subst hk
  unfold s_LostCalls_L2
  refine .iteP (fun hc => ?_) (fun hc => .dn (by rw [show t.Trips.length = k by omega]; exact ho))
  obtain ⟨x, hx⟩ := get_ex (l := t.Trips) (i := k) (by omega)
  obtain ⟨l, hl', _⟩ := trip_line hv.1 hx
  have hr := lostN_rng hv k
  refine .eq (ixs hx) (.eq (l18Find_eq list hl x.Id) (.call (slost_row hv hx hl' o (by omega)) fun o' ho' => .nx ⟨m - 1, by omega, k + 1, w64_succ (by omega), by omega, ?_⟩))
  dsimp only
  rw [ho', ho]
  unfold lostN
  rw [sum_tk _ hx]
/-! Runs: calls at stops; the planned runs; the law. -/
theorem runStops_eq {t : Timetable} (hb : TB t) {list : List Run} (hv : ValidR t list) {i k : Nat} {r : Run} {y : Trip} {l : Line} (ha : At t list i r k y l) : i_runStops t r = some ((l.Stops.take (r.To + 1).toNat).drop r.From.toNat) := by
  have e := tripWith_eq hb hv.1 ha.trip
  rw [ha.id] at e
  obtain ⟨h1, h2, h3⟩ := ha.ends
  have hs6 := ha.ok.1
  unfold i_runStops
  rw [e]
  simp only [Option.bind_some, lineOf_eq ha.line, w64_id (x := r.To + 1) (by omega)]
  rw [chk_of (by omega)]; rfl
noncomputable def rsl (t : Timetable) (r : Run) : List Int := (i_runStops t r).getD []
theorem rsl_eq {t : Timetable} (hb : TB t) {list : List Run} (hv : ValidR t list) {i k : Nat} {r : Run} {y : Trip} {l : Line} (ha : At t list i r k y l) : rsl t r = (l.Stops.take (r.To + 1).toNat).drop r.From.toNat := by unfold rsl; rw [runStops_eq hb hv ha]; rfl
theorem rsl_len {t : Timetable} (hb : TB t) {list : List Run} (hv : ValidR t list) {i k : Nat} {r : Run} {y : Trip} {l : Line} (ha : At t list i r k y l) : ((rsl t r).length : Int) = r.To - r.From + 1 := by
  obtain ⟨h1, h2, h3⟩ := ha.ends
  rw [rsl_eq hb hv ha, List.length_drop, List.length_take]; omega
theorem rsl_at {t : Timetable} (hb : TB t) {list : List Run} (hv : ValidR t list) {i k : Nat} {r : Run} {y : Trip} {l : Line} (ha : At t list i r k y l) {j : Nat} {s : Int} (hs : (rsl t r)[j]? = some s) : l.Stops[r.From.toNat + j]? = some s := by
  rw [rsl_eq hb hv ha, List.getElem?_drop] at hs
  have := get_lt hs
  rw [List.length_take] at this
  rwa [List.getElem?_take_of_lt (by omega)] at hs
/-- The stops of a run: each once. -/
theorem rsl_uniq {t : Timetable} (hb : TB t) {list : List Run} (hv : ValidR t list) {i k : Nat} {r : Run} {y : Trip} {l : Line} (ha : At t list i r k y l) {a b : Nat} {s : Int} (h1 : (rsl t r)[a]? = some s) (h2 : (rsl t r)[b]? = some s) : a = b := by
  have g1 := (ha.ok.2.2.1 _ s (rsl_at hb hv ha h1)).2
  have g2 := (ha.ok.2.2.1 _ s (rsl_at hb hv ha h2)).2
  rw [g1] at g2; omega
noncomputable def here (t : Timetable) (s : Int) (r : Run) : Int := if 0 ≤ fixI (fun e => s == e) (rsl t r) then 1 else 0
noncomputable def cnt (t : Timetable) (list : List Run) (s : Int) (k : Nat) : Int := ((list.take k).map (here t s)).sum
theorem here_rng (t : Timetable) (s : Int) (r : Run) : 0 ≤ here t s r ∧ here t s r ≤ 1 := by unfold here; split <;> omega
theorem cnt_rng {t : Timetable} {list : List Run} (s : Int) (k : Nat) (hl : list.length ≤ 1000) : 0 ≤ cnt t list s k ∧ cnt t list s k ≤ 1000 := by
  have := sum_mrng (f := here t s) (M := 1) (l := list.take k) fun x _ => here_rng t s x
  have hl : ((list.take k).length : Int) ≤ 1000 := by rw [List.length_take]; omega
  unfold cnt; omega
theorem runsAt_ok {t : Timetable} (hb : TB t) {list : List Run} (hl : list.length ≤ 1000) (hv : ValidR t list) {s : Int} (hs : 0 ≤ s ∧ s < (t.Network.Stops.length : Int)) : Tot (i_RunsAt t list s) fun r => r.2 = true ∧ (r.1.length : Int) = cnt t list s list.length := by
  unfold i_RunsAt
  simp only [validRuns_eq hb list hl, hv, isStop_eq, hs, and_self, decide_true, Bool.not_true, Bool.false_eq_true, if_false, Option.bind_some]
  refine .call (P := fun o => (o.length : Int) = cnt t list s list.length) ?_ fun o ho => .call (sort_RunsAt o (by have := cnt_rng (t := t) s list.length hl; omega)) fun r6 hr => .ok ⟨rfl, by rw [hr.1.length_eq]; exact ho⟩
  refine .iter (fun m q => ∃ i : Nat, q.1 = (i : Int) ∧ m + i = list.length ∧ (q.2.length : Int) = cnt t list s i) (n := list.length) ⟨0, rfl, by omega, rfl⟩ ?_
  rintro m ⟨v, o⟩ ⟨i, hi, hm, ho⟩
  simp only at hi ho
  subst hi
  unfold i_RunsAt_L1
  refine .iteP (fun hc => ?_) (fun hc => .dn (by rw [show list.length = i by omega]; exact ho))
  obtain ⟨r, hr⟩ := get_ex (l := list) (i := i) (by omega)
  obtain ⟨k, y, l, ha⟩ := at_of hv hr
  have hrl := rsl_len hb hv ha
  have hco := cnt_rng (t := t) (list := list) s i hl
  have ends := ha.ends
  have hs6 := ha.ok.1
  have hrs : i_runStops t r = some (rsl t r) := by rw [rsl_eq hb hv ha]; exact runStops_eq hb hv ha
  have hsum : cnt t list s (i + 1) = cnt t list s i + here t s r := sum_tk _ hr
  refine .call (P := fun o' => (o'.length : Int) = cnt t list s (i + 1)) ?_ fun o' ho' => .nx ⟨m - 1, by omega, i + 1, w64_succ (by omega), by omega, ho'⟩
  refine .eq (ixs hr) (.eq hrs (.eq (index_int_eq _ (by omega) s) ?_))
  have hrng := fixI_rng (fun e => s == e) (rsl t r)
  refine .iteP (fun h0 => .eq (runTimes_eq hb hv ha) ?_) fun h0 => .ok ?_
  · have ht := runT_len ha
    refine .idx h0 (by omega) fun e2 _ => .chk (by simp; omega) (.ok ?_)
    rw [List.length_append, List.length_singleton, Int.natCast_add, ho, hsum]
    unfold here
    rw [if_pos h0]; rfl
  · rw [hsum, ho]
    unfold here
    rw [if_neg h0]; omega
/-- Each call of a run is at one stop. -/
theorem here_sum {t : Timetable} (hb : TB t) {list : List Run} (hv : ValidR t list) {i : Nat} {r : Run} (hr : list[i]? = some r) : ((List.range t.Network.Stops.length).map fun s : Nat => here t (s : Int) r).sum = r.To - r.From + 1 := by
  obtain ⟨k, y, l, ha⟩ := at_of hv hr
  have e1 : ∀ s ∈ List.range t.Network.Stops.length, here t (s : Int) r = ((rsl t r).map fun y => if (y == (s : Int)) = true then (1 : Int) else 0).sum := by
    intro s _
    unfold here
    by_cases h : 0 ≤ fixI (fun e => (s : Int) == e) (rsl t r)
    · rw [if_pos h]
      obtain ⟨j, x, h1, h2, h3, _⟩ := idx_fix (p := fun e => (s : Int) == e) (l := rsl t r) (by omega)
      have hx : x = (s : Int) := by have : (s : Int) = x := by simpa using h3
                                    exact this.symm
      subst hx
      exact (sum_one (fun y : Int => y == (s : Int)) (fun _ => (1 : Int)) (rsl t r) j s h2 (by simp) fun a z hz hzs => by
        have : z = (s : Int) := by simpa using hzs
        subst this
        exact rsl_uniq hb hv ha hz h2).symm
    · rw [if_neg h]
      refine (sum_none (fun y : Int => y == (s : Int)) (fun _ => (1 : Int)) (rsl t r) fun z hz => ?_).symm
      have := fixI_neg (p := fun e => (s : Int) == e) (l := rsl t r) (by omega) z hz
      rw [beq_eq_false_iff_ne] at this ⊢
      exact fun e => this e.symm
  rw [sum_congr e1, sum_swap]
  have e2 : ∀ y ∈ rsl t r, ((List.range t.Network.Stops.length).map fun s : Nat => if (y == (s : Int)) = true then (1 : Int) else 0).sum = 1 := by
    intro y hy
    obtain ⟨j, hj⟩ := List.getElem?_of_mem hy
    have hrg := line_stop ha.ok (rsl_at hb hv ha hj)
    obtain ⟨n, rfl⟩ : ∃ n : Nat, y = n := ⟨y.toNat, by omega⟩
    refine sum_one (fun s : Nat => (n : Int) == (s : Int)) (fun _ => (1 : Int)) _ n n (List.getElem?_range (by omega)) (by simp) fun a z hz hzs => ?_
    have h1 := get_lt hz
    rw [List.length_range] at h1
    rw [List.getElem?_range h1] at hz
    cases hz
    have : (n : Int) = (a : Int) := by simpa using hzs
    omega
  rw [sum_congr e2, ← rsl_len hb hv ha]
  generalize rsl t r = R
  induction R with
  | nil => rfl
  | cons a R ih => simp only [List.map_cons, List.sum_cons, ih, List.length_cons, Int.natCast_add]; omega
noncomputable def atS (t : Timetable) (list : List Run) (k : Nat) : Int := ((List.range k).map fun s : Nat => cnt t list (s : Int) list.length).sum
theorem atS_all {t : Timetable} (hb : TB t) {list : List Run} (hv : ValidR t list) : atS t list t.Network.Stops.length = (list.map fun r => r.To - r.From + 1).sum := by
  unfold atS
  have e : ∀ s ∈ List.range t.Network.Stops.length, cnt t list (s : Int) list.length = (list.map fun r => here t (s : Int) r).sum := fun s _ => by unfold cnt; rw [List.take_length]
  rw [sum_congr e, sum_swap]
  refine sum_congr fun r hr => ?_
  obtain ⟨i, hi⟩ := List.getElem?_of_mem hr
  exact here_sum hb hv hi
theorem rl_all {t : Timetable} {list : List Run} (hv : ValidR t list) : (t.Trips.map fun x => rl list x.Id).sum = (list.map fun r => r.To - r.From + 1).sum := by
  unfold rl
  rw [sum_swap]
  refine sum_congr fun r hr => ?_
  obtain ⟨i, hi⟩ := List.getElem?_of_mem hr
  obtain ⟨k, y, l, ha⟩ := at_of hv hi
  refine sum_one (fun x : Trip => r.Trip == x.Id) (fun _ => r.To - r.From + 1) t.Trips k y ha.trip (by simp [ha.id]) fun j z hz he => ?_
  have e : r.Trip = z.Id := by simpa using he
  have a := trip_fix hv.1 ha.trip
  have b := trip_fix hv.1 hz
  rw [ha.id, e] at a
  rw [a] at b; omega
theorem count_all {t : Timetable} (hb : TB t) {list : List Run} (hv : ValidR t list) : lostN t list t.Trips.length + atS t list t.Network.Stops.length = (t.Trips.map (sL t)).sum := by
  rw [atS_all hb hv, ← rl_all hv]
  unfold lostN
  rw [List.take_length, sum_sub]
  omega
noncomputable def plan (t : Timetable) : List Run := t.Trips.map fun x => ⟨x.Id, 0, sL t x - 1, 0⟩
theorem plan_at {t : Timetable} {k : Nat} {x : Trip} (hx : t.Trips[k]? = some x) : (plan t)[k]? = some ⟨x.Id, 0, sL t x - 1, 0⟩ := by unfold plan; rw [List.getElem?_map, hx]; rfl
theorem plan_valid {t : Timetable} (hT : GoodT t) : ValidR t (plan t) := by
  refine ⟨hT, fun i r hr => ?_, fun i a b ha hb => ?_⟩
  · have hi := get_lt hr
    unfold plan at hi
    rw [List.length_map] at hi
    obtain ⟨x, hx⟩ := get_ex hi
    rw [plan_at hx] at hr
    cases hr
    obtain ⟨l, hl, hp, _⟩ := trip_line hT hx
    have := hp.1
    exact ⟨i, x, l, hx, rfl, hl, by dsimp only; omega, by dsimp only; omega, by dsimp only; rw [sL_eq hl]; omega, by dsimp only; rw [sL_eq hl]; omega⟩
  · have h1 := get_lt hb
    unfold plan at h1
    rw [List.length_map] at h1
    obtain ⟨x, hx⟩ := get_ex (l := t.Trips) (i := i) (by omega)
    obtain ⟨y, hy⟩ := get_ex h1
    rw [plan_at hx] at ha; rw [plan_at hy] at hb
    cases ha; cases hb
    exact ids_lt hT (Nat.lt_succ_self i) hx hy
theorem planned_eq {t : Timetable} (hb : TB t) (hT : GoodT t) : i_PlannedRuns t = some (plan t, true) := by
  have h12 := hT.2.1
  have e : i_plannedRuns t = some (plan t) := by
    unfold i_plannedRuns
    rw [chk_of (by omega)]
    have h := fill_loop (fun x : Trip => (⟨x.Id, 0, sL t x - 1, 0⟩ : Run)) t.Trips (List.replicate (t.Trips.length : Int).toNat (⟨0, 0, 0, 0⟩ : Run)) (by simp) (step := i_plannedRuns_L1 t) (fun i a x y ha hy hx => ?_) (fun a ha => ?_)
    · simp only [Option.bind_some, h]; rfl
    · have hlt := get_lt hx
      obtain ⟨l, hl, hp, _⟩ := trip_line hT hx
      have := hp.1
      unfold i_plannedRuns_L1
      simp only [Int.ofNat_lt.2 hlt, decide_true, if_true, idx_nat, hx, hy, lineOf_eq hl, Option.bind_some, w64_succ (n := i) (by omega), Int.toNat_natCast, sL_eq hl, w64_id (x := (l.Stops.length : Int) - 1) (by omega)]
    · unfold i_plannedRuns_L1; simp
  unfold i_PlannedRuns
  simp only [validT_eq hb, hT, decide_true, Bool.not_true, Bool.false_eq_true, if_false, Option.bind_some, e]
theorem plan_lost {t : Timetable} (hT : GoodT t) : lostN t (plan t) t.Trips.length = 0 := by
  unfold lostN
  rw [List.take_length]
  have : ∀ x ∈ t.Trips, sL t x - rl (plan t) x.Id = (fun _ : Trip => (0 : Int)) x := by
    intro x hx
    obtain ⟨k, hk⟩ := List.getElem?_of_mem hx
    have := rl_some (plan_valid hT) (plan_at hk)
    dsimp only at this ⊢
    omega
  rw [sum_congr this]
  generalize t.Trips = L
  induction L with
  | nil => rfl
  | cons a L ih => simp only [List.map_cons, List.sum_cons, ih]; rfl
theorem drawLost_ok (code : List UInt8) : Tot (s_DrawLostCalls code) fun r => TB r.1 ∧ r.2.length ≤ 1000 := by
  have h0 := (cur0 code).mono (k' := 10) (by omega)
  unfold s_DrawLostCalls s_DrawIsValidRuns
  exact .call (P := fun r => TB r.1 ∧ r.2.length ≤ 1000) (.call (runs_ok h0 (by omega)) fun r ⟨_, hd, hl⟩ => .ok ⟨hd.tb, by dsimp only; omega⟩) fun r hr => .ok hr
theorem runs_true (code : List UInt8) : v_FnRuns code = some true := by
  unfold v_FnRuns
  rw [vBig_eq]
  refine Tot.val (Tot.eq rfl (.iteP (fun _ => .ok rfl) (fun hlen => ?_)))
  refine .call (drawLost_ok code) fun ⟨t, list⟩ ⟨hb, hl⟩ => ?_
  dsimp only at hb hl ⊢
  by_cases hv : ValidR t list
  · have hT := hv.1
    have h12 := hT.2.1
    have h8 := hT.1.1
    refine .call (ilost_ok hb hl hv) fun ⟨lost, ok⟩ ⟨a1, a2⟩ => .call (slost_ok hb hl hv) fun ⟨want, ok2⟩ ⟨b1, b2⟩ => ?_
    dsimp only at a1 a2 b1 b2 ⊢
    subst a1; subst b1
    have e0 : ((lost.length : Int) != (want.length : Int)) = false := by rw [a2, b2]; simp
    simp only [beq_self_eq_true, Bool.not_true, Bool.false_eq_true, if_false, e0, validRuns_eq hb list hl, hv, decide_true, Option.bind_some]
    have hN := lostN_rng hv t.Trips.length
    refine .flb ((Tot.iter (fun m s => ∃ k : Nat, s.2 = (k : Int) ∧ m + k = t.Trips.length ∧ s.1 = ((t.Trips.take k).map (sL t)).sum) (Q := fun b => b = .go (t.Trips.map (sL t)).sum) (n := t.Trips.length) ⟨0, rfl, by omega, rfl⟩ ?_).mono fun b hB => ⟨fun r e => (by rw [hB] at e; cases e), fun u e => ?_⟩)
    · rintro m ⟨s, v⟩ ⟨k, hk, hm, hs⟩
      simp only at hk hs
      subst hk; subst hs
      unfold v_FnRuns_L1
      dsimp only
      refine .iteP (fun hc => ?_) (fun hc => .dn (by rw [show k = t.Trips.length by omega, List.take_length]))
      obtain ⟨x, hx⟩ := get_ex (l := t.Trips) (i := k) (by omega)
      obtain ⟨l, hl', hp, _⟩ := trip_line hT hx
      have hs6 := hp.1
      have hr := line_runs hp
      have hsr := sum_mrng (f := sL t) (M := 6) (l := t.Trips.take k) fun z hz => by
        obtain ⟨i, hi⟩ := List.getElem?_of_mem (List.mem_of_mem_take hz)
        obtain ⟨l2, hl2, hp2, _⟩ := trip_line hT hi
        rw [sL_eq hl2]; have := hp2.1; omega
      have hlk : ((t.Trips.take k).length : Int) ≤ 12 := by rw [List.length_take]; omega
      refine .eq (ixs hx) (.eq (StopTimes_eq hb hT hx hl') (.ite (fun h => by cases h) fun _ => .nx ⟨m - 1, by omega, k + 1, w64_succ (by omega), by omega, ?_⟩))
      dsimp only
      rw [sum_tk _ hx, sL_eq hl', ST_len, w64_id (by omega)]
      omega
    · rw [hB] at e; cases e
      have hca := count_all hb hv
      refine .flb ((Tot.iter (fun m s => ∃ k : Nat, s.2 = (k : Int) ∧ m + k = t.Network.Stops.length ∧ s.1 = lostN t list t.Trips.length + atS t list k) (Q := fun b => b = .go (t.Trips.map (sL t)).sum) (n := t.Network.Stops.length) ⟨0, rfl, by omega, by dsimp only; rw [a2]; simp [atS]⟩ ?_).mono fun b hB => ⟨fun r e => (by rw [hB] at e; cases e), fun u e => ?_⟩)
      · rintro m ⟨s, v⟩ ⟨k, hk, hm, hs⟩
        simp only at hk hs
        subst hk; subst hs
        unfold v_FnRuns_L2
        dsimp only
        refine .iteP (fun hc => ?_) (fun hc => .dn (by rw [← hca, show t.Network.Stops.length = k by omega]))
        refine .call (runsAt_ok hb hl hv (s := (k : Int)) ⟨by omega, hc⟩) fun ⟨r8, ok8⟩ ⟨c1, c2⟩ => ?_
        dsimp only at c1 c2 ⊢
        subst c1
        have hcr := cnt_rng (t := t) (k : Int) list.length hl
        have har := sum_mrng (f := fun s : Nat => cnt t list (s : Int) list.length) (M := 1000) (l := List.range k) fun z _ => cnt_rng (t := t) (z : Int) list.length hl
        rw [List.length_range] at har
        have hk1 : atS t list (k + 1) = atS t list k + cnt t list (k : Int) list.length := by
          unfold atS; rw [List.range_succ, List.map_append, List.sum_append]; simp
        refine .ite (fun h => by cases h) fun _ => .nx ⟨m - 1, by omega, k + 1, w64_succ (by omega), by omega, ?_⟩
        dsimp only
        rw [c2, hk1, w64_id (by unfold atS; omega)]
        omega
      · rw [hB] at e; cases e
        refine .flb ((Tot.iter (fun m (s : Int) => ∃ k : Nat, s = (k : Int) ∧ m + k = list.length) (Q := fun b => b = .go ()) (n := list.length) ⟨0, rfl, by omega⟩ ?_).mono fun b hB => ⟨fun r e => (by rw [hB] at e; cases e), fun u e => ?_⟩)
        · rintro m s ⟨k, rfl, hm⟩
          unfold v_FnRuns_L3
          dsimp only
          refine .iteP (fun hc => ?_) (fun hc => .dn rfl)
          obtain ⟨r, hr⟩ := get_ex (l := list) (i := k) (by omega)
          obtain ⟨q, y, l, ha⟩ := at_of hv hr
          have hends := ha.ends
          have hs6 := ha.ok.1
          have hrl := runT_len ha
          refine .eq (ixs hr) (.eq (RunTimes_eq hb hl hv ha) (.call (P := fun b => b = false) (.ite (fun h => by cases h) fun _ => .eq (ixs hr) (.eq (ixs hr) (.ok ?_))) fun b hB => ?_))
          · rw [bne_eq_false_iff_eq, hrl, w64_id (x := r.To - r.From) (by omega), w64_id (by omega)]
          · subst hB
            exact .ite (fun h => by cases h) fun _ => .nx ⟨m - 1, by omega, k + 1, w64_succ (by omega), by omega⟩
        · have hp := plan_valid hT
          have hpl : (plan t).length ≤ 1000 := by unfold plan; rw [List.length_map]; omega
          refine .eq (planned_eq hb hT) (.call (ilost_ok hb hpl hp) fun ⟨r14, ok14⟩ ⟨d1, d2⟩ => ?_)
          dsimp only at d1 d2 ⊢
          subst d1
          rw [plan_lost hT] at d2
          simp only [beq_self_eq_true, if_true, Option.bind_some]
          exact .ok (by rw [d2]; rfl)
  · have e1 : i_LostCalls t list = some ([], false) := by
      unfold i_LostCalls
      simp only [validRuns_eq hb list hl, hv, decide_false, Bool.not_false, if_true, Option.bind_some]
    have e2 : s_LostCalls t list = some ([], false) := by
      unfold s_LostCalls
      simp only [l18Asked_eq hb list hl, hv, decide_false, Bool.not_false, if_true, Option.bind_some]
    rw [e1, e2]
    simp only [Option.bind_some, beq_self_eq_true, Bool.not_true, Bool.false_eq_true, if_false, bne_self_eq_false, validRuns_eq hb list hl, hv, decide_false, Bool.not_false, if_true]
    exact .ok rfl
end Go.Proofs.Ytgminbcbkcacnaa
