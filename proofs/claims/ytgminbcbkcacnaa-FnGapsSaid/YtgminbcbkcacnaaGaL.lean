/- The plain law: what the models compute, no program in sight. -/
import Derived.Test.YtgminbcbkcacnaaGaM
import Derived.Test.YtgminbcbkcacnaaAbPdq6
namespace Go.Proofs.Ytgminbcbkcacnaa
open Go Go.Ab
set_option linter.unusedVariables false
set_option linter.unusedSimpArgs false
/-! The cursor of the draws: it always answers. -/
def Cur (k : Nat) (c : l1Cur) : Prop := 0 ≤ c.at_ ∧ c.at_ ≤ k
theorem Cur.mono {k k' : Nat} {c : l1Cur} (h : Cur k c) (hk : k ≤ k') : Cur k' c := ⟨h.1, by have := h.2; omega⟩
theorem next_ok {k : Nat} {c : l1Cur} (h : Cur k c) (hk : k ≤ 4000000000) : ∃ r, s_l1Cur_next c = some r ∧ Cur (k + 1) r.2 ∧ 0 ≤ r.1 ∧ r.1 ≤ 255 := by
  obtain ⟨h0, h1⟩ := h
  have hw : w64 (c.at_ + 1) = c.at_ + 1 := w64_id (by omega)
  have hcur : ∀ s, Cur (k + 1) ⟨c.code_, w64 (c.at_ + 1), s⟩ := fun s => by rw [hw]; exact ⟨by show 0 ≤ c.at_ + 1; omega, by show c.at_ + 1 ≤ _; omega⟩
  unfold s_l1Cur_next
  have hv : ∃ v, (if (decide (c.at_ < (c.code_.length : Int))) = true then (idx c.code_ c.at_).bind fun e1 => some (w64 ((e1.toNat : Int))) else some 0) = some v ∧ 0 ≤ v ∧ v ≤ 255 := by
    by_cases hlt : c.at_ < c.code_.length
    · obtain ⟨x, hx, _, _⟩ := idx_lt h0 hlt
      have := x.toNat_lt
      refine ⟨(x.toNat : Int), ?_, by omega, by omega⟩
      simp only [hlt, decide_true, if_true, hx, Option.bind_some]
      rw [w64_id (by omega)]
    · exact ⟨0, by simp [hlt], by omega, by omega⟩
  obtain ⟨v, hv, hv0, hv1⟩ := hv
  rw [hv]
  simp only [Option.bind_some]
  split
  · exact ⟨_, rfl, hcur _, hv0, hv1⟩
  · rw [chk_of (by omega)]
    exact ⟨_, rfl, hcur _, and255 _⟩
theorem pick_ok {k : Nat} {c : l1Cur} (n : Int) (h : Cur k c) (hk : k ≤ 3000000000) : ∃ r, s_l1Cur_pick c n = some r ∧ Cur (k + 2) r.2 ∧ 0 ≤ r.1 ∧ (r.1 < n ∨ r.1 = 0) := by
  unfold s_l1Cur_pick
  by_cases hn : n ≤ 1
  · exact ⟨(0, c), by simp [hn], h.mono (by omega), by simp, .inr rfl⟩
  · obtain ⟨r, hr, hc, h0, h1⟩ := next_ok h (by omega)
    have hn' : decide (n ≤ 1) = false := by simpa using hn
    simp only [hn', Bool.false_eq_true, if_false, hr, Option.bind_some]
    have hne : chk (n ≠ 0) = some () := chk_of (by omega)
    by_cases h2 : 200 < n
    · obtain ⟨r', hr', hc', h0', h1'⟩ := next_ok hc (by omega)
      have e1 : w64 (r.1 * 256) = r.1 * 256 := w64_id (by omega)
      have e2 : w64 (r.1 * 256 + r'.1) = r.1 * 256 + r'.1 := w64_id (by omega)
      have h3 := tmod_rng (a := r.1 * 256 + r'.1) (b := n) (by omega) (by omega)
      simp only [h2, decide_true, if_true, hr', Option.bind_some, hne, e1, e2]
      exact ⟨_, rfl, hc'.mono (by omega), h3.1, .inl h3.2⟩
    · have h2' : decide (200 < n) = false := by simpa using h2
      have h3 := tmod_rng (a := r.1) (b := n) (by omega) (by omega)
      simp only [h2', Bool.false_eq_true, if_false, Option.bind_some, hne]
      exact ⟨_, rfl, hc.mono (by omega), h3.1, .inl h3.2⟩
theorem amongw_ok {k : Nat} {c : l1Cur} (l : List Int) (hl : l ≠ []) (h : Cur k c) (hk : k ≤ 3000000000) : ∃ r, s_l1Cur_among_w c l = some r ∧ Cur (k + 2) r.2 ∧ r.1 ∈ l := by
  unfold s_l1Cur_among_w
  obtain ⟨r, hr, hc, h0, h1⟩ := pick_ok (l.length : Int) h hk
  have hpos : 0 < l.length := List.length_pos_iff.2 hl
  obtain ⟨x, hx, _, hm⟩ := idx_lt (l := l) h0 (by omega)
  simp only [hr, Option.bind_some, hx]
  exact ⟨_, rfl, hc, hm⟩
theorem among_ok {k : Nat} {c : l1Cur} (l : List Int) (hl : l ≠ []) (h : Cur k c) (hk : k ≤ 3000000000) : ∃ r, s_l1Cur_among c l = some r ∧ Cur (k + 2) r.2 ∧ r.1 ∈ l := by
  have : s_l1Cur_among c l = s_l1Cur_among_w c l := rfl
  rw [this]; exact amongw_ok l hl h hk
theorem one_ok {k : Nat} {c : l1Cur} (n : Int) (h : Cur k c) (hk : k ≤ 3000000000) : ∃ r, s_l1Cur_one c n = some r ∧ Cur (k + 2) r.2 := by
  unfold s_l1Cur_one
  obtain ⟨r, hr, hc, _, _⟩ := pick_ok n h hk
  simp only [hr, Option.bind_some]
  exact ⟨_, rfl, hc⟩
theorem of_ok {k : Nat} {c : l1Cur} (l : List ByteArray) (hl : l ≠ []) (h : Cur k c) (hk : k ≤ 3000000000) : ∃ r, s_l1Cur_of c l = some r ∧ Cur (k + 2) r.2 ∧ r.1 ∈ l := by
  unfold s_l1Cur_of
  obtain ⟨r, hr, hc, h0, h1⟩ := pick_ok (l.length : Int) h hk
  have hpos : 0 < l.length := List.length_pos_iff.2 hl
  obtain ⟨x, hx, _, hm⟩ := idx_lt (l := l) h0 (by omega)
  simp only [hr, Option.bind_some, hx]
  exact ⟨_, rfl, hc, hm⟩
theorem ofw_ok {k : Nat} {c : l1Cur} (l : List ByteArray) (hl : l ≠ []) (h : Cur k c) (hk : k ≤ 3000000000) : ∃ r, s_l1Cur_of_w c l = some r ∧ Cur (k + 2) r.2 ∧ r.1 ∈ l := by
  have : s_l1Cur_of_w c l = s_l1Cur_of c l := rfl
  rw [this]; exact of_ok l hl h hk
theorem cur0 (code : List UInt8) : Cur 0 ⟨code, 0, ⟨0⟩⟩ := ⟨by show (0 : Int) ≤ 0; omega, by show (0 : Int) ≤ _; omega⟩
/-! Networks: when they are valid, for the program and for the reference. -/
theorem within_eq (n lo hi : Int) : i_within n lo hi = some (decide (lo ≤ n ∧ n ≤ hi)) := by
  unfold i_within
  by_cases h : lo ≤ n <;> simp [h]
theorem l1In_eq (n lo hi : Int) : s_l1In n lo hi = some (decide (lo ≤ n ∧ n ≤ hi)) := by
  unfold s_l1In
  by_cases h : lo ≤ n <;> simp [h]
/-- Byte i of a name. -/
def ChOK (i : Nat) (c : UInt8) : Prop := (97 ≤ (c.toNat : Int) ∧ (c.toNat : Int) ≤ 122) ∨ (i ≠ 0 ∧ 48 ≤ (c.toNat : Int) ∧ (c.toNat : Int) ≤ 57)
def NameOK (s : ByteArray) : Prop := (1 ≤ s.size ∧ s.size ≤ 8) ∧ ∀ (i : Nat) c, s.data.toList[i]? = some c → ChOK i c
open Classical in
noncomputable instance (s : ByteArray) : Decidable (NameOK s) := Classical.propDecidable _
theorem size_list (s : ByteArray) : s.data.toList.length = s.size := by simp
theorem getD_of {α : Type} {l : List α} {i : Nat} {x d : α} (h : l[i]? = some x) : l.getD i d = x := by rw [List.getD_eq_getElem?_getD, h]; rfl

theorem isName_eq (s : ByteArray) : i_isName s = some (decide (NameOK s)) := by
  unfold i_isName
  by_cases h1 : 1 ≤ s.size ∧ s.size ≤ 8
  · have e1 : decide ((s.size : Int) < 1) = false := by simp; omega
    have e2 : decide (8 < (s.size : Int)) = false := by simp; omega
    simp only [e1, e2, Bool.false_eq_true, if_false, Option.bind_some]
    have hsz := size_list s
    have key := all_loop s.data.toList ChOK (step := i_isName_L1 s) ?_ ?_ 0 0 rfl (by omega)
    · rcases key with ⟨g1, g2⟩ | ⟨g1, g2⟩
      · rw [g1, flb_go]
        have : NameOK s := ⟨h1, fun i c hc => g2 i c (by omega) hc⟩
        simp [this]
      · rw [g1, flb_ret]
        have : ¬ NameOK s := fun hn => g2 fun i c _ hc => hn.2 i c hc
        simp [this]
    · intro i x hx
      have hi := (List.getElem?_eq_some_iff.1 hx).1
      have hg : s.data.toList.getD (i : Int).toNat 0 = x := by rw [Int.toNat_natCast]; exact getD_of hx
      have hc : chk ((0 : Int) ≤ (i : Int) ∧ (i : Int) < (s.size : Int)) = some () := chk_of (by omega)
      have hlt : decide ((i : Int) < (s.size : Int)) = true := by simp; omega
      unfold i_isName_L1
      simp only [hlt, if_true, hc, hg, Option.bind_some, w64_succ (n := i) (by omega)]
      unfold ChOK
      by_cases a1 : (97 : Int) ≤ (x.toNat : Int)
      · by_cases a2 : (x.toNat : Int) ≤ 122
        · left; refine ⟨by simp [a1, a2], .inl ⟨a1, a2⟩⟩
        · right
          refine ⟨?_, by omega⟩
          have b1 : decide ((x.toNat : Int) < 48) = false := by simp; omega
          have b2 : decide ((57 : Int) < (x.toNat : Int)) = true := by simp; omega
          have c1 : ¬ (x.toNat : Int) < 48 := by omega
          have c2 : (57 : Int) < (x.toNat : Int) := by omega
          by_cases hi0 : i = 0
          · simp [a1, a2, hi0]
          · have hi0' : ((i : Int) == 0) = false := by simp; omega
            simp [a1, a2, hi0', c1, c2]
      · by_cases hi0 : i = 0
        · right
          refine ⟨by simp [a1, hi0], by omega⟩
        · have hi0' : ((i : Int) == 0) = false := by simp; omega
          by_cases b1 : (x.toNat : Int) < 48
          · right
            refine ⟨by simp [a1, hi0', b1], by omega⟩
          · by_cases b2 : (57 : Int) < (x.toNat : Int)
            · right
              refine ⟨by simp [a1, hi0', b1, b2], by omega⟩
            · left
              refine ⟨by simp [a1, hi0', b1, b2], .inr ⟨hi0, by omega, by omega⟩⟩
    · unfold i_isName_L1
      rw [hsz]
      simp
  · have : ¬ NameOK s := fun h => h1 h.1
    have e : (if (decide ((s.size : Int) < 1)) = true then some true else some (decide (8 < (s.size : Int)))) = some true := by
      by_cases h2 : s.size < 1
      · have : decide ((s.size : Int) < 1) = true := by simp; omega
        simp [this]
      · have e1 : decide ((s.size : Int) < 1) = false := by simp; omega
        have e2 : decide (8 < (s.size : Int)) = true := by simp; omega
        simp [e1, e2]
    rw [e]
    simp [this]

theorem l2Name_eq (s : ByteArray) : s_l2Name s = some (decide (NameOK s)) := by
  unfold s_l2Name
  rw [l1In_eq]
  simp only [Option.bind_some]
  by_cases h1 : 1 ≤ s.size ∧ s.size ≤ 8
  · have e1 : decide ((1 : Int) ≤ (s.size : Int) ∧ (s.size : Int) ≤ 8) = true := by simp; omega
    have hsz := size_list s
    obtain ⟨x0, hx0⟩ := get_ex (l := s.data.toList) (i := 0) (by omega)
    have hg0 : s.data.toList.getD (0 : Int).toNat 0 = x0 := getD_of hx0
    have hc0 : chk ((0 : Int) ≤ 0 ∧ 0 < (s.size : Int)) = some () := chk_of (by omega)
    simp only [e1, Bool.not_true, Bool.false_eq_true, if_false, hc0, hg0, Option.bind_some]
    by_cases a0 : 97 ≤ (x0.toNat : Int) ∧ (x0.toNat : Int) ≤ 122
    · have b1 : decide ((x0.toNat : Int) < 97) = false := by simp; omega
      have b2 : decide ((122 : Int) < (x0.toNat : Int)) = false := by simp; omega
      simp only [b1, b2, Bool.false_eq_true, if_false, Option.bind_some]
      have key := all_loop s.data.toList ChOK (step := s_l2Name_L1 s) ?_ ?_ 0 0 rfl (by omega)
      · rcases key with ⟨g1, g2⟩ | ⟨g1, g2⟩
        · rw [g1, flb_go]
          have : NameOK s := ⟨h1, fun i c hc => g2 i c (by omega) hc⟩
          simp [this]
        · rw [g1, flb_ret]
          have : ¬ NameOK s := fun hn => g2 fun i c _ hc => hn.2 i c hc
          simp [this]
      · intro i x hx
        have hi := (List.getElem?_eq_some_iff.1 hx).1
        have hg : s.data.toList.getD (i : Int).toNat 0 = x := by rw [Int.toNat_natCast]; exact getD_of hx
        have hc : chk ((0 : Int) ≤ (i : Int) ∧ (i : Int) < (s.size : Int)) = some () := chk_of (by omega)
        have hlt : decide ((i : Int) < (s.size : Int)) = true := by simp; omega
        have h0 : i = 0 → x = x0 := fun h => by subst h; rw [hx0] at hx; cases hx; rfl
        unfold s_l2Name_L1
        simp only [hlt, if_true, hc, hg, Option.bind_some, w64_succ (n := i) (by omega)]
        unfold ChOK
        by_cases a1 : (x.toNat : Int) < 97
        · have hi0 : i ≠ 0 := fun h => by have := h0 h; subst this; omega
          by_cases c1 : (x.toNat : Int) < 48
          · right; refine ⟨by simp [a1, c1], by omega⟩
          · by_cases c2 : (57 : Int) < (x.toNat : Int)
            · right; refine ⟨by simp [a1, c1, c2], by omega⟩
            · left; refine ⟨by simp [a1, c1, c2], .inr ⟨hi0, by omega, by omega⟩⟩
        · by_cases a2 : (122 : Int) < (x.toNat : Int)
          · right
            have c1 : ¬ (x.toNat : Int) < 48 := by omega
            have c2 : (57 : Int) < (x.toNat : Int) := by omega
            refine ⟨by simp [a1, a2, c1, c2], by omega⟩
          · left; refine ⟨by simp [a1, a2], .inl ⟨by omega, by omega⟩⟩
      · unfold s_l2Name_L1
        rw [hsz]
        simp
    · have : ¬ NameOK s := fun hn => by
        have := hn.2 0 x0 hx0
        unfold ChOK at this
        omega
      have e : (if (decide ((x0.toNat : Int) < 97)) = true then some true else some (decide ((122 : Int) < (x0.toNat : Int)))) = some true := by
        by_cases h2 : (x0.toNat : Int) < 97
        · simp [h2]
        · have : (122 : Int) < (x0.toNat : Int) := by omega
          simp [h2, this]
      rw [e]
      simp [this]
  · have e1 : decide ((1 : Int) ≤ (s.size : Int) ∧ (s.size : Int) ≤ 8) = false := by simp; omega
    have : ¬ NameOK s := fun h => h1 h.1
    simp [e1, this]

/-! Searches -/
theorem index_str_eq (l : List ByteArray) (hl : l.length ≤ 4000000000) (v : ByteArray) : slices_Index_string l v = some (fixI (fun e => v.toList == e.toList) l) := by
  unfold slices_Index_string
  refine find_val l (fun e => v.toList == e.toList) (fun i x hx => ?_) (by unfold slices_Index_string_L1; simp)
  have hi := (List.getElem?_eq_some_iff.1 hx).1
  unfold slices_Index_string_L1
  have hlt : decide ((i : Int) < (l.length : Int)) = true := by simp; omega
  simp only [hlt, if_true, idx_nat, hx, Option.bind_some, w64_succ (n := i) (by omega)]
  split <;> rfl
theorem index_int_eq (l : List Int) (hl : l.length ≤ 4000000000) (v : Int) : slices_Index_int l v = some (fixI (fun e => v == e) l) := by
  unfold slices_Index_int
  refine find_val l (fun e => v == e) (fun i x hx => ?_) (by unfold slices_Index_int_L1; simp)
  have hi := (List.getElem?_eq_some_iff.1 hx).1
  unfold slices_Index_int_L1
  have hlt : decide ((i : Int) < (l.length : Int)) = true := by simp; omega
  simp only [hlt, if_true, idx_nat, hx, Option.bind_some, w64_succ (n := i) (by omega)]
  split <;> rfl
theorem l2Place_eq (x : Line) (hl : x.Stops.length ≤ 4000000000) (v : Int) : s_l2Place x v = some (fixI (fun e => v == e) x.Stops) := by
  have hc : fixI (fun e => v == e) x.Stops = fixI (fun e => e == v) x.Stops := fixI_congr _ fun e => BEq.comm
  rw [hc]
  unfold s_l2Place
  refine find_val x.Stops (fun e => e == v) (fun i y hx => ?_) (by unfold s_l2Place_L1; simp)
  have hi := (List.getElem?_eq_some_iff.1 hx).1
  unfold s_l2Place_L1
  have hlt : decide ((i : Int) < (x.Stops.length : Int)) = true := by simp; omega
  simp only [hlt, if_true, idx_nat, hx, Option.bind_some, w64_succ (n := i) (by omega)]
  split <;> rfl
theorem bl_comm (a b : List UInt8) : (a == b) = (b == a) := BEq.comm
theorem l2Find_eq (l : List ByteArray) (hl : l.length ≤ 4000000000) (v : ByteArray) : s_l2Find l v = some (fixI (fun e => v.toList == e.toList) l) := by
  rw [fixI_congr l (q := fun e => e.toList == v.toList) fun e => bl_comm _ _]
  unfold s_l2Find
  refine find_val l (fun e => e.toList == v.toList) (fun i x hx => ?_) (by unfold s_l2Find_L1; simp)
  have hi := (List.getElem?_eq_some_iff.1 hx).1
  unfold s_l2Find_L1
  have hlt : decide ((i : Int) < (l.length : Int)) = true := by simp; omega
  simp only [hlt, if_true, idx_nat, hx, Option.bind_some, w64_succ (n := i) (by omega)]
  split <;> rfl
theorem l2LineNamed_eq (n : Network) (hl : n.Lines.length ≤ 4000000000) (v : ByteArray) : s_l2LineNamed n v = some (fixI (fun e => v.toList == e.toList) (n.Lines.map (·.Name))) := by
  rw [fixI_map, fixI_congr n.Lines (q := fun e => e.Name.toList == v.toList) fun e => bl_comm _ _]
  unfold s_l2LineNamed
  refine find_val n.Lines (fun e => e.Name.toList == v.toList) (fun i x hx => ?_) (by unfold s_l2LineNamed_L1; simp)
  have hi := (List.getElem?_eq_some_iff.1 hx).1
  unfold s_l2LineNamed_L1
  have hlt : decide ((i : Int) < (n.Lines.length : Int)) = true := by simp; omega
  simp only [hlt, if_true, idx_nat, hx, Option.bind_some, w64_succ (n := i) (by omega)]
  split <;> rfl
def NamesP (l : List ByteArray) : Prop := ∀ (i : Nat) x, l[i]? = some x → NameOK x ∧ fixI (fun e => x.toList == e.toList) l = (i : Int)
def LineP (st : Nat) (x : Line) : Prop := (2 ≤ x.Stops.length ∧ x.Stops.length ≤ 6) ∧ (x.Runs.length : Int) = (x.Stops.length : Int) - 1 ∧
  (∀ (i : Nat) e, x.Stops[i]? = some e → (0 ≤ e ∧ e < (st : Int)) ∧ fixI (fun y => e == y) x.Stops = (i : Int)) ∧ ∀ (i : Nat) r, x.Runs[i]? = some r → 1 ≤ r ∧ r ≤ 60
def Good (n : Network) : Prop := (2 ≤ n.Stops.length ∧ n.Stops.length ≤ 8) ∧ (1 ≤ n.Lines.length ∧ n.Lines.length ≤ 5) ∧ NamesP n.Stops ∧ NamesP (n.Lines.map (·.Name)) ∧ ∀ (i : Nat) x, n.Lines[i]? = some x → LineP n.Stops.length x
noncomputable instance (l : List ByteArray) : Decidable (NamesP l) := Classical.propDecidable _
noncomputable instance (st : Nat) (x : Line) : Decidable (LineP st x) := Classical.propDecidable _
noncomputable instance (n : Network) : Decidable (Good n) := Classical.propDecidable _
/-- No list is too long. -/
def Bd (n : Network) : Prop := n.Stops.length ≤ 1000 ∧ n.Lines.length ≤ 1000 ∧ ∀ x ∈ n.Lines, x.Stops.length ≤ 1000 ∧ x.Runs.length ≤ 1000

theorem areNames_eq (l : List ByteArray) (hl : l.length ≤ 1000) : i_areNames l = some (decide (NamesP l)) := by
  unfold i_areNames
  rw [all_val (hd := Classical.propDecidable _) l (fun i x => NameOK x ∧ fixI (fun e => x.toList == e.toList) l = (i : Int)) (fun i x hx => ?_) (by unfold i_areNames_L1; simp)]
  · by_cases h : NamesP l
    · rw [if_pos (show ∀ (i : Nat) x, l[i]? = some x → NameOK x ∧ fixI (fun e => x.toList == e.toList) l = (i : Int) from h)]; simp [h]
    · rw [if_neg (show ¬ ∀ (i : Nat) x, l[i]? = some x → NameOK x ∧ fixI (fun e => x.toList == e.toList) l = (i : Int) from h)]; simp [h]
  · have hi := (List.getElem?_eq_some_iff.1 hx).1
    unfold i_areNames_L1
    have hlt : decide ((i : Int) < (l.length : Int)) = true := by simp; omega
    simp only [hlt, if_true, idx_nat, hx, Option.bind_some, isName_eq, index_str_eq l (by omega), w64_succ (n := i) (by omega)]
    by_cases h1 : NameOK x
    · by_cases h2 : fixI (fun e => x.toList == e.toList) l = (i : Int)
      · left; simp [h1, h2]
      · right; simp [h1, h2]
    · right; simp [h1]

theorem lineNames_eq (n : Network) (hl : n.Lines.length ≤ 1000) : i_lineNames n = some (n.Lines.map (·.Name)) := by
  unfold i_lineNames
  rw [chk_of (by omega)]
  simp only [Option.bind_some]
  rw [fill_loop (fun x : Line => x.Name) n.Lines _ (by simp) (fun i a x y ha hy hx => ?_) (fun a ha => ?_)]
  · rfl
  · have hi := (List.getElem?_eq_some_iff.1 hx).1
    unfold i_lineNames_L1
    have hlt : decide ((i : Int) < (n.Lines.length : Int)) = true := by simp; omega
    simp only [hlt, if_true, idx_nat, hx, hy, Option.bind_some, w64_succ (n := i) (by omega), Int.toNat_natCast]
  · unfold i_lineNames_L1; simp

theorem isStop_eq (n : Network) (e : Int) : i_isStop n e = some (decide (0 ≤ e ∧ e < (n.Stops.length : Int))) := by
  unfold i_isStop
  by_cases h : 0 ≤ e <;> simp [h]
theorem isLine_eq (n : Network) (e : Int) : i_isLine n e = some (decide (0 ≤ e ∧ e < (n.Lines.length : Int))) := by
  unfold i_isLine
  by_cases h : 0 ≤ e <;> simp [h]

theorem isValidLine_eq (n : Network) (l : Line) (h1 : l.Stops.length ≤ 1000) (h2 : l.Runs.length ≤ 1000) : i_isValidLine n l = some (decide (LineP n.Stops.length l)) := by
  unfold i_isValidLine
  rw [within_eq]
  have e0 : w64 ((l.Stops.length : Int) - 1) = (l.Stops.length : Int) - 1 := w64_id (by omega)
  simp only [Option.bind_some, e0]
  by_cases a1 : 2 ≤ l.Stops.length ∧ l.Stops.length ≤ 6
  · have d1 : decide ((2 : Int) ≤ (l.Stops.length : Int) ∧ (l.Stops.length : Int) ≤ 6) = true := by simp; omega
    simp only [d1, Bool.not_true, Bool.false_eq_true, if_false]
    by_cases a2 : (l.Runs.length : Int) = (l.Stops.length : Int) - 1
    · have d2 : ((l.Runs.length : Int) != (l.Stops.length : Int) - 1) = false := by simp [a2]
      simp only [d2, Option.bind_some, Bool.false_eq_true, if_false]
      rw [all_val (hd := Classical.propDecidable _) l.Stops (fun i e => (0 ≤ e ∧ e < (n.Stops.length : Int)) ∧ fixI (fun y => e == y) l.Stops = (i : Int)) (fun i x hx => ?_) (by unfold i_isValidLine_L1; simp)]
      · rw [all_val (hd := Classical.propDecidable _) l.Runs (fun i r => 1 ≤ r ∧ r ≤ 60) (fun i x hx => ?_) (by unfold i_isValidLine_L2; simp)]
        · by_cases b1 : ∀ (i : Nat) e, l.Stops[i]? = some e → (0 ≤ e ∧ e < (n.Stops.length : Int)) ∧ fixI (fun y => e == y) l.Stops = (i : Int)
          · rw [if_pos b1]
            by_cases b2 : ∀ (i : Nat) r, l.Runs[i]? = some r → 1 ≤ r ∧ r ≤ 60
            · rw [if_pos b2]
              have : LineP n.Stops.length l := ⟨a1, a2, b1, b2⟩
              simp [this]
            · rw [if_neg b2]
              have : ¬ LineP n.Stops.length l := fun h => b2 h.2.2.2
              simp [this]
          · rw [if_neg b1]
            have : ¬ LineP n.Stops.length l := fun h => b1 h.2.2.1
            simp [this]
        · have hi := (List.getElem?_eq_some_iff.1 hx).1
          unfold i_isValidLine_L2
          have hlt : decide ((i : Int) < (l.Runs.length : Int)) = true := by simp; omega
          simp only [hlt, if_true, idx_nat, hx, Option.bind_some, within_eq, w64_succ (n := i) (by omega)]
          by_cases b : 1 ≤ x ∧ x ≤ 60
          · left; simp [b]
          · right; simp [b]
      · have hi := (List.getElem?_eq_some_iff.1 hx).1
        unfold i_isValidLine_L1
        have hlt : decide ((i : Int) < (l.Stops.length : Int)) = true := by simp; omega
        simp only [hlt, if_true, idx_nat, hx, Option.bind_some, isStop_eq, index_int_eq l.Stops (by omega), w64_succ (n := i) (by omega)]
        by_cases b1 : 0 ≤ x ∧ x < (n.Stops.length : Int)
        · by_cases b2 : fixI (fun y => x == y) l.Stops = (i : Int)
          · left; simp [b1, b2]
          · right; simp [b1, b2]
        · right; simp [b1]
    · have d2 : ((l.Runs.length : Int) != (l.Stops.length : Int) - 1) = true := by simp [a2]
      have : ¬ LineP n.Stops.length l := fun h => a2 h.2.1
      simp [d2, this]
  · have d1 : decide ((2 : Int) ≤ (l.Stops.length : Int) ∧ (l.Stops.length : Int) ≤ 6) = false := by simp; omega
    have : ¬ LineP n.Stops.length l := fun h => a1 h.1
    simp [d1, this]

theorem l2Line_eq (l : Line) (st : Nat) (hst : st ≤ 1000) (h1 : l.Stops.length ≤ 1000) (h2 : l.Runs.length ≤ 1000) : s_l2Line l (st : Int) = some (decide (NameOK l.Name ∧ LineP st l)) := by
  unfold s_l2Line
  rw [l2Name_eq]
  have e0 : w64 ((l.Stops.length : Int) - 1) = (l.Stops.length : Int) - 1 := w64_id (by omega)
  have e1 : w64 ((st : Int) - 1) = (st : Int) - 1 := w64_id (by omega)
  simp only [Option.bind_some, e0, l1In_eq]
  by_cases a0 : NameOK l.Name
  · simp only [a0, decide_true, Bool.not_true, Bool.false_eq_true, if_false, true_and]
    by_cases a1 : 2 ≤ l.Stops.length ∧ l.Stops.length ≤ 6
    · have d1 : decide ((2 : Int) ≤ (l.Stops.length : Int) ∧ (l.Stops.length : Int) ≤ 6) = true := by simp; omega
      simp only [d1, Bool.not_true, Bool.false_eq_true, if_false]
      by_cases a2 : (l.Runs.length : Int) = (l.Stops.length : Int) - 1
      · have d2 : ((l.Runs.length : Int) != (l.Stops.length : Int) - 1) = false := by simp [a2]
        simp only [d2, Option.bind_some, Bool.false_eq_true, if_false]
        rw [all_val (hd := Classical.propDecidable _) l.Stops (fun i e => (0 ≤ e ∧ e < (st : Int)) ∧ fixI (fun y => e == y) l.Stops = (i : Int)) (fun i x hx => ?_) (by unfold s_l2Line_L1; simp)]
        · rw [all_val (hd := Classical.propDecidable _) l.Runs (fun i r => 1 ≤ r ∧ r ≤ 60) (fun i x hx => ?_) (by unfold s_l2Line_L2; simp)]
          · by_cases b1 : ∀ (i : Nat) e, l.Stops[i]? = some e → (0 ≤ e ∧ e < (st : Int)) ∧ fixI (fun y => e == y) l.Stops = (i : Int)
            · rw [if_pos b1]
              by_cases b2 : ∀ (i : Nat) r, l.Runs[i]? = some r → 1 ≤ r ∧ r ≤ 60
              · rw [if_pos b2]
                have : LineP st l := ⟨a1, a2, b1, b2⟩
                simp [this]
              · rw [if_neg b2]
                have : ¬ LineP st l := fun h => b2 h.2.2.2
                simp [this]
            · rw [if_neg b1]
              have : ¬ LineP st l := fun h => b1 h.2.2.1
              simp [this]
          · have hi := (List.getElem?_eq_some_iff.1 hx).1
            unfold s_l2Line_L2
            have hlt : decide ((i : Int) < (l.Runs.length : Int)) = true := by simp; omega
            simp only [hlt, if_true, idx_nat, hx, Option.bind_some, l1In_eq, w64_succ (n := i) (by omega)]
            by_cases b : 1 ≤ x ∧ x ≤ 60
            · left; simp [b]
            · right; simp [b]
        · have hi := (List.getElem?_eq_some_iff.1 hx).1
          unfold s_l2Line_L1
          have hlt : decide ((i : Int) < (l.Stops.length : Int)) = true := by simp; omega
          simp only [hlt, if_true, idx_nat, hx, Option.bind_some, l1In_eq, e1, l2Place_eq l (by omega), w64_succ (n := i) (by omega)]
          by_cases b1 : 0 ≤ x ∧ x < (st : Int)
          · have d3 : decide (0 ≤ x ∧ x ≤ (st : Int) - 1) = true := by simp; omega
            by_cases b2 : fixI (fun y => x == y) l.Stops = (i : Int)
            · left; simp only [d3]; simp [b1, b2]
            · right; simp only [d3]; simp [b1, b2]
          · have d3 : decide (0 ≤ x ∧ x ≤ (st : Int) - 1) = false := by simp; omega
            right; simp only [d3]; simp [b1]
      · have d2 : ((l.Runs.length : Int) != (l.Stops.length : Int) - 1) = true := by simp [a2]
        have : ¬ LineP st l := fun h => a2 h.2.1
        simp [d2, this]
    · have d1 : decide ((2 : Int) ≤ (l.Stops.length : Int) ∧ (l.Stops.length : Int) ≤ 6) = false := by simp; omega
      have : ¬ LineP st l := fun h => a1 h.1
      simp [d1, this]
  · simp [a0]

theorem valid_eq (n : Network) (h : Bd n) : i_IsValidNetwork n = some (decide (Good n)) := by
  obtain ⟨h1, h2, h3⟩ := h
  unfold i_IsValidNetwork
  simp only [within_eq, Option.bind_some, areNames_eq n.Stops h1, lineNames_eq n h2, areNames_eq (n.Lines.map (·.Name)) (by simpa using h2)]
  by_cases a1 : 2 ≤ n.Stops.length ∧ n.Stops.length ≤ 8
  · have d1 : decide ((2 : Int) ≤ (n.Stops.length : Int) ∧ (n.Stops.length : Int) ≤ 8) = true := by simp; omega
    simp only [d1, Bool.not_true, Bool.false_eq_true, if_false]
    by_cases a2 : 1 ≤ n.Lines.length ∧ n.Lines.length ≤ 5
    · have d2 : decide ((1 : Int) ≤ (n.Lines.length : Int) ∧ (n.Lines.length : Int) ≤ 5) = true := by simp; omega
      simp only [d2, Bool.not_true, Bool.false_eq_true, if_false]
      by_cases a3 : NamesP n.Stops
      · simp only [a3, decide_true, Bool.not_true, Bool.false_eq_true, if_false]
        by_cases a4 : NamesP (n.Lines.map (·.Name))
        · simp only [a4, decide_true, Bool.not_true, Option.bind_some, Bool.false_eq_true, if_false]
          rw [all_val (hd := Classical.propDecidable _) n.Lines (fun i x => LineP n.Stops.length x) (fun i x hx => ?_) (by unfold i_IsValidNetwork_L1; simp)]
          · by_cases b1 : ∀ (i : Nat) x, n.Lines[i]? = some x → LineP n.Stops.length x
            · rw [if_pos b1]
              have : Good n := ⟨a1, a2, a3, a4, b1⟩
              simp [this]
            · rw [if_neg b1]
              have : ¬ Good n := fun h => b1 h.2.2.2.2
              simp [this]
          · have hi := (List.getElem?_eq_some_iff.1 hx).1
            obtain ⟨g1, g2⟩ := h3 x (List.mem_of_getElem? hx)
            unfold i_IsValidNetwork_L1
            have hlt : decide ((i : Int) < (n.Lines.length : Int)) = true := by simp; omega
            simp only [hlt, if_true, idx_nat, hx, Option.bind_some, isValidLine_eq n x g1 g2, w64_succ (n := i) (by omega)]
            by_cases b : LineP n.Stops.length x
            · left; simp [b]
            · right; simp [b]
        · have : ¬ Good n := fun h => a4 h.2.2.2.1
          simp [a4, this]
      · have : ¬ Good n := fun h => a3 h.2.2.1
        simp [a3, this]
    · have d2 : decide ((1 : Int) ≤ (n.Lines.length : Int) ∧ (n.Lines.length : Int) ≤ 5) = false := by simp; omega
      have : ¬ Good n := fun h => a2 h.2.1
      simp [d2, this]
  · have d1 : decide ((2 : Int) ≤ (n.Stops.length : Int) ∧ (n.Stops.length : Int) ≤ 8) = false := by simp; omega
    have : ¬ Good n := fun h => a1 h.1
    simp [d1, this]

theorem good_eq (n : Network) (h : Bd n) : s_l2Good n = some (decide (Good n)) := by
  obtain ⟨h1, h2, h3⟩ := h
  unfold s_l2Good
  simp only [l1In_eq, Option.bind_some]
  by_cases a1 : 2 ≤ n.Stops.length ∧ n.Stops.length ≤ 8
  · have d1 : decide ((2 : Int) ≤ (n.Stops.length : Int) ∧ (n.Stops.length : Int) ≤ 8) = true := by simp; omega
    simp only [d1, Bool.not_true, Bool.false_eq_true, if_false]
    by_cases a2 : 1 ≤ n.Lines.length ∧ n.Lines.length ≤ 5
    · have d2 : decide ((1 : Int) ≤ (n.Lines.length : Int) ∧ (n.Lines.length : Int) ≤ 5) = true := by simp; omega
      simp only [d2, Bool.not_true, Option.bind_some, Bool.false_eq_true, if_false]
      rw [all_val (hd := Classical.propDecidable _) n.Stops (fun i x => NameOK x ∧ fixI (fun e => x.toList == e.toList) n.Stops = (i : Int)) (fun i x hx => ?_) (by unfold s_l2Good_L1; simp)]
      · rw [all_val (hd := Classical.propDecidable _) n.Lines (fun i x => (NameOK x.Name ∧ LineP n.Stops.length x) ∧ fixI (fun e => x.Name.toList == e.toList) (n.Lines.map (·.Name)) = (i : Int)) (fun i x hx => ?_) (by unfold s_l2Good_L2; simp)]
        · by_cases b1 : NamesP n.Stops
          · rw [if_pos (show ∀ (i : Nat) x, n.Stops[i]? = some x → NameOK x ∧ fixI (fun e => x.toList == e.toList) n.Stops = (i : Int) from b1)]
            by_cases b2 : ∀ (i : Nat) x, n.Lines[i]? = some x → (NameOK x.Name ∧ LineP n.Stops.length x) ∧ fixI (fun e => x.Name.toList == e.toList) (n.Lines.map (·.Name)) = (i : Int)
            · rw [if_pos b2]
              have : Good n := ⟨a1, a2, b1, fun i y hy => by
                rw [List.getElem?_map] at hy
                obtain ⟨x, hx, rfl⟩ := Option.map_eq_some_iff.1 hy
                exact ⟨(b2 i x hx).1.1, (b2 i x hx).2⟩, fun i x hx => (b2 i x hx).1.2⟩
              simp [this]
            · rw [if_neg b2]
              have : ¬ Good n := fun h => b2 fun i x hx => by
                have h4 := h.2.2.2.1 i x.Name (by rw [List.getElem?_map, hx]; rfl)
                exact ⟨⟨h4.1, h.2.2.2.2 i x hx⟩, h4.2⟩
              simp [this]
          · rw [if_neg (show ¬ ∀ (i : Nat) x, n.Stops[i]? = some x → NameOK x ∧ fixI (fun e => x.toList == e.toList) n.Stops = (i : Int) from b1)]
            have : ¬ Good n := fun h => b1 h.2.2.1
            simp [this]
        · have hi := (List.getElem?_eq_some_iff.1 hx).1
          obtain ⟨g1, g2⟩ := h3 x (List.mem_of_getElem? hx)
          unfold s_l2Good_L2
          have hlt : decide ((i : Int) < (n.Lines.length : Int)) = true := by simp; omega
          simp only [hlt, if_true, idx_nat, hx, Option.bind_some, l2Line_eq x n.Stops.length h1 g1 g2, l2LineNamed_eq n (by omega), w64_succ (n := i) (by omega)]
          by_cases b1 : NameOK x.Name ∧ LineP n.Stops.length x
          · by_cases b2 : fixI (fun e => x.Name.toList == e.toList) (n.Lines.map (·.Name)) = (i : Int)
            · left; simp [b1, b2]
            · right; simp [b1, b2]
          · right; simp [b1]
      · have hi := (List.getElem?_eq_some_iff.1 hx).1
        unfold s_l2Good_L1
        have hlt : decide ((i : Int) < (n.Stops.length : Int)) = true := by simp; omega
        simp only [hlt, if_true, idx_nat, hx, Option.bind_some, l2Name_eq, l2Find_eq n.Stops (by omega), w64_succ (n := i) (by omega)]
        by_cases b1 : NameOK x
        · by_cases b2 : fixI (fun e => x.toList == e.toList) n.Stops = (i : Int)
          · left; simp [b1, b2]
          · right; simp [b1, b2]
        · right; simp [b1]
    · have d2 : decide ((1 : Int) ≤ (n.Lines.length : Int) ∧ (n.Lines.length : Int) ≤ 5) = false := by simp; omega
      have : ¬ Good n := fun h => a2 h.2.1
      simp [d2, this]
  · have d1 : decide ((2 : Int) ≤ (n.Stops.length : Int) ∧ (n.Stops.length : Int) ≤ 8) = false := by simp; omega
    have : ¬ Good n := fun h => a1 h.1
    simp [d1, this]
/-! Copies, reversed lists, the reversed line. -/
theorem l1Own_eq (l : List Int) (h : l.length ≤ 1000) : s_l1Own_f l = some l := by
  unfold s_l1Own_f
  rw [chk_of (by simp; omega)]; rfl
theorem l2Own_eq (n : Network) (h : Bd n) : s_l2Own n = some n := by
  obtain ⟨h1, h2, h3⟩ := h
  unfold s_l2Own
  rw [chk_of (by simp; omega)]
  simp only [Option.bind_some]
  rw [app_loop (fun x : Line => x) n.Lines (fun i a x ha hx => ?_) (fun a ha => ?_)]
  · simp only [Option.bind_some, List.map_id', List.nil_append]
  · have hi := (List.getElem?_eq_some_iff.1 hx).1
    obtain ⟨g1, g2⟩ := h3 x (List.mem_of_getElem? hx)
    unfold s_l2Own_L1
    have hlt : decide ((i : Int) < (n.Lines.length : Int)) = true := by simp; omega
    have hch : ∀ y : Line, chk (a.length + ([y] : List Line).length ≤ 4294967296) = some () := fun y => chk_of (by simp; omega)
    simp only [hlt, if_true, idx_nat, hx, Option.bind_some, l1Own_eq _ g1, l1Own_eq _ g2, hch, w64_succ (n := i) (by omega)]
  · unfold s_l2Own_L1; simp
theorem l2Own_t_eq (n : Network) (h : Bd n) : s_l2Own_t n = some n := by
  have : s_l2Own_t n = s_l2Own n := rfl
  rw [this]; exact l2Own_eq n h

theorem l2Back_eq (s : List Int) (hs : s.length ≤ 1000) : s_l2Back s = some s.reverse := by
  unfold s_l2Back
  have e0 : w64 ((s.length : Int) - 1) = (s.length : Int) - 1 := w64_id (by omega)
  rw [e0]
  have h := iter_rule (step := s_l2Back_L1 s) (fun m a => ∃ j : Nat, a.1 = (s.length : Int) - 1 - j ∧ m + j = s.length ∧ a.2 = s.reverse.take j) (fun b => b = s.reverse) ?_ (k := s.length) (a := ((s.length : Int) - 1, [])) ⟨0, by simp, by omega, by simp⟩
  · obtain ⟨b, hb, rfl⟩ := h
    rw [hb]; rfl
  rintro m ⟨v, i⟩ ⟨j, hv, hm, hi⟩
  simp only at hv hi
  subst hv
  by_cases hlt : j < s.length
  · left
    have ev : (s.length : Int) - 1 - j = ((s.length - 1 - j : Nat) : Int) := by omega
    rw [ev]
    obtain ⟨e, he⟩ := get_ex (l := s) (i := s.length - 1 - j) (by omega)
    have hd : decide ((0 : Int) ≤ ((s.length - 1 - j : Nat) : Int)) = true := by simp
    have hlen : i.length = j := by rw [hi]; simp; omega
    have hch : chk (i.length + ([e] : List Int).length ≤ 4294967296) = some () := chk_of (by simp; omega)
    have ev2 : w64 (((s.length - 1 - j : Nat) : Int) - 1) = (s.length : Int) - 1 - ((j + 1 : Nat) : Int) := by rw [w64_id (by omega)]; omega
    refine ⟨((s.length : Int) - 1 - ((j + 1 : Nat) : Int), i ++ [e]), m - 1, ?_, by omega, j + 1, rfl, by omega, ?_⟩
    · unfold s_l2Back_L1
      simp only [hd, if_true, idx_nat, he, hch, Option.bind_some, ev2]
    · show i ++ [e] = _
      rw [take_succ (x := e) (by rw [List.getElem?_reverse hlt]; exact he), hi]
  · right
    have ej : j = s.length := by omega
    subst ej
    have hd : decide ((0 : Int) ≤ (s.length : Int) - 1 - (s.length : Int)) = false := by simp; omega
    refine ⟨i, by unfold s_l2Back_L1; simp only [hd, Bool.false_eq_true, if_false], ?_⟩
    rw [hi, List.take_of_length_le (by simp)]
theorem l2BackF_eq (s : List Int) (hs : s.length ≤ 1000) : s_l2Back_f s = some s.reverse := l2Back_eq s hs

/-- The network with the reversed line. -/
def Rev (n : Network) (e : Line) (name : ByteArray) : Network := ⟨n.Stops, n.Lines ++ [⟨name, e.Stops.reverse, e.Runs.reverse⟩]⟩
def Asked (n : Network) (line : Int) (name : ByteArray) : Prop := Good n ∧ 0 ≤ line ∧ ∃ e, n.Lines[line.toNat]? = some e ∧ Good (Rev n e name)
theorem good_lines {n : Network} (h : Good n) : n.Lines.length ≤ 5 := h.2.1.2
theorem rev_bd {n : Network} {e : Line} {name : ByteArray} (h : Bd n) (hg : Good n) (he : e ∈ n.Lines) : Bd (Rev n e name) := by
  obtain ⟨h1, h2, h3⟩ := h
  have := good_lines hg
  refine ⟨h1, by simp [Rev]; omega, fun x hx => ?_⟩
  rcases List.mem_append.1 hx with hx | hx
  · exact h3 x hx
  · simp at hx
    subst hx
    obtain ⟨g1, g2⟩ := h3 e he
    exact ⟨by simpa using g1, by simpa using g2⟩

/-! The draws: they answer, with bounds. -/
/-- A drawn line. -/
def LB (x : Line) : Prop := (2 ≤ x.Stops.length ∧ x.Stops.length ≤ 10) ∧ 1 ≤ x.Runs.length ∧ x.Runs.length ≤ 10
def NB (n : Network) : Prop := (2 ≤ n.Stops.length ∧ n.Stops.length ≤ 6) ∧ (1 ≤ n.Lines.length ∧ n.Lines.length ≤ 8) ∧ ∀ x ∈ n.Lines, LB x
theorem NB.bd {n : Network} (h : NB n) : Bd n := ⟨by have := h.1; omega, by have := h.2.1; omega, fun x hx => by have := h.2.2 x hx; unfold LB at this; omega⟩
theorem l1Num_ok (n : Int) (h0 : 0 ≤ n) (h1 : n < 10) : ∃ r, s_l1Num n = some r ∧ r.size ≤ 10 := by
  have e : s_l1Num n = s_l1Num_F (s_l1Num_k 4294967295) n := rfl
  rw [e]
  unfold s_l1Num_F
  have d1 : decide (n < 0) = false := by simp; omega
  have d2 : decide (n < 10) = true := by simp; omega
  have e1 : w64 (n + 1) = n + 1 := w64_id (by omega)
  have hs : (str [48, 49, 50, 51, 52, 53, 54, 55, 56, 57]).size = 10 := rfl
  simp only [d1, d2, Bool.false_eq_true, if_false, if_true, e1, hs]
  rw [chk_of (by omega)]
  refine ⟨_, rfl, ?_⟩
  rw [ByteArray.size_extract, hs]
  omega

theorem line_ok {k : Nat} {c : l1Cur} (name : ByteArray) (stops : Int) (hs : 2 ≤ stops ∧ stops ≤ 1000) (h : Cur k c) (hk : k ≤ 1000000000) : ∃ r, s_l1Cur_line c name stops = some r ∧ Cur (k + 40) r.2 ∧ LB r.1 := by
  unfold s_l1Cur_line
  obtain ⟨r, hr, hc, h0, h1⟩ := pick_ok stops h (by omega)
  obtain ⟨r1, hr1, hc1, h10, h11⟩ := pick_ok 3 hc (by omega)
  simp only [hr, hr1, Option.bind_some]
  have e1 : w64 (2 + r1.1) = ((2 + r1.1.toNat : Nat) : Int) := by rw [w64_id (by omega)]; omega
  rw [e1]
  have loop : ∃ b, iter (s_l1Cur_line_L1 name stops) (r.1, ((2 + r1.1.toNat : Nat) : Int), r1.2.code_, r1.2.at_, r1.2.seed_.v, []) = some b ∧ (Cur (k + 4 + 2 * 4) ⟨b.1, b.2.1, ⟨b.2.2.1⟩⟩ ∧ 1 ≤ b.2.2.2.length ∧ b.2.2.2.length ≤ 4) := by
    refine iter_rule (fun m a => (0 ≤ a.1 ∧ a.1 < stops) ∧ a.2.1 = (m : Int) ∧ m + a.2.2.2.2.2.length ≤ 4 ∧ (1 ≤ m ∨ 1 ≤ a.2.2.2.2.2.length) ∧ Cur (k + 4 + 2 * (4 - m)) ⟨a.2.2.1, a.2.2.2.1, ⟨a.2.2.2.2.1⟩⟩) _ ?_ (k := 2 + r1.1.toNat) ⟨⟨h0, by show r.1 < stops; omega⟩, rfl, by simp; omega, .inl (by omega), hc1.mono (by omega)⟩
    rintro m ⟨v, v1, v2, v3, v4, v5⟩ ⟨hv, hv1, hl, hne, hcur⟩
    simp only at hv hv1 hl hne hcur
    subst hv1
    unfold s_l1Cur_line_L1
    cases m with
    | zero => right; exact ⟨_, by simp; rfl, hcur, by show 1 ≤ v5.length; omega, by show v5.length ≤ 4; omega⟩
    | succ m =>
      left
      have hpos : decide ((0 : Int) < ((m + 1 : Nat) : Int)) = true := by simp
      obtain ⟨r3, hr3, hc3, h30, h31⟩ := pick_ok 2 hcur (by omega)
      have hpl := l2Place_eq (⟨name, v5, []⟩ : Line) (by show v5.length ≤ _; omega) v
      have hch : chk (v5.length + ([v] : List Int).length ≤ 4294967296) = some () := chk_of (by simp; omega)
      have hne0 : chk (stops ≠ 0) = some () := chk_of (by omega)
      have w1 : w64 (v + 1) = v + 1 := w64_id (by omega)
      have w2 : w64 (v + 1 + r3.1) = v + 1 + r3.1 := w64_id (by omega)
      have ht := tmod_rng (a := v + 1 + r3.1) (b := stops) (by omega) (by omega)
      simp only [hpos, if_true, hpl, hch, hr3, hne0, w1, w2, Option.bind_some]
      have w3 : w64 (((m + 1 : Nat) : Int) - 1) = (m : Int) := w64_pred (by omega)
      split
      · refine ⟨_, m, by simp only [Option.bind_some]; rfl, by omega, ht, w3, ?_, .inr ?_, ?_⟩
        · simp; omega
        · simp
        · exact hc3.mono (by omega)
      · rename_i hn
        refine ⟨_, m, by simp only [Option.bind_some]; rfl, by omega, ht, w3, ?_, .inr ?_, ?_⟩
        · show m + v5.length ≤ 4; omega
        · show 1 ≤ v5.length
          cases v5 with
          | nil => simp [fixI] at hn
          | cons a l => simp
        · exact hc3.mono (by omega)
  obtain ⟨⟨v7, v8, v9, v10⟩, hb, hcb, hlb⟩ := loop
  simp only at hcb hlb
  rw [hb]
  simp only [Option.bind_some]
  -- at least two stops
  have two : ∃ v11 : List Int, (if decide ((v10.length : Int) < 2) = true then (idx v10 0).bind fun e1 => (chk ((stops : Int) ≠ 0)).bind fun u4 => (chk (v10.length + ([((w64 (e1 + 1)).tmod stops)] : List Int).length ≤ 4294967296)).bind fun u5 => some (v10 ++ ([((w64 (e1 + 1)).tmod stops)] : List Int)) else some v10) = some v11 ∧ 2 ≤ v11.length ∧ v11.length ≤ 5 := by
    by_cases h2 : (v10.length : Int) < 2
    · obtain ⟨e, he, _⟩ := idx_lt (l := v10) (i := 0) (by omega) (by omega)
      have hch : ∀ y : Int, chk (v10.length + ([y] : List Int).length ≤ 4294967296) = some () := fun y => chk_of (by simp; omega)
      have hne0 : chk (stops ≠ 0) = some () := chk_of (by omega)
      refine ⟨v10 ++ [(w64 (e + 1)).tmod stops], by simp only [h2, decide_true, if_true, he, hne0, hch, Option.bind_some], ?_, ?_⟩
      · simp; omega
      · simp; omega
    · exact ⟨v10, by simp [h2], by omega, by omega⟩
  obtain ⟨v11, hv11, l1, l2⟩ := two
  rw [hv11]
  simp only [Option.bind_some]
  have loop2 : ∃ b, iter (s_l1Cur_line_L2 v11) (1, v7, v8, v9, []) = some b ∧ (Cur (k + 40) ⟨b.1, b.2.1, ⟨b.2.2.1⟩⟩ ∧ b.2.2.2.length + 1 = v11.length) := by
    refine iter_rule (fun m a => ∃ i : Nat, a.1 = (i : Int) ∧ m + i = v11.length ∧ a.2.2.2.2.length + 1 = i ∧ Cur (k + 12 + 2 * i) ⟨a.2.1, a.2.2.1, ⟨a.2.2.2.1⟩⟩) _ ?_ (k := v11.length - 1) ⟨1, rfl, by omega, rfl, hcb.mono (by omega)⟩
    rintro m ⟨v12, v13, v14, v15, v16⟩ ⟨i, hi, hm, hl, hcur⟩
    simp only at hi hl hcur
    subst hi
    unfold s_l1Cur_line_L2
    by_cases hlt : i < v11.length
    · left
      have hd : decide ((i : Int) < (v11.length : Int)) = true := by simp; omega
      obtain ⟨r5, hr5, hc5, _⟩ := pick_ok 12 hcur (by omega)
      have hch : ∀ y : Int, chk (v16.length + ([y] : List Int).length ≤ 4294967296) = some () := fun y => chk_of (by simp; omega)
      refine ⟨_, m - 1, by simp only [hd, if_true, hr5, hch, Option.bind_some, w64_succ (n := i) (by omega)]; rfl, by omega, i + 1, rfl, by omega, ?_, ?_⟩
      · simp; omega
      · exact hc5.mono (by omega)
    · right
      have hd : decide ((i : Int) < (v11.length : Int)) = false := by simp; omega
      refine ⟨_, by simp only [hd, Bool.false_eq_true, if_false]; rfl, ?_, ?_⟩
      · exact hcur.mono (by omega)
      · show v16.length + 1 = _; omega
  obtain ⟨⟨v17, v18, v19, v20⟩, hb2, hcb2, hl2⟩ := loop2
  simp only at hcb2 hl2
  rw [hb2]
  simp only [Option.bind_some]
  exact ⟨_, rfl, hcb2, ⟨l1, by show v11.length ≤ 10; omega⟩, by show 1 ≤ v20.length; omega, by show v20.length ≤ 10; omega⟩
theorem lineF_ok {k : Nat} {c : l1Cur} (name : ByteArray) (stops : Int) (hs : 2 ≤ stops ∧ stops ≤ 1000) (h : Cur k c) (hk : k ≤ 1000000000) : ∃ r, s_l1Cur_line_f c name stops = some r ∧ Cur (k + 40) r.2 ∧ LB r.1 := line_ok name stops hs h hk

theorem six_len (i : Nat) (h2 : 2 ≤ i) (h6 : i ≤ 6) (l : List ByteArray) (hl : l.length = 6) : 2 ≤ ((l.take i).drop (0 : Int).toNat).length ∧ ((l.take i).drop (0 : Int).toNat).length ≤ 6 := by
  simp; omega

theorem networkT_ok {k : Nat} {c : l1Cur} (h : Cur k c) (hk : k ≤ 500000000) : ∃ r, s_l1Cur_network_t c = some r ∧ Cur (k + 300) r.2 ∧ NB r.1 := by
  unfold s_l1Cur_network_t
  obtain ⟨r, hr, hc, h0, h1⟩ := pick_ok 5 h (by omega)
  have e1 : w64 (2 + r.1) = 2 + r.1 := w64_id (by omega)
  have hsix : ([(str [112, 111, 114, 116]), (str [109, 105, 108, 108]), (str [112, 97, 114, 107]), (str [104, 97, 108, 108]), (str [100, 111, 99, 107]), (str [102, 97, 105, 114])] : List ByteArray).length = 6 := rfl
  simp only [hr, Option.bind_some, e1, hsix]
  rw [chk_of (by omega)]
  obtain ⟨r1, hr1, hc1, h10, h11⟩ := pick_ok 3 hc (by omega)
  have e2 : w64 (1 + r1.1) = ((1 + r1.1.toNat : Nat) : Int) := by rw [w64_id (by omega)]; omega
  simp only [hr1, Option.bind_some, e2]
  have loop : ∃ b, iter (s_l1Cur_network_t_L1 r) (((1 + r1.1.toNat : Nat) : Int), r1.2.code_, r1.2.at_, r1.2.seed_.v, []) = some b ∧ (Cur (k + 4 + 40 * 3) ⟨b.1, b.2.1, ⟨b.2.2.1⟩⟩ ∧ (1 ≤ b.2.2.2.length ∧ b.2.2.2.length ≤ 3) ∧ ∀ x ∈ b.2.2.2, LB x) := by
    refine iter_rule (fun m a => a.1 = (m : Int) ∧ m + a.2.2.2.2.length ≤ 3 ∧ 1 ≤ m + a.2.2.2.2.length ∧ (∀ x ∈ a.2.2.2.2, LB x) ∧ Cur (k + 4 + 40 * (3 - m)) ⟨a.2.1, a.2.2.1, ⟨a.2.2.2.1⟩⟩) _ ?_ (k := 1 + r1.1.toNat) ⟨rfl, by simp; omega, by simp, by simp, hc1.mono (by omega)⟩
    rintro m ⟨x, v, v1, v2, v3⟩ ⟨hx, hl, hl1, hlb, hcur⟩
    simp only at hx hl hl1 hlb hcur
    subst hx
    unfold s_l1Cur_network_t_L1
    cases m with
    | zero => right; exact ⟨_, by simp; rfl, hcur, ⟨by show 1 ≤ v3.length; omega, by show v3.length ≤ 3; omega⟩, hlb⟩
    | succ m =>
      left
      have hpos : decide ((0 : Int) < ((m + 1 : Nat) : Int)) = true := by simp
      obtain ⟨r4, hr4, hs4⟩ := l1Num_ok ((m + 1 : Nat) : Int) (by omega) (by omega)
      have hs : (str [108]).size = 1 := rfl
      have hch : chk ((str [108]).size + r4.size ≤ 4294967296) = some () := chk_of (by omega)
      obtain ⟨r5, hr5, hc5, hb5⟩ := lineF_ok (str [108] ++ r4) (2 + r.1) (by omega) hcur (by omega)
      have hch2 : ∀ y : Line, chk (v3.length + ([y] : List Line).length ≤ 4294967296) = some () := fun y => chk_of (by simp; omega)
      refine ⟨_, m, by simp only [hpos, if_true, hr4, hch, e1, hr5, hch2, Option.bind_some]; rfl, by omega, ?_, ?_, ?_, ?_, ?_⟩
      · exact w64_pred (by omega)
      · simp; omega
      · simp; omega
      · intro y hy
        rcases List.mem_append.1 hy with hy | hy
        · exact hlb y hy
        · simp at hy; subst hy; exact hb5
      · exact hc5.mono (by omega)
  obtain ⟨⟨v4, v5, v6, v7⟩, hb, hcb, hlb, hall⟩ := loop
  simp only at hcb hlb hall
  rw [hb]
  simp only [Option.bind_some]
  obtain ⟨r6, hr6, hc6⟩ := one_ok 2 hcb (by omega)
  simp only [hr6, Option.bind_some]
  have fin : ∀ (v8 : List UInt8) (v9 v10 : Int) (v11 : List Line), Cur (k + 200) ⟨v8, v9, ⟨v10⟩⟩ → (1 ≤ v11.length ∧ v11.length ≤ 8) → (∀ x ∈ v11, LB x) →
      ∃ r', ((s_l2Own_t (⟨((([(str [112, 111, 114, 116]), (str [109, 105, 108, 108]), (str [112, 97, 114, 107]), (str [104, 97, 108, 108]), (str [100, 111, 99, 107]), (str [102, 97, 105, 114])] : List ByteArray).take (2 + r.1).toNat).drop (0 : Int).toNat), v11⟩ : Network)).bind fun r11 => some ((⟨r11.Stops, r11.Lines⟩ : Network), (⟨v8, v9, (⟨v10⟩ : IK .u64)⟩ : l1Cur))) = some r' ∧ Cur (k + 300) r'.2 ∧ NB r'.1 := by
    intro v8 v9 v10 v11 g1 g2 g3
    have hst := six_len (2 + r.1).toNat (by omega) (by omega) _ hsix
    have hnb : NB (⟨((([(str [112, 111, 114, 116]), (str [109, 105, 108, 108]), (str [112, 97, 114, 107]), (str [104, 97, 108, 108]), (str [100, 111, 99, 107]), (str [102, 97, 105, 114])] : List ByteArray).take (2 + r.1).toNat).drop (0 : Int).toNat), v11⟩ : Network) := ⟨hst, g2, g3⟩
    rw [l2Own_t_eq _ hnb.bd]
    exact ⟨_, rfl, g1.mono (by omega), hnb⟩
  split
  · obtain ⟨e, he, _, hem⟩ := idx_lt (l := v7) (i := 0) (by omega) (by omega)
    obtain ⟨g1, g2⟩ := hall e hem
    have hch2 : ∀ y : Line, chk (v7.length + ([y] : List Line).length ≤ 4294967296) = some () := fun y => chk_of (by simp; omega)
    simp only [he, l2BackF_eq e.Stops (by omega), l2BackF_eq e.Runs (by omega), hch2, Option.bind_some]
    refine fin _ _ _ _ (hc6.mono (by omega)) (by simp; omega) fun y hy => ?_
    rcases List.mem_append.1 hy with hy | hy
    · exact hall y hy
    · simp at hy; subst hy
      exact ⟨by simpa using g1, by simpa using g2⟩
  · simp only [Option.bind_some]
    exact fin _ _ _ _ (hc6.mono (by omega)) (by omega) hall

theorem anyNetwork_ok {k : Nat} {c : l1Cur} (h : Cur k c) (hk : k ≤ 200000000) : ∃ r, s_l1Cur_anyNetwork c = some r ∧ Cur (k + 1000) r.2 ∧ Bd r.1 := by
  unfold s_l1Cur_anyNetwork
  obtain ⟨r, hr, hc, hnb⟩ := networkT_ok h (by omega)
  obtain ⟨n1, n2, n3⟩ := hnb
  obtain ⟨r1, hr1, hc1, h10, h11⟩ := pick_ok (r.1.Lines.length : Int) hc (by omega)
  obtain ⟨e, he, he2, hem⟩ := idx_lt (l := r.1.Lines) (i := r1.1) h10 (by omega)
  obtain ⟨g1, g2⟩ := n3 e hem
  obtain ⟨r2, hr2, hc2, _⟩ := pick_ok 24 hc1 (by omega)
  simp only [hr, hr1, he, hr2, Option.bind_some]
  have fin : ∀ (v : List UInt8) (v1 v2 : Int) (v3 : ByteArray) (v4 : List ByteArray) (v5 : List Line) (v6 : List Int), Cur (k + 900) ⟨v, v1, ⟨v2⟩⟩ → v4.length ≤ 6 → v5.length = r.1.Lines.length → (∀ x ∈ v5, LB x) → v6.length ≤ 11 →
      ∃ r', ((idx v5 r1.1).bind fun e9 => some ((⟨v4, (v5.set r1.1.toNat (⟨v3, e9.Stops, v6⟩ : Line))⟩ : Network), (⟨v, v1, (⟨v2⟩ : IK .u64)⟩ : l1Cur))) = some r' ∧ Cur (k + 1000) r'.2 ∧ Bd r'.1 := by
    intro v v1 v2 v3 v4 v5 v6 q1 q2 q3 q4 q5
    obtain ⟨e9, he9, _, hm9⟩ := idx_lt (l := v5) (i := r1.1) h10 (by omega)
    rw [he9]
    refine ⟨_, rfl, q1.mono (by omega), by show v4.length ≤ _; omega, by simp; omega, fun x hx => ?_⟩
    rcases List.mem_or_eq_of_mem_set hx with hx | hx
    · have := q4 x hx
      unfold LB at this; omega
    · subst hx
      have := q4 e9 hm9
      unfold LB at this
      exact ⟨by show e9.Stops.length ≤ _; omega, by show v6.length ≤ _; omega⟩
  split
  · obtain ⟨r4, hr4, hc4, _⟩ := ofw_ok ([(str [109, 105, 108, 108]), (str []), (str [65]), (str [97, 98, 99, 100, 101, 102, 103, 104]), (str [97, 98, 99, 100, 101, 102, 103, 104, 105])] : List ByteArray) (by simp) hc2 (by omega)
    obtain ⟨e2, he2', _⟩ := idx_lt (l := r.1.Stops) (i := 0) (by omega) (by omega)
    simp only [hr4, he2', Option.bind_some, flb_go]
    exact fin _ _ _ _ _ _ _ (hc4.mono (by omega)) (by simp; omega) rfl n3 (by omega)
  split
  · obtain ⟨r5, hr5, hc5, _⟩ := ofw_ok ([(str [114, 49]), (str [108, 49]), (str []), (str [88])] : List ByteArray) (by simp) hc2 (by omega)
    simp only [hr5, Option.bind_some, flb_go]
    exact fin _ _ _ _ _ _ _ (hc5.mono (by omega)) (by omega) rfl n3 (by omega)
  split
  · obtain ⟨r8, hr8, hc8, h80, h81⟩ := pick_ok (e.Stops.length : Int) hc2 (by omega)
    obtain ⟨r9, hr9, hc9, _⟩ := pick_ok 10 hc8 (by omega)
    obtain ⟨e4, he4, _⟩ := idx_lt (l := e.Stops) (i := r8.1) h80 (by omega)
    simp only [hr8, hr9, he4, Option.bind_some, flb_go]
    refine fin _ _ _ _ _ _ _ (hc9.mono (by omega)) (by omega) (by simp) (fun x hx => ?_) (by show e.Runs.length ≤ 11; omega)
    rcases List.mem_or_eq_of_mem_set hx with hx | hx
    · exact n3 x hx
    · subst hx; exact ⟨by simpa using g1, g2⟩
  split
  · obtain ⟨r12, hr12, hc12, h120, h121⟩ := pick_ok (e.Runs.length : Int) hc2 (by omega)
    obtain ⟨r13, hr13, hc13, _⟩ := amongw_ok ([0, 60, 61, (-1)] : List Int) (by simp) hc12 (by omega)
    obtain ⟨e6, he6, _⟩ := idx_lt (l := e.Runs) (i := r12.1) h120 (by omega)
    simp only [hr12, hr13, he6, Option.bind_some, flb_go]
    refine fin _ _ _ _ _ _ _ (hc13.mono (by omega)) (by omega) (by simp) (fun x hx => ?_) (by simp; omega)
    rcases List.mem_or_eq_of_mem_set hx with hx | hx
    · exact n3 x hx
    · subst hx; exact ⟨g1, by simpa using g2⟩
  split
  · have hch : chk (e.Runs.length + ([3] : List Int).length ≤ 4294967296) = some () := chk_of (by simp; omega)
    simp only [hch, Option.bind_some, flb_go]
    exact fin _ _ _ _ _ _ _ (hc2.mono (by omega)) (by omega) rfl n3 (by simp; omega)
  split
  · simp only [flb_ret]
    exact ⟨_, rfl, hc2.mono (by omega), by show r.1.Stops.length ≤ _; omega, by simp, by simp⟩
  split
  · have loop : ∃ b, iter (s_l1Cur_anyNetwork_L1 r) (0, r2.2.code_, r2.2.at_, r2.2.seed_.v, r.1.Lines) = some b ∧ (Cur (k + 900) ⟨b.1, b.2.1, ⟨b.2.2.1⟩⟩ ∧ b.2.2.2.length ≤ 20 ∧ ∀ x ∈ b.2.2.2, LB x) := by
      refine iter_rule (fun m a => ∃ i : Nat, a.1 = (i : Int) ∧ m + i = 8 ∧ i ≤ 7 ∧ a.2.2.2.2.length ≤ 8 + i ∧ (∀ x ∈ a.2.2.2.2, LB x) ∧ Cur (k + 310 + 50 * i) ⟨a.2.1, a.2.2.1, ⟨a.2.2.2.1⟩⟩) _ ?_ (k := 8) ⟨0, rfl, rfl, by omega, by simpa using n2.2, n3, hc2.mono (by omega)⟩
      rintro m ⟨v7, v8, v9, v10, v11⟩ ⟨i, hi, hm, hi7, hl, hlb, hcur⟩
      simp only at hi hl hlb hcur
      subst hi
      unfold s_l1Cur_anyNetwork_L1
      obtain ⟨r16, hr16, hc16, h160, h161⟩ := pick_ok 2 hcur (by omega)
      have w1 : w64 (5 + r16.1) = 5 + r16.1 := w64_id (by omega)
      simp only [hr16, w1, Option.bind_some]
      by_cases a1 : (v11.length : Int) < 5 + r16.1 ∧ (i : Int) < 7
      · left
        have d1 : decide ((v11.length : Int) < 5 + r16.1) = true := by simp; omega
        have d2 : decide ((i : Int) < 7) = true := by simp; omega
        obtain ⟨r19, hr19, hs19⟩ := l1Num_ok (i : Int) (by omega) (by omega)
        have hs : (str [120]).size = 1 := rfl
        have hch : chk ((str [120]).size + r19.size ≤ 4294967296) = some () := chk_of (by omega)
        obtain ⟨r20, hr20, hc20, hb20⟩ := line_ok (str [120] ++ r19) (r.1.Stops.length : Int) (by omega) hc16 (by omega)
        have hch2 : ∀ y : Line, chk (v11.length + ([y] : List Line).length ≤ 4294967296) = some () := fun y => chk_of (by simp; omega)
        refine ⟨_, m - 1, by simp only [d1, d2, if_true, hr19, hch, hr20, hch2, Option.bind_some, w64_succ (n := i) (by omega)]; rfl, by omega, i + 1, rfl, by omega, by omega, ?_, fun x hx => ?_, ?_⟩
        · simp; omega
        · rcases List.mem_append.1 hx with hx | hx
          · exact hlb x hx
          · simp at hx; subst hx; exact hb20
        · exact hc20.mono (by omega)
      · right
        have hcond : (if decide ((v11.length : Int) < 5 + r16.1) = true then some (decide ((i : Int) < 7)) else some false) = some false := by
          by_cases b1 : (v11.length : Int) < 5 + r16.1
          · have : decide ((i : Int) < 7) = false := by simp; omega
            simp [b1, this]
          · simp [b1]
        refine ⟨_, by simp only [hcond, Option.bind_some, Bool.false_eq_true, if_false]; rfl, ?_, ?_, hlb⟩
        · exact hc16.mono (by omega)
        · show v11.length ≤ 20; omega
    obtain ⟨⟨v13, v14, v15, v16⟩, hb, hcb, hlb, hall⟩ := loop
    simp only at hcb hlb hall
    rw [hb]
    simp only [Option.bind_some, flb_ret]
    refine ⟨_, rfl, hcb.mono (by omega), by show r.1.Stops.length ≤ _; omega, by show v16.length ≤ _; omega, fun x hx => ?_⟩
    have := hall x hx
    unfold LB at this; omega
  · simp only [flb_go]
    exact fin _ _ _ _ _ _ _ (hc2.mono (by omega)) (by omega) rfl n3 (by omega)

/-! Timetables: when they are valid. -/
theorem total_eq (l : List Int) (h1 : l.length ≤ 1000000) (h2 : ∀ x ∈ l, 0 ≤ x ∧ x ≤ 1000000) : i_total l = some l.sum := by
  unfold i_total
  rw [sum_loop (fun x : Int => x) l h1 h2 (fun i s x hx => ?_) (fun s => ?_)]
  · simp
  · have := get_lt hx
    unfold i_total_L1
    simp (disch := omega) only [if_pos, if_neg, decide_eq_true_eq, decide_true, decide_false, Bool.not_true, Bool.not_false, Bool.false_eq_true, Bool.not_eq_true', decide_eq_false_iff_not, if_true, if_false, w64_id, chk_of, idx_nat, Option.bind_some, Option.map_some, Int.toNat_natCast, not_true_eq_false, not_false_eq_true, true_and, and_true, and_self, false_and, and_false, reduceIte, flb_go, flb_ret, beq_self_eq_true, ne_eq, bne_self_eq_false, Int.ofNat_lt.2 this, hx]
  · unfold i_total_L1; simp
theorem l2Run_eq (x : Line) (a b : Nat) (hab : a ≤ b) (hb : b ≤ x.Runs.length) (hl : x.Runs.length ≤ 1000) (h2 : ∀ r ∈ x.Runs, 0 ≤ r ∧ r ≤ 1000000) : s_l2Run x (a : Int) (b : Int) = some (((x.Runs.take b).drop a).sum) := by
  unfold s_l2Run
  refine Tot.val (.call (P := fun v => v = ((x.Runs.take b).drop a).sum) ?_ fun v h => .ok h)
  refine .iter (fun m s => ∃ k : Nat, s.2 = ((a + k : Nat) : Int) ∧ m + k = b - a ∧ s.1 = (((x.Runs.take b).drop a).take k).sum) (n := b - a) ⟨0, by simp, by omega, by simp⟩ ?_
  rintro m ⟨s, v⟩ ⟨k, hk, hm, hs⟩
  simp only at hk hs
  subst hk
  unfold s_l2Run_L1
  refine .iteP (fun hc => ?_) (fun hc => .dn ?_)
  · obtain ⟨r, hr⟩ := get_ex (l := x.Runs) (i := a + k) (by omega)
    have hr2 : ((x.Runs.take b).drop a)[k]? = some r := by
      rw [List.getElem?_drop, List.getElem?_take_of_lt (by omega)]; exact hr
    have hb1 := h2 r (List.mem_of_getElem? hr)
    have hb2 := sum_bd (l := ((x.Runs.take b).drop a).take k) (M := 1000000) fun y hy => h2 y (List.mem_of_mem_take (List.mem_of_mem_drop (List.mem_of_mem_take hy)))
    have hlen : ((((x.Runs.take b).drop a).take k).length : Int) ≤ 1000 := by simp; omega
    rw [← hs] at hb2
    refine .eq (by rw [idx_nat]; exact hr) (.nx ⟨m - 1, by omega, k + 1, ?_, by omega, ?_⟩)
    · show w64 (((a + k : Nat) : Int) + 1) = _
      rw [w64_id (by omega)]; omega
    · show w64 (s + r) = _
      rw [w64_id (by omega), sum_take_succ hr2, hs]
  · rw [hs, List.take_of_length_le (by rw [List.length_drop, List.length_take]; omega)]
theorem good_line {n : Network} (h : Good n) {k : Int} {l : Line} (hl : idx n.Lines k = some l) : LineP n.Stops.length l := h.2.2.2.2 _ l (idx_some hl).2.2
theorem line_runs {st : Nat} {l : Line} (h : LineP st l) : (l.Runs.length + 1 = l.Stops.length ∧ 1 ≤ l.Runs.length ∧ l.Runs.length ≤ 5) ∧ ∀ r ∈ l.Runs, 1 ≤ r ∧ r ≤ 60 := by
  obtain ⟨h1, h2, h3, h4⟩ := h
  refine ⟨by omega, fun r hr => ?_⟩
  obtain ⟨i, hi⟩ := List.getElem?_of_mem hr
  exact h4 i r hi
theorem runs_sum {st : Nat} {l : Line} (h : LineP st l) (k : Nat) : 0 ≤ (l.Runs.take k).sum ∧ (l.Runs.take k).sum ≤ 300 := by
  obtain ⟨⟨h1, h2, h3⟩, h4⟩ := line_runs h
  have := sum_bd (l := l.Runs.take k) (M := 60) fun x hx => by have := h4 x (List.mem_of_mem_take hx); omega
  have hl : ((l.Runs.take k).length : Int) ≤ 5 := by simp; omega
  omega
theorem runs_sum' {st : Nat} {l : Line} (h : LineP st l) : 0 ≤ l.Runs.sum ∧ l.Runs.sum ≤ 300 := by
  have := runs_sum h l.Runs.length
  rwa [List.take_length] at this
/-! Timetables: what is looked up; stop times; draws. -/
/-- The stop times. -/
def ST (l : Line) (s : Int) : List Int := (List.range (l.Runs.length + 1)).map fun k => s + (l.Runs.take k).sum
theorem ST_len (l : Line) (s : Int) : (ST l s).length = l.Runs.length + 1 := by simp [ST]
theorem ST_at {l : Line} {s : Int} {k : Nat} (hk : k ≤ l.Runs.length) : (ST l s)[k]? = some (s + (l.Runs.take k).sum) := by
  unfold ST; rw [List.getElem?_map, List.getElem?_range (by omega)]; rfl
/-! Draws -/
theorem network_ok {k : Nat} {c : l1Cur} (h : Cur k c) (hk : k ≤ 500000000) : ∃ r, s_l1Cur_network c = some r ∧ Cur (k + 300) r.2 ∧ NB r.1 := networkT_ok h hk
theorem network_t_ok {k : Nat} {c : l1Cur} (h : Cur k c) (hk : k ≤ 500000000) : ∃ r, s_l1Cur_network_t c = some r ∧ Cur (k + 300) r.2 ∧ NB r.1 := networkT_ok h hk
theorem anyNet_ok {k : Nat} {c : l1Cur} (h : Cur k c) (hk : k ≤ 200000000) : Tot (s_l1Cur_anyNetwork c) fun r => Cur (k + 1000) r.2 ∧ Bd r.1 := anyNetwork_ok h hk
/-! Sorting: the helpers of the library's quicksort. -/
theorem fdivp {x : Int} (h : 0 ≤ x) (k : Nat) : x.fdiv (2 ^ k) = x / (2 ^ k : Nat) := by
  rw [Int.fdiv_eq_ediv_of_nonneg _ (by exact_mod_cast Nat.zero_le (2 ^ k))]
  simp
theorem pow_step {x y : Int} {v k : Nat} (h : y * (2 ^ v : Nat) ≤ x) (hy : 0 ≤ y) : y / (2 ^ k : Nat) * (2 ^ (v + k) : Nat) ≤ x := by
  have h1 : y / (2 ^ k : Nat) * (2 ^ k : Nat) ≤ y := Int.ediv_mul_le _ (by have := Nat.two_pow_pos k; omega)
  have h2 : y / (2 ^ k : Nat) * (2 ^ k : Nat) * (2 ^ v : Nat) ≤ y * (2 ^ v : Nat) := Int.mul_le_mul_of_nonneg_right h1 (Int.natCast_nonneg _)
  rw [Nat.add_comm, Nat.pow_add, Int.natCast_mul, ← Int.mul_assoc]
  omega
theorem len64_ok (x : IK .u64) (h0 : 0 ≤ x.v) (h1 : x.v < 8589934592) : Tot (math_bits_Len64 x) fun r => 0 ≤ r ∧ r ≤ 64 ∧ (1 ≤ x.v → ((2 ^ r.toNat : Nat) : Int) ≤ 2 * x.v) := by
  unfold math_bits_Len64
  refine Tot.call (P := fun (r : Int × Int) => 0 ≤ r.1 ∧ r.1 < 4294967296 ∧ (1 ≤ x.v → 1 ≤ r.1) ∧ 0 ≤ r.2 ∧ r.2 ≤ 32 ∧ r.1 * (2 ^ r.2.toNat : Nat) ≤ x.v) (.iteP (fun hc => Tot.chk (by decide) (.ok ?_)) (fun hc => .ok ⟨h0, by dsimp only; omega, fun h => h, Int.le_refl _, by dsimp only; omega, by simp⟩)) fun ⟨x1, v⟩ ⟨p1, p2, p3, p4, p5, p6⟩ => ?_
  · have e : ((2 ^ 32 : Nat) : Int) = 4294967296 := by decide
    have e2 : x.v.fdiv (2 ^ (min (32 : Int).toNat (IntKind.u64).bits)) = x.v / (2 ^ 32 : Nat) := fdivp h0 32
    simp only [e2]
    exact ⟨by omega, by omega, fun _ => by omega, by omega, by omega, Int.ediv_mul_le _ (by decide)⟩
  dsimp only at p1 p2 p3 p4 p5 p6 ⊢
  refine Tot.call (P := fun (r : Int × Int) => 0 ≤ r.1 ∧ r.1 < 65536 ∧ (1 ≤ x.v → 1 ≤ r.1) ∧ 0 ≤ r.2 ∧ r.2 ≤ 48 ∧ r.1 * (2 ^ r.2.toNat : Nat) ≤ x.v) (.iteP (fun hc => Tot.chk (by decide) (.ok ?_)) (fun hc => .ok ⟨p1, by dsimp only; omega, p3, p4, by dsimp only; omega, p6⟩)) fun ⟨x2, v1⟩ ⟨q1, q2, q3, q4, q5, q6⟩ => ?_
  · have e : ((2 ^ 16 : Nat) : Int) = 65536 := by decide
    have e2 : x1.fdiv (2 ^ (min (16 : Int).toNat (IntKind.u64).bits)) = x1 / (2 ^ 16 : Nat) := fdivp p1 16
    have e3 : w64 (v + 16) = v + 16 := w64_id (by omega)
    have e4 : (v + 16).toNat = v.toNat + 16 := by omega
    simp only [e2, e3, e4]
    exact ⟨by omega, by omega, fun _ => by omega, by omega, by omega, pow_step p6 p1⟩
  dsimp only at q1 q2 q3 q4 q5 q6 ⊢
  refine Tot.call (P := fun (r : Int × Int) => 0 ≤ r.1 ∧ r.1 < 256 ∧ (1 ≤ x.v → 1 ≤ r.1) ∧ 0 ≤ r.2 ∧ r.2 ≤ 56 ∧ r.1 * (2 ^ r.2.toNat : Nat) ≤ x.v) (.iteP (fun hc => Tot.chk (by decide) (.ok ?_)) (fun hc => .ok ⟨q1, by dsimp only; omega, q3, q4, by dsimp only; omega, q6⟩)) fun ⟨x3, v2⟩ ⟨r1, r2, r3, r4, r5, r6⟩ => ?_
  · have e : ((2 ^ 8 : Nat) : Int) = 256 := by decide
    have e2 : x2.fdiv (2 ^ (min (8 : Int).toNat (IntKind.u64).bits)) = x2 / (2 ^ 8 : Nat) := fdivp q1 8
    have e3 : w64 (v1 + 8) = v1 + 8 := w64_id (by omega)
    have e4 : (v1 + 8).toNat = v1.toNat + 8 := by omega
    simp only [e2, e3, e4]
    exact ⟨by omega, by omega, fun _ => by omega, by omega, by omega, pow_step q6 q1⟩
  dsimp only at r1 r2 r3 r4 r5 r6 ⊢
  have e8 : IntKind.u8.wrap x3 = x3 := Int.emod_eq_of_lt r1 r2
  rw [e8]
  generalize hs : str _ = S
  have hS : (Nat.beq S.size 256 && (List.range 256).all fun i => Nat.ble (S.data.toList.getD i 0).toNat 8 && (Nat.beq i 0 || Nat.ble (2 ^ (S.data.toList.getD i 0).toNat) (2 * i))) = true := by
    rw [← hs]; kernel_rfl
  clear hs
  simp only [Bool.and_eq_true, List.all_eq_true, List.mem_range, Bool.or_eq_true] at hS
  obtain ⟨s1, s2⟩ := hS
  have s1 := Nat.eq_of_beq_eq_true s1
  obtain ⟨n, rfl⟩ : ∃ n : Nat, x3 = n := ⟨x3.toNat, by omega⟩
  have s2 := s2 n (by omega)
  have t1 := Nat.le_of_ble_eq_true s2.1
  refine Tot.chk (by omega) (.ok ?_)
  rw [Int.toNat_natCast]
  revert t1 s2
  generalize (S.data.toList.getD n 0).toNat = t
  intro s2 t1
  rw [w64_id (x := (t : Int)) (by omega), w64_id (by omega)]
  refine ⟨by omega, by omega, fun hx => ?_⟩
  have e1 : (v2 + (t : Int)).toNat = v2.toNat + t := by omega
  rw [e1, Nat.pow_add, Int.natCast_mul]
  have hn := r3 hx
  have t2 : 2 ^ t ≤ 2 * n := by
    rcases s2.2 with h | h
    · have := Nat.eq_of_beq_eq_true h; omega
    · exact Nat.le_of_ble_eq_true h
  have t3 : ((2 ^ v2.toNat : Nat) : Int) * (2 ^ t : Nat) ≤ (2 ^ v2.toNat : Nat) * (2 * n : Nat) := Int.mul_le_mul_of_nonneg_left (by exact_mod_cast t2) (by exact_mod_cast Nat.zero_le _)
  have t4 : ((2 ^ v2.toNat : Nat) : Int) * ((2 * n : Nat) : Int) = 2 * ((n : Int) * (2 ^ v2.toNat : Nat)) := by
    rw [Int.natCast_mul, Int.mul_comm ((2 ^ v2.toNat : Nat) : Int), Int.mul_assoc]; rfl
  omega
theorem len_ok (x : IK .u64) (h0 : 0 ≤ x.v) (h1 : x.v < 8589934592) : Tot (math_bits_Len x) fun r => 0 ≤ r ∧ r ≤ 64 ∧ (1 ≤ x.v → ((2 ^ r.toNat : Nat) : Int) ≤ 2 * x.v) := by
  unfold math_bits_Len
  exact Tot.call (len64_ok x h0 h1) fun r hr => .ok hr
theorem u64_id' {n : Int} (h0 : 0 ≤ n) (h1 : n < 18446744073709551616) : IntKind.u64.wrap n = n := by
  show n % 18446744073709551616 = n
  exact Int.emod_eq_of_lt h0 h1
theorem hlp : Pdq.Hlp slices_nextPowerOfTwo slices_xorshift_Next := by
  refine ⟨fun n h1 h2 => ?_, fun x => ?_⟩
  · unfold slices_nextPowerOfTwo
    rw [u64_id' (by omega) (by omega)]
    refine Tot.call (len_ok ⟨n⟩ (by dsimp only; omega) (by dsimp only; omega)) fun r ⟨r1, r2, r3⟩ => Tot.chk r1 (.ok ?_)
    have r3 := r3 (by dsimp only; omega)
    dsimp only at r3 ⊢
    have e : min r.toNat (IntKind.u64).bits = r.toNat := Nat.min_eq_left (by show r.toNat ≤ 64; omega)
    have e2 : (1 : Int) * 2 ^ r.toNat = ((2 ^ r.toNat : Nat) : Int) := by rw [Int.one_mul]; norm_cast
    rw [e, e2]
    have := Nat.two_pow_pos r.toNat
    rw [u64_id' (by omega) (by omega)]
    omega
  · unfold slices_xorshift_Next
    exact Tot.chk (by decide) (Tot.chk (by decide) (Tot.chk (by decide) (.ok trivial)))
/-! Sorting of plain values (int): the library's quicksort is the one of the layer. -/
noncomputable def c0_int (x y : Int) : Option Int := some (if x < y then -1 else 0)
theorem less_int (x y : Int) : cmp_Less_int x y = some (decide (x < y)) := by
  unfold cmp_Less_int cmp_isNaN_int
  simp
theorem dlt_int (x y : Int) : decide ((if x < y then (-1 : Int) else 0) < 0) = decide (x < y) := by
  by_cases h : x < y <;> simp [h]
theorem insertionSort_L1_int (a : Int) : slices_insertionSortOrdered_int_w_L1 a = Pdq.insertionSort_L1 a c0_int := by
  funext ⟨s0, s1⟩
  simp only [slices_insertionSortOrdered_int_w_L1, Pdq.insertionSort_L1, c0_int, less_int, dlt_int, Option.bind_some]
theorem insertionSort_L2_int (a : Int) (b : Int) : slices_insertionSortOrdered_int_w_L2 a b = Pdq.insertionSort_L2 a b c0_int := by
  funext ⟨s0, s1⟩
  simp only [slices_insertionSortOrdered_int_w_L2, Pdq.insertionSort_L2, insertionSort_L1_int, c0_int, less_int, dlt_int, Option.bind_some]
theorem insertionSort_int (data : List Int) (a : Int) (b : Int) : slices_insertionSortOrdered_int_w data a b = Pdq.insertionSort data a b c0_int := by
  simp only [slices_insertionSortOrdered_int_w, Pdq.insertionSort, insertionSort_L1_int, insertionSort_L2_int, c0_int, less_int, dlt_int, Option.bind_some]
theorem siftDown_L1_int (hi : Int) (first : Int) : slices_siftDownOrdered_int_w_L1 hi first = Pdq.siftDown_L1 hi first c0_int := by
  funext ⟨s0, s1⟩
  simp only [slices_siftDownOrdered_int_w_L1, Pdq.siftDown_L1, insertionSort_L1_int, insertionSort_L2_int, insertionSort_int, c0_int, less_int, dlt_int, Option.bind_some]
theorem siftDown_int (data : List Int) (lo : Int) (hi : Int) (first : Int) : slices_siftDownOrdered_int_w data lo hi first = Pdq.siftDown data lo hi first c0_int := by
  simp only [slices_siftDownOrdered_int_w, Pdq.siftDown, insertionSort_L1_int, insertionSort_L2_int, insertionSort_int, siftDown_L1_int, c0_int, less_int, dlt_int, Option.bind_some]
theorem heapSort_L1_int (a : Int) (b : Int) : slices_heapSortOrdered_int_w_L1 a b = Pdq.heapSort_L1 a b c0_int := by
  funext ⟨s0, s1⟩
  simp only [slices_heapSortOrdered_int_w_L1, Pdq.heapSort_L1, insertionSort_L1_int, insertionSort_L2_int, insertionSort_int, siftDown_L1_int, siftDown_int, c0_int, less_int, dlt_int, Option.bind_some]
theorem heapSort_L2_int (a : Int) : slices_heapSortOrdered_int_w_L2 a = Pdq.heapSort_L2 a c0_int := by
  funext ⟨s0, s1⟩
  simp only [slices_heapSortOrdered_int_w_L2, Pdq.heapSort_L2, insertionSort_L1_int, insertionSort_L2_int, insertionSort_int, siftDown_L1_int, siftDown_int, heapSort_L1_int, c0_int, less_int, dlt_int, Option.bind_some]
theorem heapSort_int (data : List Int) (a : Int) (b : Int) : slices_heapSortOrdered_int_w data a b = Pdq.heapSort data a b c0_int := by
  simp only [slices_heapSortOrdered_int_w, Pdq.heapSort, insertionSort_L1_int, insertionSort_L2_int, insertionSort_int, siftDown_L1_int, siftDown_int, heapSort_L1_int, heapSort_L2_int, c0_int, less_int, dlt_int, Option.bind_some]
theorem order2_int (data : List Int) (a : Int) (b : Int) (swaps : Int) : slices_order2Ordered_int data a b swaps = Pdq.order2 data a b swaps c0_int := by
  simp only [slices_order2Ordered_int, Pdq.order2, insertionSort_L1_int, insertionSort_L2_int, insertionSort_int, siftDown_L1_int, siftDown_int, heapSort_L1_int, heapSort_L2_int, heapSort_int, c0_int, less_int, dlt_int, Option.bind_some]
theorem median_int (data : List Int) (a : Int) (b : Int) (c : Int) (swaps : Int) : slices_medianOrdered_int data a b c swaps = Pdq.median data a b c swaps c0_int := by
  simp only [slices_medianOrdered_int, Pdq.median, insertionSort_L1_int, insertionSort_L2_int, insertionSort_int, siftDown_L1_int, siftDown_int, heapSort_L1_int, heapSort_L2_int, heapSort_int, order2_int, c0_int, less_int, dlt_int, Option.bind_some]
theorem medianAdjacent_int (data : List Int) (a : Int) (swaps : Int) : slices_medianAdjacentOrdered_int data a swaps = Pdq.medianAdjacent data a swaps c0_int := by
  simp only [slices_medianAdjacentOrdered_int, Pdq.medianAdjacent, insertionSort_L1_int, insertionSort_L2_int, insertionSort_int, siftDown_L1_int, siftDown_int, heapSort_L1_int, heapSort_L2_int, heapSort_int, order2_int, median_int, c0_int, less_int, dlt_int, Option.bind_some]
theorem choosePivot_int (data : List Int) (a : Int) (b : Int) : slices_choosePivotOrdered_int data a b = Pdq.choosePivot data a b c0_int := by
  simp only [slices_choosePivotOrdered_int, Pdq.choosePivot, insertionSort_L1_int, insertionSort_L2_int, insertionSort_int, siftDown_L1_int, siftDown_int, heapSort_L1_int, heapSort_L2_int, heapSort_int, order2_int, median_int, medianAdjacent_int, c0_int, less_int, dlt_int, Option.bind_some]
theorem reverseRange_L1_int : slices_reverseRangeOrdered_int_w_L1 = Pdq.reverseRange_L1 := by
  funext ⟨s0, s1, s2⟩
  simp only [slices_reverseRangeOrdered_int_w_L1, Pdq.reverseRange_L1, insertionSort_L1_int, insertionSort_L2_int, insertionSort_int, siftDown_L1_int, siftDown_int, heapSort_L1_int, heapSort_L2_int, heapSort_int, order2_int, median_int, medianAdjacent_int, choosePivot_int, c0_int, less_int, dlt_int, Option.bind_some]
theorem reverseRange_int (data : List Int) (a : Int) (b : Int) : slices_reverseRangeOrdered_int_w data a b = Pdq.reverseRange data a b c0_int := by
  simp only [slices_reverseRangeOrdered_int_w, Pdq.reverseRange, insertionSort_L1_int, insertionSort_L2_int, insertionSort_int, siftDown_L1_int, siftDown_int, heapSort_L1_int, heapSort_L2_int, heapSort_int, order2_int, median_int, medianAdjacent_int, choosePivot_int, reverseRange_L1_int, c0_int, less_int, dlt_int, Option.bind_some]
theorem partialInsertionSort_L1_int (b : Int) (data1 : List Int) : slices_partialInsertionSortOrdered_int_w_L1 b data1 = Pdq.partialInsertionSort_L1 b c0_int data1 := by
  funext s0
  simp only [slices_partialInsertionSortOrdered_int_w_L1, Pdq.partialInsertionSort_L1, insertionSort_L1_int, insertionSort_L2_int, insertionSort_int, siftDown_L1_int, siftDown_int, heapSort_L1_int, heapSort_L2_int, heapSort_int, order2_int, median_int, medianAdjacent_int, choosePivot_int, reverseRange_L1_int, reverseRange_int, c0_int, less_int, dlt_int, Option.bind_some]
theorem partialInsertionSort_L2_int : slices_partialInsertionSortOrdered_int_w_L2 = Pdq.partialInsertionSort_L2 c0_int := by
  funext ⟨s0, s1⟩
  simp only [slices_partialInsertionSortOrdered_int_w_L2, Pdq.partialInsertionSort_L2, insertionSort_L1_int, insertionSort_L2_int, insertionSort_int, siftDown_L1_int, siftDown_int, heapSort_L1_int, heapSort_L2_int, heapSort_int, order2_int, median_int, medianAdjacent_int, choosePivot_int, reverseRange_L1_int, reverseRange_int, partialInsertionSort_L1_int, c0_int, less_int, dlt_int, Option.bind_some]
theorem partialInsertionSort_L3_int (b : Int) : slices_partialInsertionSortOrdered_int_w_L3 b = Pdq.partialInsertionSort_L3 b c0_int := by
  funext ⟨s0, s1⟩
  simp only [slices_partialInsertionSortOrdered_int_w_L3, Pdq.partialInsertionSort_L3, insertionSort_L1_int, insertionSort_L2_int, insertionSort_int, siftDown_L1_int, siftDown_int, heapSort_L1_int, heapSort_L2_int, heapSort_int, order2_int, median_int, medianAdjacent_int, choosePivot_int, reverseRange_L1_int, reverseRange_int, partialInsertionSort_L1_int, partialInsertionSort_L2_int, c0_int, less_int, dlt_int, Option.bind_some]
theorem partialInsertionSort_L4_int (a : Int) (b : Int) : slices_partialInsertionSortOrdered_int_w_L4 a b = Pdq.partialInsertionSort_L4 a b c0_int := by
  funext ⟨s0, s1, s2⟩
  simp only [slices_partialInsertionSortOrdered_int_w_L4, Pdq.partialInsertionSort_L4, insertionSort_L1_int, insertionSort_L2_int, insertionSort_int, siftDown_L1_int, siftDown_int, heapSort_L1_int, heapSort_L2_int, heapSort_int, order2_int, median_int, medianAdjacent_int, choosePivot_int, reverseRange_L1_int, reverseRange_int, partialInsertionSort_L1_int, partialInsertionSort_L2_int, partialInsertionSort_L3_int, c0_int, less_int, dlt_int, Option.bind_some]
theorem partialInsertionSort_int (data : List Int) (a : Int) (b : Int) : slices_partialInsertionSortOrdered_int_w data a b = Pdq.partialInsertionSort data a b c0_int := by
  simp only [slices_partialInsertionSortOrdered_int_w, Pdq.partialInsertionSort, insertionSort_L1_int, insertionSort_L2_int, insertionSort_int, siftDown_L1_int, siftDown_int, heapSort_L1_int, heapSort_L2_int, heapSort_int, order2_int, median_int, medianAdjacent_int, choosePivot_int, reverseRange_L1_int, reverseRange_int, partialInsertionSort_L1_int, partialInsertionSort_L2_int, partialInsertionSort_L3_int, partialInsertionSort_L4_int, c0_int, less_int, dlt_int, Option.bind_some]
theorem partitionEqual_L1_int (a : Int) (v1 : Int) (data1 : List Int) : slices_partitionEqualOrdered_int_w_L1 a v1 data1 = Pdq.partitionEqual_L1 a c0_int v1 data1 := by
  funext s0
  simp only [slices_partitionEqualOrdered_int_w_L1, Pdq.partitionEqual_L1, insertionSort_L1_int, insertionSort_L2_int, insertionSort_int, siftDown_L1_int, siftDown_int, heapSort_L1_int, heapSort_L2_int, heapSort_int, order2_int, median_int, medianAdjacent_int, choosePivot_int, reverseRange_L1_int, reverseRange_int, partialInsertionSort_L1_int, partialInsertionSort_L2_int, partialInsertionSort_L3_int, partialInsertionSort_L4_int, partialInsertionSort_int, c0_int, less_int, dlt_int, Option.bind_some]
theorem partitionEqual_L2_int (a : Int) (data1 : List Int) (v4 : Int) : slices_partitionEqualOrdered_int_w_L2 a data1 v4 = Pdq.partitionEqual_L2 a c0_int data1 v4 := by
  funext s0
  simp only [slices_partitionEqualOrdered_int_w_L2, Pdq.partitionEqual_L2, insertionSort_L1_int, insertionSort_L2_int, insertionSort_int, siftDown_L1_int, siftDown_int, heapSort_L1_int, heapSort_L2_int, heapSort_int, order2_int, median_int, medianAdjacent_int, choosePivot_int, reverseRange_L1_int, reverseRange_int, partialInsertionSort_L1_int, partialInsertionSort_L2_int, partialInsertionSort_L3_int, partialInsertionSort_L4_int, partialInsertionSort_int, partitionEqual_L1_int, c0_int, less_int, dlt_int, Option.bind_some]
theorem partitionEqual_L3_int (a : Int) : slices_partitionEqualOrdered_int_w_L3 a = Pdq.partitionEqual_L3 a c0_int := by
  funext ⟨s0, s1, s2⟩
  simp only [slices_partitionEqualOrdered_int_w_L3, Pdq.partitionEqual_L3, insertionSort_L1_int, insertionSort_L2_int, insertionSort_int, siftDown_L1_int, siftDown_int, heapSort_L1_int, heapSort_L2_int, heapSort_int, order2_int, median_int, medianAdjacent_int, choosePivot_int, reverseRange_L1_int, reverseRange_int, partialInsertionSort_L1_int, partialInsertionSort_L2_int, partialInsertionSort_L3_int, partialInsertionSort_L4_int, partialInsertionSort_int, partitionEqual_L1_int, partitionEqual_L2_int, c0_int, less_int, dlt_int, Option.bind_some]
theorem partitionEqual_int (data : List Int) (a : Int) (b : Int) (pivot : Int) : slices_partitionEqualOrdered_int_w data a b pivot = Pdq.partitionEqual data a b pivot c0_int := by
  simp only [slices_partitionEqualOrdered_int_w, Pdq.partitionEqual, insertionSort_L1_int, insertionSort_L2_int, insertionSort_int, siftDown_L1_int, siftDown_int, heapSort_L1_int, heapSort_L2_int, heapSort_int, order2_int, median_int, medianAdjacent_int, choosePivot_int, reverseRange_L1_int, reverseRange_int, partialInsertionSort_L1_int, partialInsertionSort_L2_int, partialInsertionSort_L3_int, partialInsertionSort_L4_int, partialInsertionSort_int, partitionEqual_L1_int, partitionEqual_L2_int, partitionEqual_L3_int, c0_int, less_int, dlt_int, Option.bind_some]
theorem partition_L1_int (data : List Int) (a : Int) (b : Int) (pivot : Int) (e4 : Int) (e5 : Int) : slices_partitionOrdered_int_w_L1 data a b pivot e4 e5 = Pdq.partition_L1 data a b pivot c0_int e4 e5 := by
  funext s0
  simp only [slices_partitionOrdered_int_w_L1, Pdq.partition_L1, insertionSort_L1_int, insertionSort_L2_int, insertionSort_int, siftDown_L1_int, siftDown_int, heapSort_L1_int, heapSort_L2_int, heapSort_int, order2_int, median_int, medianAdjacent_int, choosePivot_int, reverseRange_L1_int, reverseRange_int, partialInsertionSort_L1_int, partialInsertionSort_L2_int, partialInsertionSort_L3_int, partialInsertionSort_L4_int, partialInsertionSort_int, partitionEqual_L1_int, partitionEqual_L2_int, partitionEqual_L3_int, partitionEqual_int, c0_int, less_int, dlt_int, Option.bind_some]
theorem partition_L2_int (data : List Int) (a : Int) (pivot : Int) (e4 : Int) (e5 : Int) (v2 : Int) : slices_partitionOrdered_int_w_L2 data a pivot e4 e5 v2 = Pdq.partition_L2 data a pivot c0_int e4 e5 v2 := by
  funext s0
  simp only [slices_partitionOrdered_int_w_L2, Pdq.partition_L2, insertionSort_L1_int, insertionSort_L2_int, insertionSort_int, siftDown_L1_int, siftDown_int, heapSort_L1_int, heapSort_L2_int, heapSort_int, order2_int, median_int, medianAdjacent_int, choosePivot_int, reverseRange_L1_int, reverseRange_int, partialInsertionSort_L1_int, partialInsertionSort_L2_int, partialInsertionSort_L3_int, partialInsertionSort_L4_int, partialInsertionSort_int, partitionEqual_L1_int, partitionEqual_L2_int, partitionEqual_L3_int, partitionEqual_int, partition_L1_int, c0_int, less_int, dlt_int, Option.bind_some]
theorem partition_L3_int (a : Int) (v7 : Int) (data1 : List Int) : slices_partitionOrdered_int_w_L3 a v7 data1 = Pdq.partition_L3 a c0_int v7 data1 := by
  funext s0
  simp only [slices_partitionOrdered_int_w_L3, Pdq.partition_L3, insertionSort_L1_int, insertionSort_L2_int, insertionSort_int, siftDown_L1_int, siftDown_int, heapSort_L1_int, heapSort_L2_int, heapSort_int, order2_int, median_int, medianAdjacent_int, choosePivot_int, reverseRange_L1_int, reverseRange_int, partialInsertionSort_L1_int, partialInsertionSort_L2_int, partialInsertionSort_L3_int, partialInsertionSort_L4_int, partialInsertionSort_int, partitionEqual_L1_int, partitionEqual_L2_int, partitionEqual_L3_int, partitionEqual_int, partition_L1_int, partition_L2_int, c0_int, less_int, dlt_int, Option.bind_some]
theorem partition_L4_int (a : Int) (data1 : List Int) (v10 : Int) : slices_partitionOrdered_int_w_L4 a data1 v10 = Pdq.partition_L4 a c0_int data1 v10 := by
  funext s0
  simp only [slices_partitionOrdered_int_w_L4, Pdq.partition_L4, insertionSort_L1_int, insertionSort_L2_int, insertionSort_int, siftDown_L1_int, siftDown_int, heapSort_L1_int, heapSort_L2_int, heapSort_int, order2_int, median_int, medianAdjacent_int, choosePivot_int, reverseRange_L1_int, reverseRange_int, partialInsertionSort_L1_int, partialInsertionSort_L2_int, partialInsertionSort_L3_int, partialInsertionSort_L4_int, partialInsertionSort_int, partitionEqual_L1_int, partitionEqual_L2_int, partitionEqual_L3_int, partitionEqual_int, partition_L1_int, partition_L2_int, partition_L3_int, c0_int, less_int, dlt_int, Option.bind_some]
theorem partition_L5_int (a : Int) : slices_partitionOrdered_int_w_L5 a = Pdq.partition_L5 a c0_int := by
  funext ⟨s0, s1, s2⟩
  simp only [slices_partitionOrdered_int_w_L5, Pdq.partition_L5, insertionSort_L1_int, insertionSort_L2_int, insertionSort_int, siftDown_L1_int, siftDown_int, heapSort_L1_int, heapSort_L2_int, heapSort_int, order2_int, median_int, medianAdjacent_int, choosePivot_int, reverseRange_L1_int, reverseRange_int, partialInsertionSort_L1_int, partialInsertionSort_L2_int, partialInsertionSort_L3_int, partialInsertionSort_L4_int, partialInsertionSort_int, partitionEqual_L1_int, partitionEqual_L2_int, partitionEqual_L3_int, partitionEqual_int, partition_L1_int, partition_L2_int, partition_L3_int, partition_L4_int, c0_int, less_int, dlt_int, Option.bind_some]
theorem partition_int (data : List Int) (a : Int) (b : Int) (pivot : Int) : slices_partitionOrdered_int_w data a b pivot = Pdq.partition data a b pivot c0_int := by
  simp only [slices_partitionOrdered_int_w, Pdq.partition, insertionSort_L1_int, insertionSort_L2_int, insertionSort_int, siftDown_L1_int, siftDown_int, heapSort_L1_int, heapSort_L2_int, heapSort_int, order2_int, median_int, medianAdjacent_int, choosePivot_int, reverseRange_L1_int, reverseRange_int, partialInsertionSort_L1_int, partialInsertionSort_L2_int, partialInsertionSort_L3_int, partialInsertionSort_L4_int, partialInsertionSort_int, partitionEqual_L1_int, partitionEqual_L2_int, partitionEqual_L3_int, partitionEqual_int, partition_L1_int, partition_L2_int, partition_L3_int, partition_L4_int, partition_L5_int, c0_int, less_int, dlt_int, Option.bind_some]
theorem breakPatterns_L1_int (a : Int) (b : Int) (r : (IK .u64)) : slices_breakPatternsOrdered_int_w_L1 a b r = Pdq.breakPatterns_L1 slices_xorshift_Next a b r := by
  funext ⟨s0, s1, s2⟩
  simp only [slices_breakPatternsOrdered_int_w_L1, Pdq.breakPatterns_L1, insertionSort_L1_int, insertionSort_L2_int, insertionSort_int, siftDown_L1_int, siftDown_int, heapSort_L1_int, heapSort_L2_int, heapSort_int, order2_int, median_int, medianAdjacent_int, choosePivot_int, reverseRange_L1_int, reverseRange_int, partialInsertionSort_L1_int, partialInsertionSort_L2_int, partialInsertionSort_L3_int, partialInsertionSort_L4_int, partialInsertionSort_int, partitionEqual_L1_int, partitionEqual_L2_int, partitionEqual_L3_int, partitionEqual_int, partition_L1_int, partition_L2_int, partition_L3_int, partition_L4_int, partition_L5_int, partition_int, c0_int, less_int, dlt_int, Option.bind_some]
theorem breakPatterns_int (data : List Int) (a : Int) (b : Int) : slices_breakPatternsOrdered_int_w data a b = Pdq.breakPatterns slices_nextPowerOfTwo slices_xorshift_Next data a b c0_int := by
  simp only [slices_breakPatternsOrdered_int_w, Pdq.breakPatterns, insertionSort_L1_int, insertionSort_L2_int, insertionSort_int, siftDown_L1_int, siftDown_int, heapSort_L1_int, heapSort_L2_int, heapSort_int, order2_int, median_int, medianAdjacent_int, choosePivot_int, reverseRange_L1_int, reverseRange_int, partialInsertionSort_L1_int, partialInsertionSort_L2_int, partialInsertionSort_L3_int, partialInsertionSort_L4_int, partialInsertionSort_int, partitionEqual_L1_int, partitionEqual_L2_int, partitionEqual_L3_int, partitionEqual_int, partition_L1_int, partition_L2_int, partition_L3_int, partition_L4_int, partition_L5_int, partition_int, breakPatterns_L1_int, c0_int, less_int, dlt_int, Option.bind_some]
theorem pdq_L1_int (rec_ : List Int → Int → Int → Int → Option (List Int)) : slices_pdqsortOrdered_int_w_L1 rec_ = Pdq.pdq_L1 slices_nextPowerOfTwo slices_xorshift_Next c0_int rec_ := by
  funext ⟨s0, s1, s2, s3, s4, s5⟩
  simp only [slices_pdqsortOrdered_int_w_L1, Pdq.pdq_L1, insertionSort_L1_int, insertionSort_L2_int, insertionSort_int, siftDown_L1_int, siftDown_int, heapSort_L1_int, heapSort_L2_int, heapSort_int, order2_int, median_int, medianAdjacent_int, choosePivot_int, reverseRange_L1_int, reverseRange_int, partialInsertionSort_L1_int, partialInsertionSort_L2_int, partialInsertionSort_L3_int, partialInsertionSort_L4_int, partialInsertionSort_int, partitionEqual_L1_int, partitionEqual_L2_int, partitionEqual_L3_int, partitionEqual_int, partition_L1_int, partition_L2_int, partition_L3_int, partition_L4_int, partition_L5_int, partition_int, breakPatterns_L1_int, breakPatterns_int, c0_int, less_int, dlt_int, Option.bind_some]
theorem pdq_F_int (rec_ : List Int → Int → Int → Int → Option (List Int)) (l : List Int) (a b k : Int) : slices_pdqsortOrdered_int_w_F rec_ l a b k = Pdq.pdq_F slices_nextPowerOfTwo slices_xorshift_Next c0_int rec_ l a b k := by
  unfold slices_pdqsortOrdered_int_w_F Pdq.pdq_F
  rw [pdq_L1_int]
theorem pdqk_int : ∀ n, slices_pdqsortOrdered_int_w_k n = Pdq.pdq_k slices_nextPowerOfTwo slices_xorshift_Next c0_int n
  | 0 => rfl
  | n + 1 => by
    funext l a b k
    show slices_pdqsortOrdered_int_w_F (slices_pdqsortOrdered_int_w_k n) l a b k = Pdq.pdq_F slices_nextPowerOfTwo slices_xorshift_Next c0_int (Pdq.pdq_k slices_nextPowerOfTwo slices_xorshift_Next c0_int n) l a b k
    rw [pdqk_int n, pdq_F_int]
theorem lt_int : Pdq.Lt c0_int (· ≤ ·) := by
  refine ⟨fun x y => by omega, fun a b => by omega, fun x y => ⟨_, rfl, ?_⟩⟩
  by_cases h : x < y <;> simp [h] <;> omega
/-- Sorting numbers. -/
theorem sort_int (l : List Int) (h : l.length < 4294967296) : Tot (slices_Sort_int_w l) fun l' => l'.Perm l ∧ l'.Pairwise (· ≤ ·) := by
  unfold slices_Sort_int_w
  refine Tot.call (len_ok _ (by dsimp only; rw [u64_id' (by omega) (by omega)]; omega) (by dsimp only; rw [u64_id' (by omega) (by omega)]; omega)) fun r _ => ?_
  unfold slices_pdqsortOrdered_int_w
  rw [pdqk_int]
  refine Tot.call (Pdq.pdq_ok lt_int hlp (limit := r) h) fun l' hl' => .ok hl'
/-! Patterns: when they are valid; the rests at a stop. -/
def PatP (n : Network) (period : Int) (p : Pattern) : Prop := (0 ≤ p.Line ∧ p.Line < (n.Lines.length : Int)) ∧ 0 ≤ p.Offset ∧ p.Offset ≤ period - 1
def GoodP (n : Network) (period : Int) (l : List Pattern) : Prop := Good n ∧ (1 ≤ period ∧ period ≤ 60) ∧ (1 ≤ l.length ∧ l.length ≤ 3) ∧ ∀ p ∈ l, PatP n period p
noncomputable instance (n : Network) (period : Int) (l : List Pattern) : Decidable (GoodP n period l) := Classical.propDecidable _
def PB (n : Network) (period : Int) (l : List Pattern) : Prop := Bd n ∧ (-1000 ≤ period ∧ period ≤ 1000) ∧ l.length ≤ 1000
theorem ipat_eq {n : Network} {period : Int} {l : List Pattern} (hb : PB n period l) : i_IsValidPatterns n period l = some (decide (GoodP n period l)) := by
  obtain ⟨h1, h2, h3⟩ := hb
  unfold i_IsValidPatterns
  rw [valid_eq n h1]
  by_cases hg : Good n ∧ (1 ≤ period ∧ period ≤ 60) ∧ (1 ≤ (l.length : Int) ∧ (l.length : Int) ≤ 3)
  · obtain ⟨a, b, c⟩ := hg
    simp only [Option.bind_some, within_eq, decide_eq_true a, decide_eq_true b, decide_eq_true c, Bool.not_true, Bool.false_eq_true, if_false]
    refine flb_dec (Tot.iter (fun m (s : Int) => s.toNat + m = l.length ∧ 0 ≤ s ∧ ∀ (i : Nat) x, i < s.toNat → l[i]? = some x → PatP n period x) (n := l.length) ⟨by omega, by omega, fun i x h => absurd h (Nat.not_lt_zero _)⟩ ?_)
    rintro m s ⟨k1, k2, k5⟩
    unfold i_IsValidPatterns_L1
    refine .iteP (fun hc => .idx k2 hc fun x hx => .eq (isLine_eq ..) ?_) (fun hc => .dn (.inl ⟨rfl, a, b, by omega, fun x hx => ?_⟩))
    · rw [w64_id (x := period - 1) (by omega)]
      refine Tot.call (P := fun b => b = true ↔ ¬ PatP n period x) (.iteN (fun hn => .ok (by simp only [true_iff]; exact fun a => hn a.1)) (fun hp => .eq (within_eq ..) (.ok ?_))) fun b hb' => .ite (fun hh => .dn (.inr ⟨rfl, fun hg => hb'.1 hh (hg.2.2.2 x (List.mem_of_getElem? hx))⟩)) (fun hh => ?_)
      · unfold PatP
        by_cases h : (0 ≤ x.Offset ∧ x.Offset ≤ period - 1)
        · rw [decide_eq_true h]; exact ⟨fun c => (by cases c), fun a => absurd ⟨hp, h⟩ a⟩
        · rw [decide_eq_false h]; exact ⟨fun _ a => h a.2, fun _ => rfl⟩
      · have hgg := Classical.not_not.1 fun a => by rw [hb'.2 a] at hh; cases hh
        rw [w64_id (by omega)]
        refine .nx ⟨m - 1, by omega, by omega, by omega, fun i y hi hy => ?_⟩
        by_cases hii : i = s.toNat
        · subst hii; rw [hx] at hy; cases hy; exact hgg
        · exact k5 i y (by omega) hy
    · obtain ⟨i, hi⟩ := List.getElem?_of_mem hx
      exact k5 i x (by have := get_lt hi; omega) hi
  · have hn : ¬ GoodP n period l := fun a => hg ⟨a.1, a.2.1, by have := a.2.2.1; omega⟩
    rw [decide_eq_false hn]
    refine Tot.val (.eq rfl (Tot.call (P := fun b => b = true) (.iteN (fun _ => .ok rfl) (fun a => .eq (within_eq ..) (.iteN (fun _ => .ok rfl) (fun b => .eq (within_eq ..) (.ok ?_))))) fun b hb => .ite (fun _ => .ok rfl) (fun h => by rw [hb] at h; cases h)))
    rw [decide_eq_false fun c => hg ⟨a, b, c⟩]; rfl
theorem spat_eq {n : Network} {period : Int} {l : List Pattern} (hb : PB n period l) : s_l10Good n period l = some (decide (GoodP n period l)) := by
  obtain ⟨h1, h2, h3⟩ := hb
  unfold s_l10Good
  rw [good_eq n h1]
  by_cases hg : Good n ∧ (1 ≤ period ∧ period ≤ 60) ∧ (1 ≤ (l.length : Int) ∧ (l.length : Int) ≤ 3)
  · obtain ⟨a, b, c⟩ := hg
    simp only [Option.bind_some, l1In_eq, decide_eq_true a, decide_eq_true b, decide_eq_true c, Bool.not_true, Bool.false_eq_true, if_false]
    refine flb_dec (Tot.iter (fun m (s : Int) => s.toNat + m = l.length ∧ 0 ≤ s ∧ ∀ (i : Nat) x, i < s.toNat → l[i]? = some x → PatP n period x) (n := l.length) ⟨by omega, by omega, fun i x h => absurd h (Nat.not_lt_zero _)⟩ ?_)
    rintro m s ⟨k1, k2, k5⟩
    have hln := h1.2.1
    unfold s_l10Good_L1
    refine .iteP (fun hc => .idx k2 hc fun x hx => .eq (l1In_eq ..) ?_) (fun hc => .dn (.inl ⟨rfl, a, b, by omega, fun x hx => ?_⟩))
    · rw [w64_id (x := (n.Lines.length : Int) - 1) (by omega), w64_id (x := period - 1) (by omega)]
      refine Tot.call (P := fun b => b = true ↔ ¬ PatP n period x) (.iteN (fun hn => .ok (by simp only [true_iff]; exact fun a => hn (by have := a.1; omega))) (fun hp => .idx k2 hc fun y hy => .eq (l1In_eq ..) (.ok ?_))) fun b hb' => .ite (fun hh => .dn (.inr ⟨rfl, fun hg => hb'.1 hh (hg.2.2.2 x (List.mem_of_getElem? hx))⟩)) (fun hh => ?_)
      · rw [hx] at hy; cases hy
        unfold PatP
        by_cases h : (0 ≤ x.Offset ∧ x.Offset ≤ period - 1)
        · rw [decide_eq_true h]; exact ⟨fun c => (by cases c), fun a => absurd ⟨⟨hp.1, by omega⟩, h⟩ a⟩
        · rw [decide_eq_false h]; exact ⟨fun _ a => h a.2, fun _ => rfl⟩
      · have hgg := Classical.not_not.1 fun a => by rw [hb'.2 a] at hh; cases hh
        rw [w64_id (by omega)]
        refine .nx ⟨m - 1, by omega, by omega, by omega, fun i y hi hy => ?_⟩
        by_cases hii : i = s.toNat
        · subst hii; rw [hx] at hy; cases hy; exact hgg
        · exact k5 i y (by omega) hy
    · obtain ⟨i, hi⟩ := List.getElem?_of_mem hx
      exact k5 i x (by have := get_lt hi; omega) hi
  · have hn : ¬ GoodP n period l := fun a => hg ⟨a.1, a.2.1, by have := a.2.2.1; omega⟩
    rw [decide_eq_false hn]
    refine Tot.val (.eq rfl (Tot.call (P := fun b => b = true) (.iteN (fun _ => .ok rfl) (fun a => .eq (l1In_eq ..) (.iteN (fun _ => .ok rfl) (fun b => .eq (l1In_eq ..) (.ok ?_))))) fun b hb => .ite (fun _ => .ok rfl) (fun h => by rw [hb] at h; cases h)))
    rw [decide_eq_false fun c => hg ⟨a, b, c⟩]; rfl
def AskP (n : Network) (period : Int) (l : List Pattern) (stop : Int) : Prop := GoodP n period l ∧ 0 ≤ stop ∧ stop < (n.Stops.length : Int)
noncomputable instance (n : Network) (period : Int) (l : List Pattern) (stop : Int) : Decidable (AskP n period l stop) := Classical.propDecidable _
theorem iask_eq {n : Network} {period : Int} {l : List Pattern} (hb : PB n period l) (stop : Int) : i_arePassed n period l stop = some (decide (AskP n period l stop)) := by
  unfold i_arePassed AskP
  rw [ipat_eq hb]
  refine Tot.val (.eq rfl (Tot.call (P := fun b => b = decide (GoodP n period l ∧ 0 ≤ stop ∧ stop < (n.Stops.length : Int))) (.iteP (fun h => .eq (isStop_eq ..) (.ok ?_)) (fun h => .ok ?_)) fun b hb => .ok (hb.trans (decide_eq_decide.2 Iff.rfl))))
  · exact decide_eq_decide.2 ⟨fun a => ⟨h, a⟩, fun a => a.2⟩
  · exact (decide_eq_false fun a => h a.1).symm
theorem sask_eq {n : Network} {period : Int} {l : List Pattern} (hb : PB n period l) (stop : Int) : s_l10Asked n period l stop = some (decide (AskP n period l stop)) := by
  have h2 := hb.1.1
  unfold s_l10Asked AskP
  rw [spat_eq hb, w64_id (x := (n.Stops.length : Int) - 1) (by omega)]
  refine Tot.val (.eq rfl (Tot.call (P := fun b => b = decide (GoodP n period l ∧ 0 ≤ stop ∧ stop < (n.Stops.length : Int))) (.iteP (fun h => .eq (l1In_eq ..) (.ok ?_)) (fun h => .ok ?_)) fun b hb => .ok (hb.trans (decide_eq_decide.2 Iff.rfl))))
  · exact decide_eq_decide.2 ⟨fun a => ⟨h, by omega⟩, fun a => by omega⟩
  · exact (decide_eq_false fun a => h a.1).symm
noncomputable def rst (n : Network) (period stop : Int) (p : Pattern) : Int := (i_restAt n period p stop).getD 0
theorem rest_ok {n : Network} {period : Int} {p : Pattern} (hg : Good n) (hper : 1 ≤ period ∧ period ≤ 60) (hp : PatP n period p) (stop : Int) : i_restAt n period p stop = some (rst n period stop p) ∧ s_l10Rest n period p stop = some (rst n period stop p) ∧ -1 ≤ rst n period stop p ∧ rst n period stop p < period := by
  suffices h : ∃ v, i_restAt n period p stop = some v ∧ s_l10Rest n period p stop = some v ∧ -1 ≤ v ∧ v < period by
    obtain ⟨v, h1, h2, h3⟩ := h
    have : rst n period stop p = v := by unfold rst; rw [h1]; rfl
    rw [this]; exact ⟨h1, h2, h3⟩
  obtain ⟨e, he, _⟩ := idx_lt (l := n.Lines) hp.1.1 hp.1.2
  have hL := good_line hg he
  obtain ⟨⟨r1, r2, r3⟩, r4⟩ := line_runs hL
  unfold i_restAt s_l10Rest
  rw [he]
  simp only [Option.bind_some, index_int_eq e.Stops (by omega), l2Place_eq e (by omega)]
  by_cases hneg : fixI (fun x => stop == x) e.Stops < 0
  · simp only [decide_eq_true hneg, if_true]
    exact ⟨-1, rfl, rfl, by omega, by omega⟩
  · obtain ⟨k, x, hk, hx, _⟩ := idx_fix hneg
    have hkl := get_lt hx
    have hs := runs_sum hL k
    have hoff := hp.2
    rw [hk]
    have c1 : ¬ ((k : Int) < 0) := by omega
    simp only [decide_eq_false c1, Bool.false_eq_true, if_false, Int.toNat_natCast, Int.toNat_zero, List.drop_zero]
    rw [chk_of (by omega), total_eq _ (by rw [List.length_take]; omega) (fun y hy => by have := r4 y (List.mem_of_mem_take hy); omega)]
    have e2 := l2Run_eq e 0 k (by omega) (by omega) (by omega) (fun x hx => by have := r4 x hx; omega)
    rw [List.drop_zero] at e2
    have e2' : s_l2Run e 0 (k : Int) = some (e.Runs.take k).sum := e2
    rw [e2']
    simp only [Option.bind_some, chk_of (show period ≠ 0 by omega)]
    rw [w64_id (x := p.Offset + (e.Runs.take k).sum) (by omega)]
    have ht := tmod_rng (a := p.Offset + (e.Runs.take k).sum) (b := period) (by omega) (by omega)
    exact ⟨_, rfl, rfl, by omega, ht.2⟩
noncomputable def rsts (n : Network) (period stop : Int) (l : List Pattern) : List Int := (l.map (rst n period stop)).filter fun x => decide (0 ≤ x)
theorem rsts_succ {n : Network} {period stop : Int} {l : List Pattern} {i : Nat} {x : Pattern} (hx : l[i]? = some x) : rsts n period stop (l.take (i + 1)) = rsts n period stop (l.take i) ++ if 0 ≤ rst n period stop x then [rst n period stop x] else [] := by
  unfold rsts
  rw [take_succ hx, List.map_append, List.filter_append]
  congr 1
  by_cases h : 0 ≤ rst n period stop x <;> simp [h]
theorem rsts_le {n : Network} {period stop : Int} {l : List Pattern} {i : Nat} : (rsts n period stop (l.take i)).length ≤ i := by
  unfold rsts
  have := List.length_filter_le (fun x => decide (0 ≤ x)) ((l.take i).map (rst n period stop))
  rw [List.length_map, List.length_take] at this
  omega
theorem ins_at {o : List Int} {x : Int} {k : Nat} (hs : o.Pairwise (· ≤ ·)) (h1 : ∀ y ∈ o.take k, y ≤ x) (h2 : ∀ y ∈ o.drop k, x ≤ y) : (o.take k ++ [x] ++ o.drop k).Pairwise (· ≤ ·) := by
  rw [List.append_assoc, List.pairwise_append]
  have hsp : (o.take k ++ o.drop k).Pairwise (· ≤ ·) := by rw [List.take_append_drop]; exact hs
  rw [List.pairwise_append] at hsp
  refine ⟨hsp.1, ?_, fun a ha b hb => ?_⟩
  · rw [List.singleton_append, List.pairwise_cons]
    exact ⟨h2, hsp.2.1⟩
  · rw [List.singleton_append] at hb
    rcases List.mem_cons.1 hb with rfl | hb
    · exact h1 a ha
    · exact hsp.2.2 a ha b hb
theorem ins_perm {o : List Int} {x : Int} {k : Nat} : (o.take k ++ [x] ++ o.drop k).Perm (o ++ [x]) := by
  rw [List.append_assoc]
  refine (List.perm_middle (a := x) (l₁ := o.take k) (l₂ := o.drop k)).trans ?_
  rw [List.take_append_drop]
  exact List.perm_append_comm (l₁ := [x])
theorem slot_ok (o : List Int) (x : Int) (hl : o.length ≤ 1000) (h3 : o.Pairwise (· ≤ ·)) : Tot (iter (s_l10Rests_L1 o x) (o.length : Int)) fun s => ∃ k : Nat, s = k ∧ k ≤ o.length ∧ (∀ y ∈ o.take k, y ≤ x) ∧ ∀ y ∈ o.drop k, x ≤ y := by
  refine Tot.iter (fun m (s : Int) => s = m ∧ m ≤ o.length ∧ ∀ y ∈ o.drop m, x ≤ y) (n := o.length) ⟨rfl, Nat.le_refl _, by simp⟩ ?_
  rintro q s ⟨rfl, q1, q2⟩
  unfold s_l10Rests_L1
  refine Tot.call (P := fun b => (b = true → 0 < q ∧ ∃ y, o[q - 1]? = some y ∧ x < y) ∧ (b = false → q = 0 ∨ ∃ y, o[q - 1]? = some y ∧ y ≤ x)) (.iteP (fun h0 => ?_) (fun h0 => .ok ⟨fun h => (by cases h), fun _ => .inl (by omega)⟩)) fun b hb => .ite (fun h => ?_) (fun h => .dn ⟨q, rfl, q1, fun y hy => ?_, q2⟩)
  · rw [w64_id (by omega)]
    refine .idx (by omega) (by omega) fun y hy => .ok ?_
    rw [show ((q : Int) - 1).toNat = q - 1 by omega] at hy
    exact ⟨fun h => ⟨by omega, y, hy, of_decide_eq_true h⟩, fun h => .inr ⟨y, hy, by have := of_decide_eq_false h; omega⟩⟩
  · obtain ⟨h0, y, hy, hxy⟩ := hb.1 h
    rw [w64_id (by omega)]
    refine .nx ⟨q - 1, by omega, by omega, by omega, fun z hz => ?_⟩
    have ed : o.drop (q - 1) = y :: o.drop q := by
      have hlt := get_lt hy
      rw [List.drop_eq_getElem_cons hlt, (List.getElem?_eq_some_iff.1 hy).2, show q - 1 + 1 = q by omega]
    rw [ed] at hz
    rcases List.mem_cons.1 hz with rfl | hz
    · omega
    · exact q2 z hz
  · rcases hb.2 h with h0 | ⟨z, hz, hzx⟩
    · subst h0; simp at hy
    · obtain ⟨j, hj⟩ := List.getElem?_of_mem hy
      have hjl := get_lt hj
      rw [List.length_take] at hjl
      rw [List.getElem?_take_of_lt (by omega)] at hj
      by_cases e : j = q - 1
      · subst e; rw [hz] at hj; cases hj; exact hzx
      · have a := (List.getElem?_eq_some_iff.1 hj); have b := (List.getElem?_eq_some_iff.1 hz)
        have := List.pairwise_iff_getElem.1 h3 j (q - 1) (get_lt hj) (get_lt hz) (by omega)
        rw [a.2, b.2] at this; omega
theorem rests_ok {n : Network} {period : Int} {l : List Pattern} (hg : GoodP n period l) (stop : Int) : ∃ r, i_passingRests n period l stop = some r ∧ s_l10Rests n period l stop = some r ∧ r.Pairwise (· ≤ ·) ∧ (∀ x ∈ r, 0 ≤ x ∧ x < period) ∧ r.length ≤ 3 := by
  obtain ⟨hn, hper, hlen, hpat⟩ := hg
  have hi : iter (i_passingRests_L1 n period l stop) (0, []) = some (rsts n period stop l) := by
    refine Tot.val ((Tot.iter (fun m (s : Int × List Int) => ∃ i : Nat, s.1 = i ∧ i + m = l.length ∧ s.2 = rsts n period stop (l.take i)) (n := l.length) ⟨0, rfl, by omega, by simp [rsts]⟩ ?_).mono fun _ h => h)
    rintro m ⟨v, o⟩ ⟨i, rfl, h1, h2⟩
    dsimp only at h2
    subst h2
    unfold i_passingRests_L1
    dsimp only
    refine .iteP (fun hc => ?_) (fun hc => .dn ?_)
    · obtain ⟨x, hx⟩ := get_ex (l := l) (i := i) (by omega)
      have hle := rsts_le (n := n) (period := period) (stop := stop) (l := l) (i := i)
      obtain ⟨e1, _, e3, e4⟩ := rest_ok hn hper (hpat x (List.mem_of_getElem? hx)) stop
      refine Tot.call (P := fun o' => o' = rsts n period stop (l.take (i + 1))) (.eq (by rw [idx_nat]; exact hx) (.eq e1 (.iteP (fun h => .chk (by simp; omega) (.ok ?_)) (fun h => .ok ?_)))) fun o' ho => ?_
      · rw [rsts_succ hx, if_pos h]
      · rw [rsts_succ hx, if_neg h, List.append_nil]
      · rw [w64_id (by omega)]
        exact .nx ⟨m - 1, by omega, i + 1, by dsimp only; omega, by omega, ho⟩
    · have : i = l.length := by omega
      subst this
      rw [List.take_length]
  have hl3 : (rsts n period stop l).length ≤ 3 := by
    have := rsts_le (n := n) (period := period) (stop := stop) (l := l) (i := l.length)
    rw [List.take_length] at this; omega
  obtain ⟨r, er, hp, hs⟩ := sort_int (rsts n period stop l) (by omega)
  have hsr : Tot (iter (s_l10Rests_L2 n period l stop) (0, [])) fun r' => r'.Perm (rsts n period stop l) ∧ r'.Pairwise (· ≤ ·) := by
    refine Tot.iter (fun m (s : Int × List Int) => ∃ i : Nat, s.1 = i ∧ i + m = l.length ∧ s.2.Perm (rsts n period stop (l.take i)) ∧ s.2.Pairwise (· ≤ ·)) (n := l.length) ⟨0, rfl, by omega, by simp [rsts], by simp⟩ ?_
    rintro m ⟨v, o⟩ ⟨i, rfl, h1, h2, h3⟩
    dsimp only at h2 h3
    have hle := rsts_le (n := n) (period := period) (stop := stop) (l := l) (i := i)
    have hol := h2.length_eq
    unfold s_l10Rests_L2
    dsimp only
    refine .iteP (fun hc => ?_) (fun hc => .dn ?_)
    · obtain ⟨x, hx⟩ := get_ex (l := l) (i := i) (by omega)
      obtain ⟨_, e2, e3, e4⟩ := rest_ok hn hper (hpat x (List.mem_of_getElem? hx)) stop
      refine Tot.call (P := fun o' => o'.Perm (rsts n period stop (l.take (i + 1))) ∧ o'.Pairwise (· ≤ ·)) (.eq (by rw [idx_nat]; exact hx) (.eq e2 (.iteP (fun h => .ok ?_) (fun h => ?_)))) fun o' ho => ?_
      · rw [rsts_succ hx, if_neg (by omega), List.append_nil]; exact ⟨h2, h3⟩
      · refine Tot.call (slot_ok o _ (by omega) h3) fun s ⟨k, hk, hko, k1, k2⟩ => ?_
        subst hk
        have t1 : (o.take k).length = k := by rw [List.length_take]; omega
        have t2 : (o.drop k).length = o.length - k := by rw [List.length_drop]
        simp only [Int.toNat_natCast, Int.toNat_zero, List.drop_zero, List.nil_append]
        refine .chk (by omega) (.chk (by simp; omega) (.chk (by simp; omega) (.chk (by omega) (.chk (by simp; omega) (.ok ⟨?_, ins_at h3 k1 k2⟩)))))
        rw [rsts_succ hx, if_pos (by omega)]
        exact ins_perm.trans (h2.append_right _)
      · rw [w64_id (by omega)]
        exact .nx ⟨m - 1, by omega, i + 1, by dsimp only; omega, by omega, ho⟩
    · have : i = l.length := by omega
      subst this
      rw [List.take_length] at h2
      exact ⟨h2, h3⟩
  obtain ⟨r', er', hp', hs'⟩ := hsr
  have e : r' = r := List.Perm.eq_of_pairwise (fun a b _ _ h1 h2 => by omega) hs' hs (hp'.trans hp.symm)
  subst e
  refine ⟨r', ?_, ?_, hs, fun x hx => ?_, by have := hp.length_eq; omega⟩
  · unfold i_passingRests
    rw [hi]
    simp only [Option.bind_some, er]
  · unfold s_l10Rests
    rw [er']; rfl
  · have hm := hp.mem_iff.1 hx
    unfold rsts at hm
    rw [List.mem_filter] at hm
    obtain ⟨y, hy, rfl⟩ := List.mem_map.1 hm.1
    obtain ⟨_, _, e3, e4⟩ := rest_ok hn hper (hpat y hy) stop
    exact ⟨of_decide_eq_true hm.2, e4⟩
/-! Gaps, squares and even times. -/
def gp (r : List Int) (P : Int) (i : Nat) : Int := if i + 1 < r.length then r.getD (i + 1) 0 - r.getD i 0 else r.getD 0 0 + P - r.getD i 0
def gaps (r : List Int) (P : Int) : List Int := (List.range r.length).map (gp r P)
def BdR (r : List Int) (P : Int) : Prop := r.length ≤ 100 ∧ (∀ x ∈ r, 0 ≤ x ∧ x ≤ 1000) ∧ 0 ≤ P ∧ P ≤ 1000
theorem getD_eq' {l : List Int} {i : Nat} {x : Int} (h : l[i]? = some x) : l.getD i 0 = x := by rw [List.getD_eq_getElem?_getD, h]; rfl
theorem igaps_eq {r : List Int} {P : Int} (hb : BdR r P) : i_gapsOf r P = some (gaps r P) := by
  obtain ⟨h1, h2, h3⟩ := hb
  unfold i_gapsOf
  rw [chk_of (by omega)]
  have hR : (List.range r.length).length = r.length := List.length_range
  have e : iter (i_gapsOf_L1 r P) (0, List.replicate (r.length : Int).toNat 0) = some (gaps r P) := by
    refine fill_loop (gp r P) (List.range r.length) _ (by rw [List.length_replicate, hR]; omega) (fun i a x y ha hy hx => ?_) (fun a ha => ?_)
    · have hi := get_lt hx
      rw [hR] at hi
      have ex : x = i := by
        rw [List.getElem?_range hi] at hx; cases hx; rfl
      subst ex
      obtain ⟨u, hu⟩ := get_ex (l := r) (i := x) hi
      have bu := h2 u (List.mem_of_getElem? hu)
      obtain ⟨z, hz⟩ := get_ex (l := r) (i := 0) (by omega)
      have bz := h2 z (List.mem_of_getElem? hz)
      have e0 : idx r 0 = some z := by have := idx_nat r 0; exact this.trans hz
      unfold i_gapsOf_L1
      have ew : w64 ((x : Int) + 1) = ((x + 1 : Nat) : Int) := w64_succ (by omega)
      simp only [Int.ofNat_lt.2 hi, decide_true, if_true, ew, idx_nat, hu, hy, Option.bind_some, Int.toNat_natCast]
      by_cases hc : x + 1 < r.length
      · obtain ⟨v, hv⟩ := get_ex (l := r) (i := x + 1) hc
        have bv := h2 v (List.mem_of_getElem? hv)
        have e1 : w64 (v - u) = v - u := w64_id (by omega)
        simp only [Int.ofNat_lt.2 hc, decide_true, if_true, hv, Option.bind_some, e1, gp, hc, getD_eq' hv, getD_eq' hu]
      · have hc' : ¬ (((x + 1 : Nat) : Int) < r.length) := by omega
        have e1 : w64 (w64 (z + P) - u) = z + P - u := by rw [w64_id (x := z + P) (by omega), w64_id (by omega)]
        simp only [decide_eq_false hc', Bool.false_eq_true, if_false, e0, Option.bind_some, e1, gp, hc, getD_eq' hz, getD_eq' hu]
    · rw [hR]
      unfold i_gapsOf_L1; simp
  simp only [Option.bind_some, e]
theorem sgaps_eq {r : List Int} {P : Int} (hb : BdR r P) : s_l10Gaps r P = some (gaps r P) := by
  obtain ⟨h1, h2, h3⟩ := hb
  unfold s_l10Gaps
  have hR : (List.range r.length).length = r.length := List.length_range
  have e : iter (s_l10Gaps_L1 r P) (0, []) = some (gaps r P) := by
    refine app_loop (gp r P) (List.range r.length) (fun i a x ha hx => ?_) (fun a ha => ?_)
    · have hi := get_lt hx
      rw [hR] at hi
      have ex : x = i := by
        rw [List.getElem?_range hi] at hx; cases hx; rfl
      subst ex
      obtain ⟨u, hu⟩ := get_ex (l := r) (i := x) hi
      have bu := h2 u (List.mem_of_getElem? hu)
      obtain ⟨z, hz⟩ := get_ex (l := r) (i := 0) (by omega)
      have bz := h2 z (List.mem_of_getElem? hz)
      have e0 : idx r 0 = some z := by have := idx_nat r 0; exact this.trans hz
      unfold s_l10Gaps_L1
      have ew : w64 ((x : Int) + 1) = ((x + 1 : Nat) : Int) := w64_succ (by omega)
      have ep : w64 (z + P) = z + P := w64_id (by omega)
      simp only [Int.ofNat_lt.2 hi, decide_true, if_true, ew, idx_nat, hu, e0, Option.bind_some, ep]
      by_cases hc : x + 1 < r.length
      · obtain ⟨v, hv⟩ := get_ex (l := r) (i := x + 1) hc
        have bv := h2 v (List.mem_of_getElem? hv)
        have e1 : w64 (v - u) = v - u := w64_id (by omega)
        simp only [Int.ofNat_lt.2 hc, decide_true, if_true, hv, Option.bind_some, e1, gp, hc, getD_eq' hv, getD_eq' hu]
        rw [chk_of (by simp; omega)]; rfl
      · have hc' : ¬ (((x + 1 : Nat) : Int) < r.length) := by omega
        have e1 : w64 (z + P - u) = z + P - u := w64_id (by omega)
        simp only [decide_eq_false hc', Bool.false_eq_true, if_false, Option.bind_some, e1, gp, hc, getD_eq' hz, getD_eq' hu]
        rw [chk_of (by simp; omega)]; rfl
    · rw [hR]
      unfold s_l10Gaps_L1; simp
  simp only [e, Option.bind_some]
def sqs (l : List Int) : Int := (l.map fun x => x * x).sum
theorem sq_bd {a : Int} (h : -2000 ≤ a ∧ a ≤ 2000) : 0 ≤ a * a ∧ a * a ≤ 1000000 * 4 := by
  have h1 : a * a = (a.natAbs : Int) * (a.natAbs : Int) := by
    rcases Int.natAbs_eq a with e | e
    · rw [← e]
    · have e2 : (a.natAbs : Int) = -a := by omega
      rw [e2]; exact (Int.neg_mul_neg a a).symm
  have h2 : (a.natAbs : Int) * (a.natAbs : Int) ≤ 2000 * 2000 := Int.mul_le_mul (by omega) (by omega) (by omega) (by omega)
  have h3 : 0 ≤ (a.natAbs : Int) * (a.natAbs : Int) := Int.mul_nonneg (by omega) (by omega)
  omega
theorem sq_bd1 {a : Int} (h : -1000 ≤ a ∧ a ≤ 1000) : 0 ≤ a * a ∧ a * a ≤ 1000000 := by
  have h1 : a * a = (a.natAbs : Int) * (a.natAbs : Int) := by
    rcases Int.natAbs_eq a with e | e
    · rw [← e]
    · have e2 : (a.natAbs : Int) = -a := by omega
      rw [e2]; exact (Int.neg_mul_neg a a).symm
  have h2 : (a.natAbs : Int) * (a.natAbs : Int) ≤ 1000 * 1000 := Int.mul_le_mul (by omega) (by omega) (by omega) (by omega)
  have h3 : 0 ≤ (a.natAbs : Int) * (a.natAbs : Int) := Int.mul_nonneg (by omega) (by omega)
  omega
theorem squares_eq {l : List Int} (hl : l.length ≤ 1000) (hb : ∀ x ∈ l, -1000 ≤ x ∧ x ≤ 1000) : i_squares l = some (sqs l) := by
  unfold i_squares
  have h := sum_loop (fun x : Int => x * x) l (by omega) (fun x hx => sq_bd1 (hb x hx)) (step := i_squares_L1 l) (fun i s x hx => ?_) (fun s => ?_)
  · rw [h]; rfl
  · have := get_lt hx
    have b := sq_bd1 (hb x (List.mem_of_getElem? hx))
    have e : w64 (x * x) = x * x := w64_id (by omega)
    unfold i_squares_L1
    simp only [Int.ofNat_lt.2 this, decide_true, if_true, idx_nat, hx, Option.bind_some, e]
  · unfold i_squares_L1; simp
theorem ssquares_eq {l : List Int} (hl : l.length ≤ 1000) (hb : ∀ x ∈ l, -1000 ≤ x ∧ x ≤ 1000) : s_l10Squares l = some (sqs l) := by
  unfold s_l10Squares
  have h := sum_loop (fun x : Int => x * x) l (by omega) (fun x hx => sq_bd1 (hb x hx)) (step := s_l10Squares_L1 l) (fun i s x hx => ?_) (fun s => ?_)
  · rw [h]; rfl
  · have := get_lt hx
    have b := sq_bd1 (hb x (List.mem_of_getElem? hx))
    have e : w64 (x * x) = x * x := w64_id (by omega)
    unfold s_l10Squares_L1
    simp only [Int.ofNat_lt.2 this, decide_true, if_true, idx_nat, hx, Option.bind_some, e]
  · unfold s_l10Squares_L1; simp
theorem rsum_eq {l : List Int} (hl : l.length ≤ 1000) (hb : ∀ x ∈ l, 0 ≤ x ∧ x ≤ 1000) : v_rSum l = some l.sum := by
  unfold v_rSum
  have h := sum_loop (fun x : Int => x) l (by omega) (fun x hx => by have := hb x hx; omega) (step := v_rSum_L1 l) (fun i s x hx => ?_) (fun s => ?_)
  · rw [h]; simp
  · have := get_lt hx
    unfold v_rSum_L1
    simp only [Int.ofNat_lt.2 this, decide_true, if_true, idx_nat, hx, Option.bind_some]
  · unfold v_rSum_L1; simp
theorem rhas_true {l : List Int} {x : Int} (hl : l.length ≤ 1000) (h : x ∈ l) : v_rHas l x = some true := by
  unfold v_rHas
  refine Tot.val (.flb ((Tot.iter (fun m (s : Int) => ∃ i : Nat, s = i ∧ i + m = l.length ∧ ∀ j y, j < i → l[j]? = some y → y ≠ x) (Q := fun (b : Fl Bool Unit) => b = .ret true) (n := l.length) ⟨0, rfl, by omega, fun j y h => absurd h (Nat.not_lt_zero _)⟩ ?_).mono fun b hb => ⟨fun r e => (by rw [hb] at e; cases e; rfl), fun u e => (by rw [hb] at e; cases e)⟩))
  rintro m s ⟨i, rfl, h1, h2⟩
  unfold v_rHas_L1
  refine .iteP (fun hc => .idx (by omega) hc fun y hy => .ite (fun _ => .dn rfl) (fun hne => ?_)) (fun hc => ?_)
  · rw [w64_id (by omega)]
    rw [Int.toNat_natCast] at hy
    refine .nx ⟨m - 1, by omega, i + 1, by omega, by omega, fun j z hj hz => ?_⟩
    by_cases e : j = i
    · subst e; rw [hy] at hz; cases hz; exact beq_eq_false_iff_ne.1 hne
    · exact h2 j z (by omega) hz
  · obtain ⟨j, hj⟩ := List.getElem?_of_mem h
    exact absurd rfl (h2 j x (by have := get_lt hj; omega) hj)
theorem rints_self {l : List Int} (hl : l.length ≤ 1000) : v_rInts l l = some true := by
  unfold v_rInts
  have h0 : ((l.length : Int) != (l.length : Int)) = false := by simp
  rw [h0]
  simp only [Bool.false_eq_true, if_false]
  refine Tot.val (.flb ((Tot.iter (fun m (s : Int) => ∃ i : Nat, s = i ∧ i + m = l.length) (Q := fun (b : Fl Bool Unit) => b = .go ()) (n := l.length) ⟨0, rfl, by omega⟩ ?_).mono fun b hb => ⟨fun r e => (by rw [hb] at e; cases e), fun u e => .ok rfl⟩))
  rintro m s ⟨i, rfl, h1⟩
  unfold v_rInts_L1
  refine .iteP (fun hc => .idx (by omega) hc fun x hx => .idx (by omega) hc fun y hy => ?_) (fun hc => .dn rfl)
  rw [hx] at hy; cases hy
  refine .ite (fun h => by simp at h) (fun _ => ?_)
  rw [w64_id (by omega)]
  exact .nx ⟨m - 1, by omega, i + 1, by omega, by omega⟩
def evens (c : Nat) (P : Int) : List Int := (List.range c).map fun v : Nat => ((v : Int) * P).tdiv c
theorem ev_bd {i c : Nat} {P : Int} (h : i ≤ 100) (hP : 0 ≤ P ∧ P ≤ 1000) : 0 ≤ (i : Int) * P ∧ (i : Int) * P ≤ 100000 := by
  have h1 := Int.mul_nonneg (show 0 ≤ (i : Int) by omega) hP.1
  have h2 : (i : Int) * P ≤ 100 * 1000 := Int.mul_le_mul (by omega) hP.2 hP.1 (by omega)
  omega
theorem ev_rng {i c : Nat} {P : Int} (hi : i < c) (h : c ≤ 100) (hP : 0 ≤ P ∧ P ≤ 1000) : 0 ≤ ((i : Int) * P).tdiv c ∧ ((i : Int) * P).tdiv c ≤ 1000 := by
  have b := ev_bd (i := i) (c := c) (by omega) hP
  rw [Int.tdiv_eq_ediv_of_nonneg b.1]
  refine ⟨Int.ediv_nonneg b.1 (by omega), ?_⟩
  have : (i : Int) * P ≤ (c : Int) * P := Int.mul_le_mul_of_nonneg_right (by omega) hP.1
  have h2 : (i : Int) * P / c ≤ (c : Int) * P / c := Int.ediv_le_ediv (by omega) this
  rw [Int.mul_ediv_cancel_left _ (by omega)] at h2
  omega
theorem ieven_eq (c : Nat) (P : Int) (hc : c ≤ 100) (hP : 1 ≤ P ∧ P ≤ 60) : i_EvenTimes (c : Int) P = some (if 1 ≤ c ∧ (c : Int) ≤ P then (evens c P, true) else ([], false)) := by
  unfold i_EvenTimes
  by_cases h : 1 ≤ c ∧ (c : Int) ≤ P
  · have h' : 1 ≤ (c : Int) ∧ (c : Int) ≤ P := by omega
    simp only [within_eq, Option.bind_some, decide_eq_true hP, decide_eq_true h', Bool.not_true, Bool.false_eq_true, if_false, if_pos h]
    rw [chk_of (by omega)]
    have e : iter (i_EvenTimes_L1 (c : Int) P) (0, List.replicate (c : Int).toNat 0) = some (evens c P) := by
      refine fill_loop (fun v : Nat => ((v : Int) * P).tdiv c) (List.range c) _ (by simp) (fun i a x y ha hy hx => ?_) (fun a ha => ?_)
      · have hi := get_lt hx
        rw [List.length_range] at hi
        have ex : x = i := by
          rw [List.getElem?_range hi] at hx; cases hx; rfl
        subst ex
        have b := ev_bd (i := x) (c := c) (P := P) (by omega) (by omega)
        have br := ev_rng (P := P) hi hc (by omega)
        have hlt : (x : Int) < ((List.replicate c (0 : Int)).length : Int) := by rw [List.length_replicate]; omega
        have e2 : w64 ((w64 ((x : Int) * P)).tdiv c) = ((x : Int) * P).tdiv c := by rw [w64_id (x := (x : Int) * P) (by omega), w64_id (by omega)]
        unfold i_EvenTimes_L1
        simp only [Int.toNat_natCast, hlt, decide_true, if_true, idx_nat, hy, Option.bind_some, e2, chk_of (show (c : Int) ≠ 0 by omega), w64_succ (n := x) (by omega), Int.toNat_natCast]
      · unfold i_EvenTimes_L1
        simp
    simp only [Option.bind_some, e]
  · have h' : ¬ (1 ≤ (c : Int) ∧ (c : Int) ≤ P) := by omega
    simp only [within_eq, Option.bind_some, decide_eq_true hP, decide_eq_false h', Bool.not_true, Bool.not_false, Bool.false_eq_true, if_false, if_true, if_neg h]
theorem seven_eq (c : Nat) (P : Int) (hc : 1 ≤ c ∧ c ≤ 100) (hP : 1 ≤ P ∧ P ≤ 60) : s_l10Even (c : Int) P = some (evens c P) := by
  unfold s_l10Even
  have e : iter (s_l10Even_L1 (c : Int) P) (0, []) = some (evens c P) := by
    refine app_loop (fun v : Nat => ((v : Int) * P).tdiv c) (List.range c) (fun i a x ha hx => ?_) (fun a ha => ?_)
    · have hi := get_lt hx
      rw [List.length_range] at hi
      have ex : x = i := by
        rw [List.getElem?_range hi] at hx; cases hx; rfl
      subst ex
      have b := ev_bd (i := x) (c := c) (P := P) (by omega) (by omega)
      have br := ev_rng (P := P) hi hc.2 (by omega)
      have e2 : w64 ((w64 ((x : Int) * P)).tdiv c) = ((x : Int) * P).tdiv c := by rw [w64_id (x := (x : Int) * P) (by omega), w64_id (by omega)]
      unfold s_l10Even_L1
      simp only [Int.ofNat_lt.2 hi, decide_true, if_true, Option.bind_some, e2, chk_of (show (c : Int) ≠ 0 by omega), w64_succ (n := x) (by omega)]
      rw [chk_of (by simp; omega)]; rfl
    · unfold s_l10Even_L1; simp
  rw [e]; rfl
theorem evens_len (c : Nat) (P : Int) : (evens c P).length = c := by simp [evens]
theorem gaps_len (r : List Int) (P : Int) : (gaps r P).length = r.length := by simp [gaps]
theorem evens_bd {c : Nat} {P : Int} (hc : c ≤ 100) (hP : 1 ≤ P ∧ P ≤ 60) : BdR (evens c P) P := by
  refine ⟨by rw [evens_len]; exact hc, fun x hx => ?_, by omega, by omega⟩
  obtain ⟨v, hv, rfl⟩ := List.mem_map.1 hx
  have := List.mem_range.1 hv
  exact ev_rng this hc (by omega)
theorem gp_bd {r : List Int} {P : Int} (hb : BdR r P) : ∀ x ∈ gaps r P, -1000 ≤ x ∧ x ≤ 2000 := by
  have hg : ∀ i, 0 ≤ r.getD i 0 ∧ r.getD i 0 ≤ 1000 := fun i => by
    rcases Nat.lt_or_ge i r.length with h | h
    · obtain ⟨v, hv⟩ := get_ex h
      rw [getD_eq' hv]; exact hb.2.1 v (List.mem_of_getElem? hv)
    · rw [List.getD_eq_getElem?_getD, List.getElem?_eq_none h]; simp
  intro x hx
  obtain ⟨i, _, rfl⟩ := List.mem_map.1 hx
  have a := hg i; have b := hg (i + 1); have c := hg 0
  have := hb.2.2
  unfold gp
  split <;> omega
/-- Even times leave the least squares: the value, for all few. -/
theorem even_val : ∀ P : Fin 61, ∀ c : Fin 4, 1 ≤ c.val → c.val ≤ P.val → sqs (gaps (evens c.val (P.val : Int)) (P.val : Int)) = (2 * ((P.val : Int) / c.val) + 1) * P.val - c.val * (((P.val : Int) / c.val) * ((P.val : Int) / c.val + 1)) := by decide +kernel
theorem sq_low (x q : Int) : (2 * q + 1) * x - q * (q + 1) ≤ x * x := by
  have h : 0 ≤ (x - q) * (x - q - 1) := by
    rcases Int.lt_or_le q x with h | h
    · exact Int.mul_nonneg (by omega) (by omega)
    · exact Int.mul_nonneg_of_nonpos_of_nonpos (by omega) (by omega)
  have e : (x - q) * (x - q - 1) = x * x - ((2 * q + 1) * x - q * (q + 1)) := by grind
  omega
/-! The draws of patterns, and the law. -/
theorem t_pick {k : Nat} {c : l1Cur} (n : Int) (h : Cur k c) (hk : k ≤ 3000000000) : Tot (s_l1Cur_pick c n) fun r => Cur (k + 2) r.2 ∧ 0 ≤ r.1 ∧ (r.1 < n ∨ r.1 = 0) := pick_ok n h hk
theorem t_one {k : Nat} {c : l1Cur} (n : Int) (h : Cur k c) (hk : k ≤ 3000000000) : Tot (s_l1Cur_one c n) fun r => Cur (k + 2) r.2 := one_ok n h hk
theorem t_among {k : Nat} {c : l1Cur} (l : List Int) (hl : l ≠ []) (h : Cur k c) (hk : k ≤ 3000000000) : Tot (s_l1Cur_among c l) fun r => Cur (k + 2) r.2 ∧ r.1 ∈ l := among_ok l hl h hk
theorem t_patterns {k : Nat} {c : l1Cur} (h : Cur k c) (hk : k ≤ 1000) : Tot (s_l1Cur_patterns c 9) fun r => PB r.1 r.2.1 r.2.2.1 ∧ Cur 10000 r.2.2.2 := by
  unfold s_l1Cur_patterns
  obtain ⟨⟨n, c1⟩, e1, hc1, hbn⟩ := anyNetwork_ok h (by omega)
  refine .eq e1 ?_
  dsimp only at hc1 hbn ⊢
  refine .chk (by decide) (Tot.call (t_among _ (by decide) hc1 (by omega)) fun r1 ⟨hr1, hm1⟩ => Tot.call (t_pick 3 hr1 (by omega)) fun r2 ⟨hr2, p0, p1⟩ => ?_)
  have hper : 1 ≤ r1.1 ∧ r1.1 ≤ 60 := by
    have := List.mem_of_mem_take (List.mem_of_mem_drop hm1)
    simp only [List.mem_cons, List.not_mem_nil, or_false] at this; omega
  refine Tot.call (P := fun (x : List UInt8 × Int × Int × List Pattern) => Cur 5000 ⟨x.1, x.2.1, ⟨x.2.2.1⟩⟩ ∧ x.2.2.2.length ≤ 10) ?_ fun ⟨v4, v5, v6, k1⟩ ⟨h1, h2⟩ => ?_
  · rw [w64_id (by omega)]
    refine Tot.iter (fun m (s : Int × List UInt8 × Int × Int × List Pattern) => s.1 = m ∧ m + s.2.2.2.2.length ≤ 4 ∧ Cur (3010 + 4 * s.2.2.2.2.length) ⟨s.2.1, s.2.2.1, ⟨s.2.2.2.1⟩⟩) (n := (1 + r2.1).toNat) ⟨by dsimp only; omega, by simp; omega, hr2.mono (by simp; omega)⟩ ?_
    rintro m ⟨x, v, v1, v2, k⟩ ⟨g1, g2, g3⟩
    dsimp only at g1 g2 g3
    unfold s_l1Cur_patterns_L1
    dsimp only
    refine Tot.call (P := fun b => b = true → 0 < x) (.iteP (fun hx => .ok fun _ => hx) (fun hx => .ok fun h => (by cases h))) fun b hb => .ite (fun hh => ?_) (fun hh => .dn ⟨g3.mono (by omega), by dsimp only; omega⟩)
    have hx := hb hh
    refine Tot.call (t_pick _ g3 (by omega)) fun r3 ⟨hr3, _⟩ => Tot.call (t_pick _ hr3 (by omega)) fun r4 ⟨hr4, _⟩ => .chk (by simp; omega) ?_
    rw [w64_id (by omega)]
    exact .nx ⟨m - 1, by omega, by dsimp only; omega, by simp; omega, hr4.mono (by simp; omega)⟩
  · dsimp only at h1 h2 ⊢
    refine .ite (fun _ => .ok ⟨⟨hbn, by dsimp only; omega, by dsimp only; omega⟩, h1.mono (by omega)⟩) (fun hne => ?_)
    have hne : k1.length ≠ 0 := by
      have := beq_eq_false_iff_ne.1 hne; omega
    refine Tot.call (t_pick (k1.length : Int) h1 (by omega)) fun r5 ⟨hr5, q0, q1⟩ => .idx q0 (by omega) fun e he => ?_
    refine Tot.call (P := fun (x : Int × List UInt8 × Int × Int × List Pattern × Int × Int) => (-1000 ≤ x.1 ∧ x.1 ≤ 1000) ∧ Cur 9000 ⟨x.2.1, x.2.2.1, ⟨x.2.2.2.1⟩⟩ ∧ k1.length ≤ x.2.2.2.2.1.length ∧ x.2.2.2.2.1.length ≤ 100) ?_ fun ⟨k2, v7, v8, v9, k3, v10, v11⟩ ⟨j1, j2, j3, j4⟩ => ?_
    · refine Tot.call (t_pick 40 hr5 (by omega)) fun r6 ⟨hr6, _⟩ => .ite (fun _ => Tot.call (t_among _ (by simp) hr6 (by omega)) fun r7 ⟨hr7, hm7⟩ => .ok ⟨by dsimp only; omega, hr7.mono (by omega), Nat.le_refl _, by dsimp only; omega⟩) (fun _ => .ite (fun _ => Tot.call (t_among _ (by simp) hr6 (by omega)) fun r7 ⟨hr7, hm7⟩ => .ok ⟨by dsimp only; omega, hr7.mono (by omega), Nat.le_refl _, by dsimp only; omega⟩) (fun _ => .ite (fun _ => Tot.call (t_among _ (by simp) hr6 (by omega)) fun r7 ⟨hr7, hm7⟩ => .ok ?_) (fun _ => .ite (fun _ => ?_) (fun _ => .ok ⟨by dsimp only; omega, hr6.mono (by omega), Nat.le_refl _, by dsimp only; omega⟩))))
      · simp only [List.mem_cons, List.not_mem_nil, or_false] at hm7
        exact ⟨by dsimp only; omega, hr7.mono (by omega), Nat.le_refl _, by dsimp only; omega⟩
      · refine Tot.call (P := fun (x : List UInt8 × Int × Int × List Pattern) => Cur 9000 ⟨x.1, x.2.1, ⟨x.2.2.1⟩⟩ ∧ k1.length ≤ x.2.2.2.length ∧ x.2.2.2.length ≤ 100) ?_ fun ⟨v15, v16, v17, k5⟩ ⟨j1, j2, j3⟩ => .ok ⟨by dsimp only; omega, j1, j2, j3⟩
        refine Tot.iter (fun m (s : List UInt8 × Int × Int × List Pattern) => m + s.2.2.2.length = 60 ∧ k1.length ≤ s.2.2.2.length ∧ Cur (5100 + 2 * s.2.2.2.length) ⟨s.1, s.2.1, ⟨s.2.2.1⟩⟩) (n := 60 - k1.length) ⟨by dsimp only; omega, Nat.le_refl _, hr6.mono (by dsimp only; omega)⟩ ?_
        rintro m ⟨v12, v13, v14, k4⟩ ⟨g1, g2, g3⟩
        dsimp only at g1 g2 g3
        unfold s_l1Cur_patterns_L2
        dsimp only
        refine Tot.call (t_pick 2 g3 (by omega)) fun r10 ⟨hr10, w0, w1⟩ => ?_
        rw [w64_id (x := 3 + r10.1) (by omega)]
        exact .iteP (fun hc => .chk (by simp; omega) (.nx ⟨m - 1, by omega, by simp; omega, by simp; omega, hr10.mono (by simp; omega)⟩)) (fun hc => .dn ⟨hr10.mono (by omega), g2, by dsimp only; omega⟩)
    · dsimp only at j1 j2 j3 j4 ⊢
      exact .idx q0 (by omega) fun e1 _ => .ok ⟨⟨hbn, j1, by simp; omega⟩, j2.mono (by omega)⟩
theorem t_stop {k : Nat} {c : l1Cur} (h : Cur k c) (hk : k ≤ 100000) (n : Network) (l : List Pattern) (hb : Bd n) (hl : l.length ≤ 1000) : Tot (s_l1Cur_stop10_w c n l) fun _ => True := by
  unfold s_l1Cur_stop10_w
  have hs := hb.1
  have hln := hb.2.1
  refine Tot.flb (Tot.call (P := fun (x : Bool × List UInt8 × Int × Int) => Cur (k + 2) ⟨x.2.1, x.2.2.1, ⟨x.2.2.2⟩⟩ ∧ (x.1 = true → 0 < l.length ∧ Good n)) ?_ fun ⟨b, v4, v5, v6⟩ ⟨g1, g2⟩ => ?_)
  · refine .iteP (fun h0 => .eq (good_eq n hb) (.iteP (fun hg => Tot.call (t_one 6 h (by omega)) fun r hr => .ok ⟨hr, fun _ => ⟨by omega, hg⟩⟩) (fun hg => .ok ⟨h.mono (by omega), fun h => (by cases h)⟩))) (fun h0 => .ok ⟨h.mono (by omega), fun h => (by cases h)⟩)
  · dsimp only at g1 g2 ⊢
    have fin : ∀ {k' : Nat} {c' : l1Cur}, Cur k' c' → k' ≤ 200000 → Tot ((s_l1Cur_pick c' (w64 ((n.Stops.length : Int) + 1))).bind fun r7 => (s_l1Cur_pick r7.2 12).bind fun r8 => (chk ((11 : Int) ≠ 0)).bind fun u => some ((w64 (r7.1 - (w64 (r8.1.tdiv 11)))), r8.2)) fun _ => True := by
      intro k' c' hc hk'
      exact Tot.call (t_pick _ hc (by omega)) fun r7 ⟨hr7, _⟩ => Tot.call (t_pick _ hr7 (by omega)) fun r8 _ => .chk (by decide) (.ok trivial)
    refine .ite (fun hh => ?_) (fun _ => .go (fin g1 (by omega)))
    obtain ⟨h0, hg⟩ := g2 hh
    refine Tot.call (t_pick (l.length : Int) g1 (by omega)) fun r2 ⟨hr2, q0, q1⟩ => .idx q0 (by omega) fun e _ => .eq (l1In_eq ..) ?_
    rw [w64_id (x := (n.Lines.length : Int) - 1) (by omega)]
    refine .iteP (fun hi => ?_) (fun _ => .go (fin hr2 (by omega)))
    refine .idx hi.1 (by omega) fun x hx => .idx hi.1 (by omega) fun y hy => ?_
    rw [hx] at hy; cases hy
    have hL := hg.2.2.2.2 _ x hx
    have hst := hL.1
    exact Tot.call (t_pick _ hr2 (by omega)) fun r5 ⟨_, w0, w1⟩ => .idx w0 (by omega) fun z _ => .ret trivial
theorem t_draw (code : List UInt8) : Tot (s_DrawGapsAt code) fun r => PB r.1 r.2.1 r.2.2.1 := by
  unfold s_DrawGapsAt s_DrawPassingRests
  refine Tot.call (P := fun (r : Network × Int × List Pattern × Int) => PB r.1 r.2.1 r.2.2.1) (Tot.call (t_patterns (cur0 code) (by omega)) fun r ⟨hb, hc⟩ => Tot.call (t_stop hc (by omega) r.1 r.2.2.1 hb.1 hb.2.2) fun r2 _ => .ok hb) fun r hr => .ok hr
theorem gap_cases {r : List Int} {P : Int} (hs : r.Pairwise (· ≤ ·)) (hb : ∀ x ∈ r, 0 ≤ x ∧ x < P) (hl : r.length ≤ 3) (h0 : 0 < r.length) : (∀ g ∈ gaps r P, 0 ≤ g ∧ g ≤ P) ∧ (gaps r P).sum = P ∧ ∀ q : Int, (2 * q + 1) * P - r.length * (q * (q + 1)) ≤ sqs (gaps r P) := by
  match r, hs, hb, hl, h0 with
  | [a], hs, hb, _, _ =>
    have ha := hb a (by simp)
    have e : gaps [a] P = [a + P - a] := rfl
    rw [e]
    have e2 : a + P - a = P := by omega
    rw [e2]
    refine ⟨fun g hg => ?_, by simp, fun q => ?_⟩
    · have : g = P := by simpa using hg
      omega
    · have := sq_low P q
      simp only [sqs, List.map_cons, List.map_nil, List.sum_cons, List.sum_nil, List.length_cons, List.length_nil]
      omega
  | [a, b], hs, hb, _, _ =>
    have ha := hb a (by simp); have hb' := hb b (by simp)
    have hab : a ≤ b := by simpa using hs
    have e : gaps [a, b] P = [b - a, a + P - b] := rfl
    rw [e]
    refine ⟨fun g hg => ?_, by simp; omega, fun q => ?_⟩
    · simp only [List.mem_cons, List.not_mem_nil, or_false] at hg
      omega
    · have h1 := sq_low (b - a) q
      have h2 := sq_low (a + P - b) q
      have h3 : (2 * q + 1) * (b - a) + (2 * q + 1) * (a + P - b) = (2 * q + 1) * P := by rw [← Int.mul_add]; congr 1; omega
      simp only [sqs, List.map_cons, List.map_nil, List.sum_cons, List.sum_nil, List.length_cons, List.length_nil]
      omega
  | [a, b, c], hs, hb, _, _ =>
    have ha := hb a (by simp); have hb' := hb b (by simp); have hc := hb c (by simp)
    have hab : a ≤ b ∧ b ≤ c := by
      simp only [List.pairwise_cons, List.mem_cons, List.not_mem_nil, or_false, forall_eq_or_imp, forall_eq] at hs
      omega
    have e : gaps [a, b, c] P = [b - a, c - b, a + P - c] := rfl
    rw [e]
    refine ⟨fun g hg => ?_, by simp; omega, fun q => ?_⟩
    · simp only [List.mem_cons, List.not_mem_nil, or_false] at hg
      omega
    · have h1 := sq_low (b - a) q
      have h2 := sq_low (c - b) q
      have h3 := sq_low (a + P - c) q
      have h4 : (2 * q + 1) * (b - a) + (2 * q + 1) * (c - b) + (2 * q + 1) * (a + P - c) = (2 * q + 1) * P := by rw [← Int.mul_add, ← Int.mul_add]; congr 1; omega
      simp only [sqs, List.map_cons, List.map_nil, List.sum_cons, List.sum_nil, List.length_cons, List.length_nil]
      omega
  | _ :: _ :: _ :: _ :: _, _, _, hl, _ => simp at hl
theorem largest_ok {r : List Int} {P : Int} (hb : BdR r P) (hg : ∀ g ∈ gaps r P, 0 ≤ g) (h0 : 0 < r.length) : Tot (i_largestGap r P) fun x => x.1 ∈ gaps r P ∧ (∀ g ∈ gaps r P, g ≤ x.1) ∧ x.2 ∈ r := by
  unfold i_largestGap
  rw [igaps_eq hb]
  have hgl := gaps_len r P
  refine .eq rfl (Tot.call (P := fun (x : Int × Int) => x.1 ∈ gaps r P ∧ (∀ g ∈ gaps r P, g ≤ x.1) ∧ x.2 ∈ r) ?_ fun ⟨a, b⟩ h => .ok h)
  refine Tot.iter (fun m (s : Int × Int × Int) => ∃ i : Nat, s.2.2 = i ∧ i + m = r.length ∧ (∀ g ∈ (gaps r P).take i, g ≤ s.1) ∧ ((i = 0 ∧ s.1 = -1) ∨ (s.1 ∈ gaps r P ∧ s.2.1 ∈ r))) (n := r.length) ⟨0, rfl, by omega, by simp, .inl ⟨rfl, rfl⟩⟩ ?_
  rintro m ⟨a, b, v⟩ ⟨i, rfl, h1, h2, h3⟩
  dsimp only at h2 h3
  have hbl := hb.1
  unfold i_largestGap_L1
  dsimp only
  rw [hgl]
  refine .iteP (fun hc => ?_) (fun hc => .dn ?_)
  · obtain ⟨g, hgi⟩ := get_ex (l := gaps r P) (i := i) (by omega)
    have hgm := List.mem_of_getElem? hgi
    have hg0 := hg g hgm
    refine Tot.call (P := fun (x : Int × Int) => (a ≤ x.1 ∧ g ≤ x.1) ∧ x.1 ∈ gaps r P ∧ x.2 ∈ r) (.eq (by rw [idx_nat]; exact hgi) (.iteP (fun h => .idx (by omega) (by omega) fun y hy => .ok ⟨⟨by dsimp only; omega, Int.le_refl _⟩, hgm, List.mem_of_getElem? hy⟩) (fun h => .ok ?_))) fun ⟨a', b'⟩ ⟨g1, g2, g3⟩ => ?_
    · rcases h3 with ⟨_, h3⟩ | h3
      · omega
      · exact ⟨⟨Int.le_refl _, by dsimp only; omega⟩, h3.1, h3.2⟩
    · dsimp only at g1 g2 g3 ⊢
      rw [w64_id (by omega)]
      refine .nx ⟨m - 1, by omega, i + 1, by dsimp only; omega, by omega, fun z hz => ?_, .inr ⟨g2, g3⟩⟩
      rw [take_succ hgi] at hz
      rcases List.mem_append.1 hz with hz | hz
      · have := h2 z hz; dsimp only; omega
      · have : z = g := by simpa using hz
        dsimp only; omega
  · have : i = (gaps r P).length := by omega
    rw [this, List.take_length] at h2
    rcases h3 with ⟨h3, _⟩ | h3
    · omega
    · exact ⟨h3.1, h2, h3.2⟩
theorem rBig_eq (code : List UInt8) : v_rBig code = some (decide (65536 < (code.length : Int))) := rfl
theorem gaps_true (code : List UInt8) : v_FnGaps code = some true := by
  unfold v_FnGaps
  refine Tot.val (.eq (rBig_eq code) (.iteP (fun _ => .ok rfl) (fun _ => ?_)))
  refine Tot.call (t_draw code) fun ⟨n, P, l, stop⟩ hb => ?_
  dsimp only at hb ⊢
  by_cases hq : AskP n P l stop
  · obtain ⟨hgp, hst⟩ := id hq
    obtain ⟨r, ei, es, hs, hr, hl3⟩ := rests_ok hgp stop
    have hper := hgp.2.1
    have hbr : BdR r P := ⟨by omega, fun x hx => by have := hr x hx; omega, by omega, by omega⟩
    have iG : i_GapsAt n P l stop = some (gaps r P, true) := by
      unfold i_GapsAt
      rw [iask_eq hb, decide_eq_true hq]
      simp only [Option.bind_some, Bool.not_true, Bool.false_eq_true, if_false, ei, igaps_eq hbr]
    have sG : s_GapsAt n P l stop = some (gaps r P, true) := by
      unfold s_GapsAt
      rw [sask_eq hb, decide_eq_true hq]
      simp only [Option.bind_some, Bool.not_true, Bool.false_eq_true, if_false, es, sgaps_eq hbr]
    have iR : i_PassingRests n P l stop = some (r, true) := by
      unfold i_PassingRests
      rw [iask_eq hb, decide_eq_true hq]
      simp only [Option.bind_some, Bool.not_true, Bool.false_eq_true, if_false, ei]
    have hgl := gaps_len r P
    rw [iG, sG]
    simp only [Option.bind_some, beq_self_eq_true, Bool.not_true, Bool.false_eq_true, if_false, if_true, rints_self (l := gaps r P) (by omega), ipat_eq hb, decide_eq_true hgp, iR]
    by_cases h0 : 0 < r.length
    · obtain ⟨c1, c2, c3⟩ := gap_cases hs hr hl3 h0
      have hne : ((r.length : Int) == 0) = false := beq_eq_false_iff_ne.2 (by omega)
      have hne2 : ((((gaps r P).length : Nat) : Int) == 0) = false := beq_eq_false_iff_ne.2 (by omega)
      obtain ⟨⟨mx, at_⟩, eL, l1, l2, l3⟩ := largest_ok hbr (fun g hg => (c1 g hg).1) h0
      dsimp only at l1 l2 l3
      have iL : i_LargestGap n P l stop = some (mx, at_, true) := by
        unfold i_LargestGap
        rw [iask_eq hb, decide_eq_true hq]
        simp only [Option.bind_some, Bool.not_true, Bool.false_eq_true, if_false, ei, hne, eL]
      have gb : ∀ x ∈ gaps r P, -1000 ≤ x ∧ x ≤ 1000 := fun x hx => by have := c1 x hx; omega
      have iD : i_DoubleWait n P l stop = some (sqs (gaps r P), P, true) := by
        unfold i_DoubleWait
        rw [iG]
        simp only [Option.bind_some, Bool.not_true, Bool.false_eq_true, if_false, hne2, squares_eq (l := gaps r P) (by omega) gb]
      have hd : decide (0 < (((gaps r P).length : Nat) : Int)) = true := decide_eq_true (by omega)
      have hln : ((r.length : Int) != (((gaps r P).length : Nat) : Int)) = false := by rw [hgl]; simp
      rw [iL, iD]
      simp only [Option.bind_some, beq_self_eq_true, Bool.not_true, Bool.false_eq_true, if_false, hd, hln]
      refine Tot.flb ((Tot.iter (fun m (s : Int × Int) => ∃ i : Nat, s.2 = i ∧ i + m = (gaps r P).length ∧ s.1 = sqs ((gaps r P).take i)) (Q := fun (b : Fl Bool Int) => b = .go (sqs (gaps r P))) (n := (gaps r P).length) ⟨0, rfl, by omega, by simp [sqs]⟩ ?_).mono fun b hb2 => ⟨fun r e => (by rw [hb2] at e; cases e), fun u e => ?_⟩)
      · rintro m ⟨a, b⟩ ⟨i, rfl, h1, h2⟩
        dsimp only at h2
        unfold v_FnGaps_L1
        dsimp only
        refine .iteP (fun hc => ?_) (fun hc => .dn ?_)
        · obtain ⟨x, hx⟩ := get_ex (l := gaps r P) (i := i) (by omega)
          have ex : idx (gaps r P) (i : Int) = some x := by rw [idx_nat]; exact hx
          have hxm := List.mem_of_getElem? hx
          have hxl := l2 x hxm
          have bx := sq_bd1 (gb x hxm)
          have hsum := sum_bd (l := ((gaps r P).take i).map fun x => x * x) (M := 1000000) fun y hy => by
            obtain ⟨z, hz, rfl⟩ := List.mem_map.1 hy
            exact sq_bd1 (gb z (List.mem_of_mem_take hz))
          have hml : ((((gaps r P).take i).map fun x => x * x).length : Int) ≤ 1000 := by simp; omega
          have h2' : a = (((gaps r P).take i).map fun x => x * x).sum := h2
          rw [← h2'] at hsum
          refine .eq ex (.eq ex (.eq ex (.iteP (fun h => absurd h (by omega)) (fun _ => ?_))))
          rw [w64_id (x := x * x) (by omega), w64_id (by omega), w64_id (by omega)]
          refine .nx ⟨m - 1, by omega, i + 1, by dsimp only; omega, by omega, ?_⟩
          dsimp only
          unfold sqs
          rw [take_succ hx, List.map_append, List.sum_append, ← h2']
          simp
        · have : i = (gaps r P).length := by omega
          rw [this, List.take_length] at h2
          rw [h2]
      · rw [hb2] at e; cases e
        have hsm : v_rSum (gaps r P) = some P := by rw [rsum_eq (by omega) fun x hx => by have := c1 x hx; omega, c2]
        simp only [hsm, rhas_true (l := gaps r P) (by omega) l1, rhas_true (l := r) (by omega) l3, Option.bind_some, bne_self_eq_false, Bool.false_eq_true, if_false, Bool.not_true]
        -- unevenness
        have hU : ∃ u, i_Unevenness n P l stop = some u ∧ s_Unevenness n P l stop = some u ∧ 0 ≤ u.1 := by
          unfold i_Unevenness s_Unevenness
          rw [iG, sG]
          simp only [Option.bind_some, Bool.not_true, Bool.false_eq_true, if_false]
          rw [hgl, ieven_eq r.length P (by omega) hper, l1In_eq]
          simp only [Option.bind_some]
          by_cases hcp : 1 ≤ r.length ∧ (r.length : Int) ≤ P
          · have hcp' : 1 ≤ (r.length : Int) ∧ (r.length : Int) ≤ P := by omega
            rw [if_pos hcp, decide_eq_true hcp']
            have hbe := evens_bd (c := r.length) (P := P) (by omega) hper
            have eb : ∀ x ∈ gaps (evens r.length P) P, -1000 ≤ x ∧ x ≤ 1060 := fun x hx => by
              obtain ⟨i, _, rfl⟩ := List.mem_map.1 hx
              have hgd : ∀ i, 0 ≤ (evens r.length P).getD i 0 ∧ (evens r.length P).getD i 0 ≤ 60 := fun i => by
                rcases Nat.lt_or_ge i (evens r.length P).length with h | h
                · obtain ⟨v, hv⟩ := get_ex h
                  rw [getD_eq' hv]
                  have hm := List.mem_of_getElem? hv
                  obtain ⟨w, hw, rfl⟩ := List.mem_map.1 hm
                  have hwc := List.mem_range.1 hw
                  have b := ev_bd (i := w) (c := r.length) (P := P) (by omega) (by omega)
                  rw [Int.tdiv_eq_ediv_of_nonneg b.1]
                  refine ⟨Int.ediv_nonneg b.1 (by omega), ?_⟩
                  have h1 : (w : Int) * P ≤ (r.length : Int) * P := Int.mul_le_mul_of_nonneg_right (by omega) (by omega)
                  have h2 : (w : Int) * P / r.length ≤ (r.length : Int) * P / r.length := Int.ediv_le_ediv (by omega) h1
                  rw [Int.mul_ediv_cancel_left _ (by omega)] at h2
                  omega
                · rw [List.getD_eq_getElem?_getD, List.getElem?_eq_none h]; simp
              have a := hgd i; have b := hgd (i + 1); have c := hgd 0
              unfold gp
              split <;> omega
            have eb' : ∀ x ∈ gaps (evens r.length P) P, -1000 ≤ x ∧ x ≤ 1000 := fun x hx => by
              obtain ⟨i, _, rfl⟩ := List.mem_map.1 hx
              have hgd : ∀ i, 0 ≤ (evens r.length P).getD i 0 ∧ (evens r.length P).getD i 0 ≤ 60 := fun i => by
                rcases Nat.lt_or_ge i (evens r.length P).length with h | h
                · obtain ⟨v, hv⟩ := get_ex h
                  rw [getD_eq' hv]
                  have hm := List.mem_of_getElem? hv
                  obtain ⟨w, hw, rfl⟩ := List.mem_map.1 hm
                  have hwc := List.mem_range.1 hw
                  have b := ev_bd (i := w) (c := r.length) (P := P) (by omega) (by omega)
                  rw [Int.tdiv_eq_ediv_of_nonneg b.1]
                  refine ⟨Int.ediv_nonneg b.1 (by omega), ?_⟩
                  have h1 : (w : Int) * P ≤ (r.length : Int) * P := Int.mul_le_mul_of_nonneg_right (by omega) (by omega)
                  have h2 : (w : Int) * P / r.length ≤ (r.length : Int) * P / r.length := Int.ediv_le_ediv (by omega) h1
                  rw [Int.mul_ediv_cancel_left _ (by omega)] at h2
                  omega
                · rw [List.getD_eq_getElem?_getD, List.getElem?_eq_none h]; simp
              have a := hgd i; have b := hgd (i + 1); have c := hgd 0
              unfold gp
              split <;> omega
            have ev := even_val ⟨P.toNat, by omega⟩ ⟨r.length, by omega⟩ hcp.1 (by dsimp only; omega)
            dsimp only at ev
            rw [show ((P.toNat : Nat) : Int) = P by omega] at ev
            have low := c3 (P / r.length)
            have hsb : ∀ q : List Int, q.length ≤ 3 → (∀ x ∈ q, -1000 ≤ x ∧ x ≤ 1000) → 0 ≤ sqs q ∧ sqs q ≤ 3000000 := fun q hq1 hq2 => by
              have := sum_bd (l := q.map fun x => x * x) (M := 1000000) fun y hy => by
                obtain ⟨z, hz, rfl⟩ := List.mem_map.1 hy
                exact sq_bd1 (hq2 z hz)
              rw [List.length_map] at this
              unfold sqs; omega
            have s1 := hsb (gaps r P) (by omega) gb
            have s2 := hsb (gaps (evens r.length P) P) (by rw [gaps_len, evens_len]; omega) eb'
            simp only [Bool.not_true, Bool.false_eq_true, if_false, Option.bind_some, squares_eq (l := gaps r P) (by omega) gb, igaps_eq hbe, squares_eq (l := gaps (evens r.length P) P) (by rw [gaps_len, evens_len]; omega) eb', ssquares_eq (l := gaps r P) (by omega) gb, seven_eq r.length P (by omega) hper, sgaps_eq hbe, ssquares_eq (l := gaps (evens r.length P) P) (by rw [gaps_len, evens_len]; omega) eb']
            refine ⟨_, rfl, rfl, ?_⟩
            dsimp only
            rw [w64_id (by omega), ev]
            omega
          · have hcp' : ¬ (1 ≤ (r.length : Int) ∧ (r.length : Int) ≤ P) := by omega
            rw [if_neg hcp, decide_eq_false hcp']
            simp only [Bool.not_false, if_true, Option.bind_some]
            exact ⟨_, rfl, rfl, by decide⟩
        obtain ⟨u, u1, u2, u3⟩ := hU
        rw [u1, u2]
        simp only [Option.bind_some, beq_self_eq_true, if_true, decide_eq_true u3]
        exact .ok rfl
    · have hr0 : r = [] := List.length_eq_zero_iff.1 (by omega)
      subst hr0
      have eg : gaps [] P = [] := rfl
      have iL : i_LargestGap n P l stop = some (0, 0, false) := by
        unfold i_LargestGap
        rw [iask_eq hb, decide_eq_true hq]
        simp only [Option.bind_some, Bool.not_true, Bool.false_eq_true, if_false, ei]; rfl
      have iD : i_DoubleWait n P l stop = some (0, 0, false) := by
        unfold i_DoubleWait
        rw [iG]; rfl
      rw [iL, iD, eg]
      exact .ok rfl
  · have iG : i_GapsAt n P l stop = some ([], false) := by
      unfold i_GapsAt
      rw [iask_eq hb, decide_eq_false hq]; rfl
    have sG : s_GapsAt n P l stop = some ([], false) := by
      unfold s_GapsAt
      rw [sask_eq hb, decide_eq_false hq]; rfl
    have iR : i_PassingRests n P l stop = some ([], false) := by
      unfold i_PassingRests
      rw [iask_eq hb, decide_eq_false hq]; rfl
    have iL : i_LargestGap n P l stop = some (0, 0, false) := by
      unfold i_LargestGap
      rw [iask_eq hb, decide_eq_false hq]; rfl
    have iD : i_DoubleWait n P l stop = some (0, 0, false) := by
      unfold i_DoubleWait
      rw [iG]; rfl
    rw [iG, sG]
    simp only [Option.bind_some, rints_self (l := []) (by simp), iR, iL, iD]
    exact .ok rfl
end Go.Proofs.Ytgminbcbkcacnaa
