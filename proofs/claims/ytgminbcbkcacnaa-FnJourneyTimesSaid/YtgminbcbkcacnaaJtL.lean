/- The plain law: what the models compute, no program in sight. -/
import Derived.Test.YtgminbcbkcacnaaJtM
import Derived.Test.YtgminbcbkcacnaaAbTot
namespace Go.Proofs.Ytgminbcbkcacnaa
open Go Go.Ab
set_option maxHeartbeats 4000000
set_option linter.unusedVariables false
set_option linter.unusedSimpArgs false
/-! The cursor of the draws: it always answers. -/
def Cur (k : Nat) (c : l1Cur) : Prop := 0 ≤ c.at_ ∧ c.at_ ≤ k
theorem Cur.mono {k k' : Nat} {c : l1Cur} (h : Cur k c) (hk : k ≤ k') : Cur k' c := ⟨h.1, by have := h.2; omega⟩
theorem next_ok {k : Nat} {c : l1Cur} (h : Cur k c) (hk : k ≤ 4000000000) : ∃ r, s_l1Cur_next c = some r ∧ Cur (k + 1) r.2 ∧ 0 ≤ r.1 ∧ r.1 ≤ 255 := by
  obtain ⟨h0, h1⟩ := h
  have hw : w64 (c.at_ + 1) = c.at_ + 1 := w64_id (by omega)
  have hcur : ∀ s, Cur (k + 1) ⟨c.code_, w64 (c.at_ + 1), s⟩ := fun s => by rw [hw]; exact ⟨by show 0 ≤ c.at_ + 1; omega, by show c.at_ + 1 ≤ _; omega⟩
  unfold s_l1Cur_next
  have hv : ∃ v, (if (decide (c.at_ < (c.code_.length : Int))) = true then (idx c.code_ c.at_).bind fun e1 => some (w64 ((e1.toNat : Int))) else some 0) = some v ∧ 0 ≤ v ∧ v ≤ 255 := by
    by_cases hlt : c.at_ < c.code_.length
    · obtain ⟨x, hx, _, _⟩ := idx_lt h0 hlt
      have := x.toNat_lt
      refine ⟨(x.toNat : Int), ?_, by omega, by omega⟩
      simp only [hlt, decide_true, if_true, hx, Option.bind_some]
      rw [w64_id (by omega)]
    · exact ⟨0, by simp [hlt], by omega, by omega⟩
  obtain ⟨v, hv, hv0, hv1⟩ := hv
  rw [hv]
  simp only [Option.bind_some]
  split
  · exact ⟨_, rfl, hcur _, hv0, hv1⟩
  · rw [chk_of (by omega)]
    exact ⟨_, rfl, hcur _, and255 _⟩
theorem pick_ok {k : Nat} {c : l1Cur} (n : Int) (h : Cur k c) (hk : k ≤ 3000000000) : ∃ r, s_l1Cur_pick c n = some r ∧ Cur (k + 2) r.2 ∧ 0 ≤ r.1 ∧ (r.1 < n ∨ r.1 = 0) := by
  unfold s_l1Cur_pick
  by_cases hn : n ≤ 1
  · exact ⟨(0, c), by simp [hn], h.mono (by omega), by simp, .inr rfl⟩
  · obtain ⟨r, hr, hc, h0, h1⟩ := next_ok h (by omega)
    have hn' : decide (n ≤ 1) = false := by simpa using hn
    simp only [hn', Bool.false_eq_true, if_false, hr, Option.bind_some]
    have hne : chk (n ≠ 0) = some () := chk_of (by omega)
    by_cases h2 : 200 < n
    · obtain ⟨r', hr', hc', h0', h1'⟩ := next_ok hc (by omega)
      have e1 : w64 (r.1 * 256) = r.1 * 256 := w64_id (by omega)
      have e2 : w64 (r.1 * 256 + r'.1) = r.1 * 256 + r'.1 := w64_id (by omega)
      have h3 := tmod_rng (a := r.1 * 256 + r'.1) (b := n) (by omega) (by omega)
      simp only [h2, decide_true, if_true, hr', Option.bind_some, hne, e1, e2]
      exact ⟨_, rfl, hc'.mono (by omega), h3.1, .inl h3.2⟩
    · have h2' : decide (200 < n) = false := by simpa using h2
      have h3 := tmod_rng (a := r.1) (b := n) (by omega) (by omega)
      simp only [h2', Bool.false_eq_true, if_false, Option.bind_some, hne]
      exact ⟨_, rfl, hc.mono (by omega), h3.1, .inl h3.2⟩
theorem amongw_ok {k : Nat} {c : l1Cur} (l : List Int) (hl : l ≠ []) (h : Cur k c) (hk : k ≤ 3000000000) : ∃ r, s_l1Cur_among_w c l = some r ∧ Cur (k + 2) r.2 ∧ r.1 ∈ l := by
  unfold s_l1Cur_among_w
  obtain ⟨r, hr, hc, h0, h1⟩ := pick_ok (l.length : Int) h hk
  have hpos : 0 < l.length := List.length_pos_iff.2 hl
  obtain ⟨x, hx, _, hm⟩ := idx_lt (l := l) h0 (by omega)
  simp only [hr, Option.bind_some, hx]
  exact ⟨_, rfl, hc, hm⟩
theorem among_ok {k : Nat} {c : l1Cur} (l : List Int) (hl : l ≠ []) (h : Cur k c) (hk : k ≤ 3000000000) : ∃ r, s_l1Cur_among c l = some r ∧ Cur (k + 2) r.2 ∧ r.1 ∈ l := by
  have : s_l1Cur_among c l = s_l1Cur_among_w c l := rfl
  rw [this]; exact amongw_ok l hl h hk
theorem one_ok {k : Nat} {c : l1Cur} (n : Int) (h : Cur k c) (hk : k ≤ 3000000000) : ∃ r, s_l1Cur_one c n = some r ∧ Cur (k + 2) r.2 := by
  unfold s_l1Cur_one
  obtain ⟨r, hr, hc, _, _⟩ := pick_ok n h hk
  simp only [hr, Option.bind_some]
  exact ⟨_, rfl, hc⟩
theorem of_ok {k : Nat} {c : l1Cur} (l : List ByteArray) (hl : l ≠ []) (h : Cur k c) (hk : k ≤ 3000000000) : ∃ r, s_l1Cur_of c l = some r ∧ Cur (k + 2) r.2 ∧ r.1 ∈ l := by
  unfold s_l1Cur_of
  obtain ⟨r, hr, hc, h0, h1⟩ := pick_ok (l.length : Int) h hk
  have hpos : 0 < l.length := List.length_pos_iff.2 hl
  obtain ⟨x, hx, _, hm⟩ := idx_lt (l := l) h0 (by omega)
  simp only [hr, Option.bind_some, hx]
  exact ⟨_, rfl, hc, hm⟩
theorem ofw_ok {k : Nat} {c : l1Cur} (l : List ByteArray) (hl : l ≠ []) (h : Cur k c) (hk : k ≤ 3000000000) : ∃ r, s_l1Cur_of_w c l = some r ∧ Cur (k + 2) r.2 ∧ r.1 ∈ l := by
  have : s_l1Cur_of_w c l = s_l1Cur_of c l := rfl
  rw [this]; exact of_ok l hl h hk
theorem cur0 (code : List UInt8) : Cur 0 ⟨code, 0, ⟨0⟩⟩ := ⟨by show (0 : Int) ≤ 0; omega, by show (0 : Int) ≤ _; omega⟩
/-! Networks: when they are valid, for the program and for the reference. -/
theorem within_eq (n lo hi : Int) : i_within n lo hi = some (decide (lo ≤ n ∧ n ≤ hi)) := by
  unfold i_within
  by_cases h : lo ≤ n <;> simp [h]
theorem l1In_eq (n lo hi : Int) : s_l1In n lo hi = some (decide (lo ≤ n ∧ n ≤ hi)) := by
  unfold s_l1In
  by_cases h : lo ≤ n <;> simp [h]
/-- Byte i of a name. -/
def ChOK (i : Nat) (c : UInt8) : Prop := (97 ≤ (c.toNat : Int) ∧ (c.toNat : Int) ≤ 122) ∨ (i ≠ 0 ∧ 48 ≤ (c.toNat : Int) ∧ (c.toNat : Int) ≤ 57)
def NameOK (s : ByteArray) : Prop := (1 ≤ s.size ∧ s.size ≤ 8) ∧ ∀ (i : Nat) c, s.data.toList[i]? = some c → ChOK i c
open Classical in
noncomputable instance (s : ByteArray) : Decidable (NameOK s) := Classical.propDecidable _
theorem size_list (s : ByteArray) : s.data.toList.length = s.size := by simp
theorem getD_of {α : Type} {l : List α} {i : Nat} {x d : α} (h : l[i]? = some x) : l.getD i d = x := by rw [List.getD_eq_getElem?_getD, h]; rfl

theorem isName_eq (s : ByteArray) : i_isName s = some (decide (NameOK s)) := by
  unfold i_isName
  by_cases h1 : 1 ≤ s.size ∧ s.size ≤ 8
  · have e1 : decide ((s.size : Int) < 1) = false := by simp; omega
    have e2 : decide (8 < (s.size : Int)) = false := by simp; omega
    simp only [e1, e2, Bool.false_eq_true, if_false, Option.bind_some]
    have hsz := size_list s
    have key := all_loop s.data.toList ChOK (step := i_isName_L1 s) ?_ ?_ 0 0 rfl (by omega)
    · rcases key with ⟨g1, g2⟩ | ⟨g1, g2⟩
      · rw [g1, flb_go]
        have : NameOK s := ⟨h1, fun i c hc => g2 i c (by omega) hc⟩
        simp [this]
      · rw [g1, flb_ret]
        have : ¬ NameOK s := fun hn => g2 fun i c _ hc => hn.2 i c hc
        simp [this]
    · intro i x hx
      have hi := (List.getElem?_eq_some_iff.1 hx).1
      have hg : s.data.toList.getD (i : Int).toNat 0 = x := by rw [Int.toNat_natCast]; exact getD_of hx
      have hc : chk ((0 : Int) ≤ (i : Int) ∧ (i : Int) < (s.size : Int)) = some () := chk_of (by omega)
      have hlt : decide ((i : Int) < (s.size : Int)) = true := by simp; omega
      unfold i_isName_L1
      simp only [hlt, if_true, hc, hg, Option.bind_some, w64_succ (n := i) (by omega)]
      unfold ChOK
      by_cases a1 : (97 : Int) ≤ (x.toNat : Int)
      · by_cases a2 : (x.toNat : Int) ≤ 122
        · left; refine ⟨by simp [a1, a2], .inl ⟨a1, a2⟩⟩
        · right
          refine ⟨?_, by omega⟩
          have b1 : decide ((x.toNat : Int) < 48) = false := by simp; omega
          have b2 : decide ((57 : Int) < (x.toNat : Int)) = true := by simp; omega
          have c1 : ¬ (x.toNat : Int) < 48 := by omega
          have c2 : (57 : Int) < (x.toNat : Int) := by omega
          by_cases hi0 : i = 0
          · simp [a1, a2, hi0]
          · have hi0' : ((i : Int) == 0) = false := by simp; omega
            simp [a1, a2, hi0', c1, c2]
      · by_cases hi0 : i = 0
        · right
          refine ⟨by simp [a1, hi0], by omega⟩
        · have hi0' : ((i : Int) == 0) = false := by simp; omega
          by_cases b1 : (x.toNat : Int) < 48
          · right
            refine ⟨by simp [a1, hi0', b1], by omega⟩
          · by_cases b2 : (57 : Int) < (x.toNat : Int)
            · right
              refine ⟨by simp [a1, hi0', b1, b2], by omega⟩
            · left
              refine ⟨by simp [a1, hi0', b1, b2], .inr ⟨hi0, by omega, by omega⟩⟩
    · unfold i_isName_L1
      rw [hsz]
      simp
  · have : ¬ NameOK s := fun h => h1 h.1
    have e : (if (decide ((s.size : Int) < 1)) = true then some true else some (decide (8 < (s.size : Int)))) = some true := by
      by_cases h2 : s.size < 1
      · have : decide ((s.size : Int) < 1) = true := by simp; omega
        simp [this]
      · have e1 : decide ((s.size : Int) < 1) = false := by simp; omega
        have e2 : decide (8 < (s.size : Int)) = true := by simp; omega
        simp [e1, e2]
    rw [e]
    simp [this]

theorem l2Name_eq (s : ByteArray) : s_l2Name s = some (decide (NameOK s)) := by
  unfold s_l2Name
  rw [l1In_eq]
  simp only [Option.bind_some]
  by_cases h1 : 1 ≤ s.size ∧ s.size ≤ 8
  · have e1 : decide ((1 : Int) ≤ (s.size : Int) ∧ (s.size : Int) ≤ 8) = true := by simp; omega
    have hsz := size_list s
    obtain ⟨x0, hx0⟩ := get_ex (l := s.data.toList) (i := 0) (by omega)
    have hg0 : s.data.toList.getD (0 : Int).toNat 0 = x0 := getD_of hx0
    have hc0 : chk ((0 : Int) ≤ 0 ∧ 0 < (s.size : Int)) = some () := chk_of (by omega)
    simp only [e1, Bool.not_true, Bool.false_eq_true, if_false, hc0, hg0, Option.bind_some]
    by_cases a0 : 97 ≤ (x0.toNat : Int) ∧ (x0.toNat : Int) ≤ 122
    · have b1 : decide ((x0.toNat : Int) < 97) = false := by simp; omega
      have b2 : decide ((122 : Int) < (x0.toNat : Int)) = false := by simp; omega
      simp only [b1, b2, Bool.false_eq_true, if_false, Option.bind_some]
      have key := all_loop s.data.toList ChOK (step := s_l2Name_L1 s) ?_ ?_ 0 0 rfl (by omega)
      · rcases key with ⟨g1, g2⟩ | ⟨g1, g2⟩
        · rw [g1, flb_go]
          have : NameOK s := ⟨h1, fun i c hc => g2 i c (by omega) hc⟩
          simp [this]
        · rw [g1, flb_ret]
          have : ¬ NameOK s := fun hn => g2 fun i c _ hc => hn.2 i c hc
          simp [this]
      · intro i x hx
        have hi := (List.getElem?_eq_some_iff.1 hx).1
        have hg : s.data.toList.getD (i : Int).toNat 0 = x := by rw [Int.toNat_natCast]; exact getD_of hx
        have hc : chk ((0 : Int) ≤ (i : Int) ∧ (i : Int) < (s.size : Int)) = some () := chk_of (by omega)
        have hlt : decide ((i : Int) < (s.size : Int)) = true := by simp; omega
        have h0 : i = 0 → x = x0 := fun h => by subst h; rw [hx0] at hx; cases hx; rfl
        unfold s_l2Name_L1
        simp only [hlt, if_true, hc, hg, Option.bind_some, w64_succ (n := i) (by omega)]
        unfold ChOK
        by_cases a1 : (x.toNat : Int) < 97
        · have hi0 : i ≠ 0 := fun h => by have := h0 h; subst this; omega
          by_cases c1 : (x.toNat : Int) < 48
          · right; refine ⟨by simp [a1, c1], by omega⟩
          · by_cases c2 : (57 : Int) < (x.toNat : Int)
            · right; refine ⟨by simp [a1, c1, c2], by omega⟩
            · left; refine ⟨by simp [a1, c1, c2], .inr ⟨hi0, by omega, by omega⟩⟩
        · by_cases a2 : (122 : Int) < (x.toNat : Int)
          · right
            have c1 : ¬ (x.toNat : Int) < 48 := by omega
            have c2 : (57 : Int) < (x.toNat : Int) := by omega
            refine ⟨by simp [a1, a2, c1, c2], by omega⟩
          · left; refine ⟨by simp [a1, a2], .inl ⟨by omega, by omega⟩⟩
      · unfold s_l2Name_L1
        rw [hsz]
        simp
    · have : ¬ NameOK s := fun hn => by
        have := hn.2 0 x0 hx0
        unfold ChOK at this
        omega
      have e : (if (decide ((x0.toNat : Int) < 97)) = true then some true else some (decide ((122 : Int) < (x0.toNat : Int)))) = some true := by
        by_cases h2 : (x0.toNat : Int) < 97
        · simp [h2]
        · have : (122 : Int) < (x0.toNat : Int) := by omega
          simp [h2, this]
      rw [e]
      simp [this]
  · have e1 : decide ((1 : Int) ≤ (s.size : Int) ∧ (s.size : Int) ≤ 8) = false := by simp; omega
    have : ¬ NameOK s := fun h => h1 h.1
    simp [e1, this]

/-! Searches -/
theorem index_str_eq (l : List ByteArray) (hl : l.length ≤ 4000000000) (v : ByteArray) : slices_Index_string l v = some (fixI (fun e => v.toList == e.toList) l) := by
  unfold slices_Index_string
  refine find_val l (fun e => v.toList == e.toList) (fun i x hx => ?_) (by unfold slices_Index_string_L1; simp)
  have hi := (List.getElem?_eq_some_iff.1 hx).1
  unfold slices_Index_string_L1
  have hlt : decide ((i : Int) < (l.length : Int)) = true := by simp; omega
  simp only [hlt, if_true, idx_nat, hx, Option.bind_some, w64_succ (n := i) (by omega)]
  split <;> rfl
theorem index_int_eq (l : List Int) (hl : l.length ≤ 4000000000) (v : Int) : slices_Index_int l v = some (fixI (fun e => v == e) l) := by
  unfold slices_Index_int
  refine find_val l (fun e => v == e) (fun i x hx => ?_) (by unfold slices_Index_int_L1; simp)
  have hi := (List.getElem?_eq_some_iff.1 hx).1
  unfold slices_Index_int_L1
  have hlt : decide ((i : Int) < (l.length : Int)) = true := by simp; omega
  simp only [hlt, if_true, idx_nat, hx, Option.bind_some, w64_succ (n := i) (by omega)]
  split <;> rfl
theorem l2Place_eq (x : Line) (hl : x.Stops.length ≤ 4000000000) (v : Int) : s_l2Place x v = some (fixI (fun e => v == e) x.Stops) := by
  have hc : fixI (fun e => v == e) x.Stops = fixI (fun e => e == v) x.Stops := fixI_congr _ fun e => BEq.comm
  rw [hc]
  unfold s_l2Place
  refine find_val x.Stops (fun e => e == v) (fun i y hx => ?_) (by unfold s_l2Place_L1; simp)
  have hi := (List.getElem?_eq_some_iff.1 hx).1
  unfold s_l2Place_L1
  have hlt : decide ((i : Int) < (x.Stops.length : Int)) = true := by simp; omega
  simp only [hlt, if_true, idx_nat, hx, Option.bind_some, w64_succ (n := i) (by omega)]
  split <;> rfl
theorem bl_comm (a b : List UInt8) : (a == b) = (b == a) := BEq.comm
theorem l2Find_eq (l : List ByteArray) (hl : l.length ≤ 4000000000) (v : ByteArray) : s_l2Find l v = some (fixI (fun e => v.toList == e.toList) l) := by
  rw [fixI_congr l (q := fun e => e.toList == v.toList) fun e => bl_comm _ _]
  unfold s_l2Find
  refine find_val l (fun e => e.toList == v.toList) (fun i x hx => ?_) (by unfold s_l2Find_L1; simp)
  have hi := (List.getElem?_eq_some_iff.1 hx).1
  unfold s_l2Find_L1
  have hlt : decide ((i : Int) < (l.length : Int)) = true := by simp; omega
  simp only [hlt, if_true, idx_nat, hx, Option.bind_some, w64_succ (n := i) (by omega)]
  split <;> rfl
theorem l2LineNamed_eq (n : Network) (hl : n.Lines.length ≤ 4000000000) (v : ByteArray) : s_l2LineNamed n v = some (fixI (fun e => v.toList == e.toList) (n.Lines.map (·.Name))) := by
  rw [fixI_map, fixI_congr n.Lines (q := fun e => e.Name.toList == v.toList) fun e => bl_comm _ _]
  unfold s_l2LineNamed
  refine find_val n.Lines (fun e => e.Name.toList == v.toList) (fun i x hx => ?_) (by unfold s_l2LineNamed_L1; simp)
  have hi := (List.getElem?_eq_some_iff.1 hx).1
  unfold s_l2LineNamed_L1
  have hlt : decide ((i : Int) < (n.Lines.length : Int)) = true := by simp; omega
  simp only [hlt, if_true, idx_nat, hx, Option.bind_some, w64_succ (n := i) (by omega)]
  split <;> rfl
def NamesP (l : List ByteArray) : Prop := ∀ (i : Nat) x, l[i]? = some x → NameOK x ∧ fixI (fun e => x.toList == e.toList) l = (i : Int)
def LineP (st : Nat) (x : Line) : Prop := (2 ≤ x.Stops.length ∧ x.Stops.length ≤ 6) ∧ (x.Runs.length : Int) = (x.Stops.length : Int) - 1 ∧
  (∀ (i : Nat) e, x.Stops[i]? = some e → (0 ≤ e ∧ e < (st : Int)) ∧ fixI (fun y => e == y) x.Stops = (i : Int)) ∧ ∀ (i : Nat) r, x.Runs[i]? = some r → 1 ≤ r ∧ r ≤ 60
def Good (n : Network) : Prop := (2 ≤ n.Stops.length ∧ n.Stops.length ≤ 8) ∧ (1 ≤ n.Lines.length ∧ n.Lines.length ≤ 5) ∧ NamesP n.Stops ∧ NamesP (n.Lines.map (·.Name)) ∧ ∀ (i : Nat) x, n.Lines[i]? = some x → LineP n.Stops.length x
noncomputable instance (l : List ByteArray) : Decidable (NamesP l) := Classical.propDecidable _
noncomputable instance (st : Nat) (x : Line) : Decidable (LineP st x) := Classical.propDecidable _
noncomputable instance (n : Network) : Decidable (Good n) := Classical.propDecidable _
/-- No list is too long. -/
def Bd (n : Network) : Prop := n.Stops.length ≤ 1000 ∧ n.Lines.length ≤ 1000 ∧ ∀ x ∈ n.Lines, x.Stops.length ≤ 1000 ∧ x.Runs.length ≤ 1000

theorem areNames_eq (l : List ByteArray) (hl : l.length ≤ 1000) : i_areNames l = some (decide (NamesP l)) := by
  unfold i_areNames
  rw [all_val (hd := Classical.propDecidable _) l (fun i x => NameOK x ∧ fixI (fun e => x.toList == e.toList) l = (i : Int)) (fun i x hx => ?_) (by unfold i_areNames_L1; simp)]
  · by_cases h : NamesP l
    · rw [if_pos (show ∀ (i : Nat) x, l[i]? = some x → NameOK x ∧ fixI (fun e => x.toList == e.toList) l = (i : Int) from h)]; simp [h]
    · rw [if_neg (show ¬ ∀ (i : Nat) x, l[i]? = some x → NameOK x ∧ fixI (fun e => x.toList == e.toList) l = (i : Int) from h)]; simp [h]
  · have hi := (List.getElem?_eq_some_iff.1 hx).1
    unfold i_areNames_L1
    have hlt : decide ((i : Int) < (l.length : Int)) = true := by simp; omega
    simp only [hlt, if_true, idx_nat, hx, Option.bind_some, isName_eq, index_str_eq l (by omega), w64_succ (n := i) (by omega)]
    by_cases h1 : NameOK x
    · by_cases h2 : fixI (fun e => x.toList == e.toList) l = (i : Int)
      · left; simp [h1, h2]
      · right; simp [h1, h2]
    · right; simp [h1]

theorem lineNames_eq (n : Network) (hl : n.Lines.length ≤ 1000) : i_lineNames n = some (n.Lines.map (·.Name)) := by
  unfold i_lineNames
  rw [chk_of (by omega)]
  simp only [Option.bind_some]
  rw [fill_loop (fun x : Line => x.Name) n.Lines _ (by simp) (fun i a x y ha hy hx => ?_) (fun a ha => ?_)]
  · rfl
  · have hi := (List.getElem?_eq_some_iff.1 hx).1
    unfold i_lineNames_L1
    have hlt : decide ((i : Int) < (n.Lines.length : Int)) = true := by simp; omega
    simp only [hlt, if_true, idx_nat, hx, hy, Option.bind_some, w64_succ (n := i) (by omega), Int.toNat_natCast]
  · unfold i_lineNames_L1; simp

theorem isStop_eq (n : Network) (e : Int) : i_isStop n e = some (decide (0 ≤ e ∧ e < (n.Stops.length : Int))) := by
  unfold i_isStop
  by_cases h : 0 ≤ e <;> simp [h]
theorem isLine_eq (n : Network) (e : Int) : i_isLine n e = some (decide (0 ≤ e ∧ e < (n.Lines.length : Int))) := by
  unfold i_isLine
  by_cases h : 0 ≤ e <;> simp [h]

theorem isValidLine_eq (n : Network) (l : Line) (h1 : l.Stops.length ≤ 1000) (h2 : l.Runs.length ≤ 1000) : i_isValidLine n l = some (decide (LineP n.Stops.length l)) := by
  unfold i_isValidLine
  rw [within_eq]
  have e0 : w64 ((l.Stops.length : Int) - 1) = (l.Stops.length : Int) - 1 := w64_id (by omega)
  simp only [Option.bind_some, e0]
  by_cases a1 : 2 ≤ l.Stops.length ∧ l.Stops.length ≤ 6
  · have d1 : decide ((2 : Int) ≤ (l.Stops.length : Int) ∧ (l.Stops.length : Int) ≤ 6) = true := by simp; omega
    simp only [d1, Bool.not_true, Bool.false_eq_true, if_false]
    by_cases a2 : (l.Runs.length : Int) = (l.Stops.length : Int) - 1
    · have d2 : ((l.Runs.length : Int) != (l.Stops.length : Int) - 1) = false := by simp [a2]
      simp only [d2, Option.bind_some, Bool.false_eq_true, if_false]
      rw [all_val (hd := Classical.propDecidable _) l.Stops (fun i e => (0 ≤ e ∧ e < (n.Stops.length : Int)) ∧ fixI (fun y => e == y) l.Stops = (i : Int)) (fun i x hx => ?_) (by unfold i_isValidLine_L1; simp)]
      · rw [all_val (hd := Classical.propDecidable _) l.Runs (fun i r => 1 ≤ r ∧ r ≤ 60) (fun i x hx => ?_) (by unfold i_isValidLine_L2; simp)]
        · by_cases b1 : ∀ (i : Nat) e, l.Stops[i]? = some e → (0 ≤ e ∧ e < (n.Stops.length : Int)) ∧ fixI (fun y => e == y) l.Stops = (i : Int)
          · rw [if_pos b1]
            by_cases b2 : ∀ (i : Nat) r, l.Runs[i]? = some r → 1 ≤ r ∧ r ≤ 60
            · rw [if_pos b2]
              have : LineP n.Stops.length l := ⟨a1, a2, b1, b2⟩
              simp [this]
            · rw [if_neg b2]
              have : ¬ LineP n.Stops.length l := fun h => b2 h.2.2.2
              simp [this]
          · rw [if_neg b1]
            have : ¬ LineP n.Stops.length l := fun h => b1 h.2.2.1
            simp [this]
        · have hi := (List.getElem?_eq_some_iff.1 hx).1
          unfold i_isValidLine_L2
          have hlt : decide ((i : Int) < (l.Runs.length : Int)) = true := by simp; omega
          simp only [hlt, if_true, idx_nat, hx, Option.bind_some, within_eq, w64_succ (n := i) (by omega)]
          by_cases b : 1 ≤ x ∧ x ≤ 60
          · left; simp [b]
          · right; simp [b]
      · have hi := (List.getElem?_eq_some_iff.1 hx).1
        unfold i_isValidLine_L1
        have hlt : decide ((i : Int) < (l.Stops.length : Int)) = true := by simp; omega
        simp only [hlt, if_true, idx_nat, hx, Option.bind_some, isStop_eq, index_int_eq l.Stops (by omega), w64_succ (n := i) (by omega)]
        by_cases b1 : 0 ≤ x ∧ x < (n.Stops.length : Int)
        · by_cases b2 : fixI (fun y => x == y) l.Stops = (i : Int)
          · left; simp [b1, b2]
          · right; simp [b1, b2]
        · right; simp [b1]
    · have d2 : ((l.Runs.length : Int) != (l.Stops.length : Int) - 1) = true := by simp [a2]
      have : ¬ LineP n.Stops.length l := fun h => a2 h.2.1
      simp [d2, this]
  · have d1 : decide ((2 : Int) ≤ (l.Stops.length : Int) ∧ (l.Stops.length : Int) ≤ 6) = false := by simp; omega
    have : ¬ LineP n.Stops.length l := fun h => a1 h.1
    simp [d1, this]

theorem l2Line_eq (l : Line) (st : Nat) (hst : st ≤ 1000) (h1 : l.Stops.length ≤ 1000) (h2 : l.Runs.length ≤ 1000) : s_l2Line l (st : Int) = some (decide (NameOK l.Name ∧ LineP st l)) := by
  unfold s_l2Line
  rw [l2Name_eq]
  have e0 : w64 ((l.Stops.length : Int) - 1) = (l.Stops.length : Int) - 1 := w64_id (by omega)
  have e1 : w64 ((st : Int) - 1) = (st : Int) - 1 := w64_id (by omega)
  simp only [Option.bind_some, e0, l1In_eq]
  by_cases a0 : NameOK l.Name
  · simp only [a0, decide_true, Bool.not_true, Bool.false_eq_true, if_false, true_and]
    by_cases a1 : 2 ≤ l.Stops.length ∧ l.Stops.length ≤ 6
    · have d1 : decide ((2 : Int) ≤ (l.Stops.length : Int) ∧ (l.Stops.length : Int) ≤ 6) = true := by simp; omega
      simp only [d1, Bool.not_true, Bool.false_eq_true, if_false]
      by_cases a2 : (l.Runs.length : Int) = (l.Stops.length : Int) - 1
      · have d2 : ((l.Runs.length : Int) != (l.Stops.length : Int) - 1) = false := by simp [a2]
        simp only [d2, Option.bind_some, Bool.false_eq_true, if_false]
        rw [all_val (hd := Classical.propDecidable _) l.Stops (fun i e => (0 ≤ e ∧ e < (st : Int)) ∧ fixI (fun y => e == y) l.Stops = (i : Int)) (fun i x hx => ?_) (by unfold s_l2Line_L1; simp)]
        · rw [all_val (hd := Classical.propDecidable _) l.Runs (fun i r => 1 ≤ r ∧ r ≤ 60) (fun i x hx => ?_) (by unfold s_l2Line_L2; simp)]
          · by_cases b1 : ∀ (i : Nat) e, l.Stops[i]? = some e → (0 ≤ e ∧ e < (st : Int)) ∧ fixI (fun y => e == y) l.Stops = (i : Int)
            · rw [if_pos b1]
              by_cases b2 : ∀ (i : Nat) r, l.Runs[i]? = some r → 1 ≤ r ∧ r ≤ 60
              · rw [if_pos b2]
                have : LineP st l := ⟨a1, a2, b1, b2⟩
                simp [this]
              · rw [if_neg b2]
                have : ¬ LineP st l := fun h => b2 h.2.2.2
                simp [this]
            · rw [if_neg b1]
              have : ¬ LineP st l := fun h => b1 h.2.2.1
              simp [this]
          · have hi := (List.getElem?_eq_some_iff.1 hx).1
            unfold s_l2Line_L2
            have hlt : decide ((i : Int) < (l.Runs.length : Int)) = true := by simp; omega
            simp only [hlt, if_true, idx_nat, hx, Option.bind_some, l1In_eq, w64_succ (n := i) (by omega)]
            by_cases b : 1 ≤ x ∧ x ≤ 60
            · left; simp [b]
            · right; simp [b]
        · have hi := (List.getElem?_eq_some_iff.1 hx).1
          unfold s_l2Line_L1
          have hlt : decide ((i : Int) < (l.Stops.length : Int)) = true := by simp; omega
          simp only [hlt, if_true, idx_nat, hx, Option.bind_some, l1In_eq, e1, l2Place_eq l (by omega), w64_succ (n := i) (by omega)]
          by_cases b1 : 0 ≤ x ∧ x < (st : Int)
          · have d3 : decide (0 ≤ x ∧ x ≤ (st : Int) - 1) = true := by simp; omega
            by_cases b2 : fixI (fun y => x == y) l.Stops = (i : Int)
            · left; simp only [d3]; simp [b1, b2]
            · right; simp only [d3]; simp [b1, b2]
          · have d3 : decide (0 ≤ x ∧ x ≤ (st : Int) - 1) = false := by simp; omega
            right; simp only [d3]; simp [b1]
      · have d2 : ((l.Runs.length : Int) != (l.Stops.length : Int) - 1) = true := by simp [a2]
        have : ¬ LineP st l := fun h => a2 h.2.1
        simp [d2, this]
    · have d1 : decide ((2 : Int) ≤ (l.Stops.length : Int) ∧ (l.Stops.length : Int) ≤ 6) = false := by simp; omega
      have : ¬ LineP st l := fun h => a1 h.1
      simp [d1, this]
  · simp [a0]

theorem valid_eq (n : Network) (h : Bd n) : i_IsValidNetwork n = some (decide (Good n)) := by
  obtain ⟨h1, h2, h3⟩ := h
  unfold i_IsValidNetwork
  simp only [within_eq, Option.bind_some, areNames_eq n.Stops h1, lineNames_eq n h2, areNames_eq (n.Lines.map (·.Name)) (by simpa using h2)]
  by_cases a1 : 2 ≤ n.Stops.length ∧ n.Stops.length ≤ 8
  · have d1 : decide ((2 : Int) ≤ (n.Stops.length : Int) ∧ (n.Stops.length : Int) ≤ 8) = true := by simp; omega
    simp only [d1, Bool.not_true, Bool.false_eq_true, if_false]
    by_cases a2 : 1 ≤ n.Lines.length ∧ n.Lines.length ≤ 5
    · have d2 : decide ((1 : Int) ≤ (n.Lines.length : Int) ∧ (n.Lines.length : Int) ≤ 5) = true := by simp; omega
      simp only [d2, Bool.not_true, Bool.false_eq_true, if_false]
      by_cases a3 : NamesP n.Stops
      · simp only [a3, decide_true, Bool.not_true, Bool.false_eq_true, if_false]
        by_cases a4 : NamesP (n.Lines.map (·.Name))
        · simp only [a4, decide_true, Bool.not_true, Option.bind_some, Bool.false_eq_true, if_false]
          rw [all_val (hd := Classical.propDecidable _) n.Lines (fun i x => LineP n.Stops.length x) (fun i x hx => ?_) (by unfold i_IsValidNetwork_L1; simp)]
          · by_cases b1 : ∀ (i : Nat) x, n.Lines[i]? = some x → LineP n.Stops.length x
            · rw [if_pos b1]
              have : Good n := ⟨a1, a2, a3, a4, b1⟩
              simp [this]
            · rw [if_neg b1]
              have : ¬ Good n := fun h => b1 h.2.2.2.2
              simp [this]
          · have hi := (List.getElem?_eq_some_iff.1 hx).1
            obtain ⟨g1, g2⟩ := h3 x (List.mem_of_getElem? hx)
            unfold i_IsValidNetwork_L1
            have hlt : decide ((i : Int) < (n.Lines.length : Int)) = true := by simp; omega
            simp only [hlt, if_true, idx_nat, hx, Option.bind_some, isValidLine_eq n x g1 g2, w64_succ (n := i) (by omega)]
            by_cases b : LineP n.Stops.length x
            · left; simp [b]
            · right; simp [b]
        · have : ¬ Good n := fun h => a4 h.2.2.2.1
          simp [a4, this]
      · have : ¬ Good n := fun h => a3 h.2.2.1
        simp [a3, this]
    · have d2 : decide ((1 : Int) ≤ (n.Lines.length : Int) ∧ (n.Lines.length : Int) ≤ 5) = false := by simp; omega
      have : ¬ Good n := fun h => a2 h.2.1
      simp [d2, this]
  · have d1 : decide ((2 : Int) ≤ (n.Stops.length : Int) ∧ (n.Stops.length : Int) ≤ 8) = false := by simp; omega
    have : ¬ Good n := fun h => a1 h.1
    simp [d1, this]

theorem good_eq (n : Network) (h : Bd n) : s_l2Good n = some (decide (Good n)) := by
  obtain ⟨h1, h2, h3⟩ := h
  unfold s_l2Good
  simp only [l1In_eq, Option.bind_some]
  by_cases a1 : 2 ≤ n.Stops.length ∧ n.Stops.length ≤ 8
  · have d1 : decide ((2 : Int) ≤ (n.Stops.length : Int) ∧ (n.Stops.length : Int) ≤ 8) = true := by simp; omega
    simp only [d1, Bool.not_true, Bool.false_eq_true, if_false]
    by_cases a2 : 1 ≤ n.Lines.length ∧ n.Lines.length ≤ 5
    · have d2 : decide ((1 : Int) ≤ (n.Lines.length : Int) ∧ (n.Lines.length : Int) ≤ 5) = true := by simp; omega
      simp only [d2, Bool.not_true, Option.bind_some, Bool.false_eq_true, if_false]
      rw [all_val (hd := Classical.propDecidable _) n.Stops (fun i x => NameOK x ∧ fixI (fun e => x.toList == e.toList) n.Stops = (i : Int)) (fun i x hx => ?_) (by unfold s_l2Good_L1; simp)]
      · rw [all_val (hd := Classical.propDecidable _) n.Lines (fun i x => (NameOK x.Name ∧ LineP n.Stops.length x) ∧ fixI (fun e => x.Name.toList == e.toList) (n.Lines.map (·.Name)) = (i : Int)) (fun i x hx => ?_) (by unfold s_l2Good_L2; simp)]
        · by_cases b1 : NamesP n.Stops
          · rw [if_pos (show ∀ (i : Nat) x, n.Stops[i]? = some x → NameOK x ∧ fixI (fun e => x.toList == e.toList) n.Stops = (i : Int) from b1)]
            by_cases b2 : ∀ (i : Nat) x, n.Lines[i]? = some x → (NameOK x.Name ∧ LineP n.Stops.length x) ∧ fixI (fun e => x.Name.toList == e.toList) (n.Lines.map (·.Name)) = (i : Int)
            · rw [if_pos b2]
              have : Good n := ⟨a1, a2, b1, fun i y hy => by
                rw [List.getElem?_map] at hy
                obtain ⟨x, hx, rfl⟩ := Option.map_eq_some_iff.1 hy
                exact ⟨(b2 i x hx).1.1, (b2 i x hx).2⟩, fun i x hx => (b2 i x hx).1.2⟩
              simp [this]
            · rw [if_neg b2]
              have : ¬ Good n := fun h => b2 fun i x hx => by
                have h4 := h.2.2.2.1 i x.Name (by rw [List.getElem?_map, hx]; rfl)
                exact ⟨⟨h4.1, h.2.2.2.2 i x hx⟩, h4.2⟩
              simp [this]
          · rw [if_neg (show ¬ ∀ (i : Nat) x, n.Stops[i]? = some x → NameOK x ∧ fixI (fun e => x.toList == e.toList) n.Stops = (i : Int) from b1)]
            have : ¬ Good n := fun h => b1 h.2.2.1
            simp [this]
        · have hi := (List.getElem?_eq_some_iff.1 hx).1
          obtain ⟨g1, g2⟩ := h3 x (List.mem_of_getElem? hx)
          unfold s_l2Good_L2
          have hlt : decide ((i : Int) < (n.Lines.length : Int)) = true := by simp; omega
          simp only [hlt, if_true, idx_nat, hx, Option.bind_some, l2Line_eq x n.Stops.length h1 g1 g2, l2LineNamed_eq n (by omega), w64_succ (n := i) (by omega)]
          by_cases b1 : NameOK x.Name ∧ LineP n.Stops.length x
          · by_cases b2 : fixI (fun e => x.Name.toList == e.toList) (n.Lines.map (·.Name)) = (i : Int)
            · left; simp [b1, b2]
            · right; simp [b1, b2]
          · right; simp [b1]
      · have hi := (List.getElem?_eq_some_iff.1 hx).1
        unfold s_l2Good_L1
        have hlt : decide ((i : Int) < (n.Stops.length : Int)) = true := by simp; omega
        simp only [hlt, if_true, idx_nat, hx, Option.bind_some, l2Name_eq, l2Find_eq n.Stops (by omega), w64_succ (n := i) (by omega)]
        by_cases b1 : NameOK x
        · by_cases b2 : fixI (fun e => x.toList == e.toList) n.Stops = (i : Int)
          · left; simp [b1, b2]
          · right; simp [b1, b2]
        · right; simp [b1]
    · have d2 : decide ((1 : Int) ≤ (n.Lines.length : Int) ∧ (n.Lines.length : Int) ≤ 5) = false := by simp; omega
      have : ¬ Good n := fun h => a2 h.2.1
      simp [d2, this]
  · have d1 : decide ((2 : Int) ≤ (n.Stops.length : Int) ∧ (n.Stops.length : Int) ≤ 8) = false := by simp; omega
    have : ¬ Good n := fun h => a1 h.1
    simp [d1, this]
/-! Copies, reversed lists, the reversed line. -/
theorem l1Own_eq (l : List Int) (h : l.length ≤ 1000) : s_l1Own_f l = some l := by
  unfold s_l1Own_f
  rw [chk_of (by simp; omega)]; rfl
theorem l2Own_eq (n : Network) (h : Bd n) : s_l2Own n = some n := by
  obtain ⟨h1, h2, h3⟩ := h
  unfold s_l2Own
  rw [chk_of (by simp; omega)]
  simp only [Option.bind_some]
  rw [app_loop (fun x : Line => x) n.Lines (fun i a x ha hx => ?_) (fun a ha => ?_)]
  · simp only [Option.bind_some, List.map_id', List.nil_append]
  · have hi := (List.getElem?_eq_some_iff.1 hx).1
    obtain ⟨g1, g2⟩ := h3 x (List.mem_of_getElem? hx)
    unfold s_l2Own_L1
    have hlt : decide ((i : Int) < (n.Lines.length : Int)) = true := by simp; omega
    have hch : ∀ y : Line, chk (a.length + ([y] : List Line).length ≤ 4294967296) = some () := fun y => chk_of (by simp; omega)
    simp only [hlt, if_true, idx_nat, hx, Option.bind_some, l1Own_eq _ g1, l1Own_eq _ g2, hch, w64_succ (n := i) (by omega)]
  · unfold s_l2Own_L1; simp
theorem l2Own_t_eq (n : Network) (h : Bd n) : s_l2Own_t n = some n := by
  have : s_l2Own_t n = s_l2Own n := rfl
  rw [this]; exact l2Own_eq n h

theorem l2Back_eq (s : List Int) (hs : s.length ≤ 1000) : s_l2Back s = some s.reverse := by
  unfold s_l2Back
  have e0 : w64 ((s.length : Int) - 1) = (s.length : Int) - 1 := w64_id (by omega)
  rw [e0]
  have h := iter_rule (step := s_l2Back_L1 s) (fun m a => ∃ j : Nat, a.1 = (s.length : Int) - 1 - j ∧ m + j = s.length ∧ a.2 = s.reverse.take j) (fun b => b = s.reverse) ?_ (k := s.length) (a := ((s.length : Int) - 1, [])) ⟨0, by simp, by omega, by simp⟩
  · obtain ⟨b, hb, rfl⟩ := h
    rw [hb]; rfl
  rintro m ⟨v, i⟩ ⟨j, hv, hm, hi⟩
  simp only at hv hi
  subst hv
  by_cases hlt : j < s.length
  · left
    have ev : (s.length : Int) - 1 - j = ((s.length - 1 - j : Nat) : Int) := by omega
    rw [ev]
    obtain ⟨e, he⟩ := get_ex (l := s) (i := s.length - 1 - j) (by omega)
    have hd : decide ((0 : Int) ≤ ((s.length - 1 - j : Nat) : Int)) = true := by simp
    have hlen : i.length = j := by rw [hi]; simp; omega
    have hch : chk (i.length + ([e] : List Int).length ≤ 4294967296) = some () := chk_of (by simp; omega)
    have ev2 : w64 (((s.length - 1 - j : Nat) : Int) - 1) = (s.length : Int) - 1 - ((j + 1 : Nat) : Int) := by rw [w64_id (by omega)]; omega
    refine ⟨((s.length : Int) - 1 - ((j + 1 : Nat) : Int), i ++ [e]), m - 1, ?_, by omega, j + 1, rfl, by omega, ?_⟩
    · unfold s_l2Back_L1
      simp only [hd, if_true, idx_nat, he, hch, Option.bind_some, ev2]
    · show i ++ [e] = _
      rw [take_succ (x := e) (by rw [List.getElem?_reverse hlt]; exact he), hi]
  · right
    have ej : j = s.length := by omega
    subst ej
    have hd : decide ((0 : Int) ≤ (s.length : Int) - 1 - (s.length : Int)) = false := by simp; omega
    refine ⟨i, by unfold s_l2Back_L1; simp only [hd, Bool.false_eq_true, if_false], ?_⟩
    rw [hi, List.take_of_length_le (by simp)]
theorem l2BackF_eq (s : List Int) (hs : s.length ≤ 1000) : s_l2Back_f s = some s.reverse := l2Back_eq s hs

/-- The network with the reversed line. -/
def Rev (n : Network) (e : Line) (name : ByteArray) : Network := ⟨n.Stops, n.Lines ++ [⟨name, e.Stops.reverse, e.Runs.reverse⟩]⟩
def Asked (n : Network) (line : Int) (name : ByteArray) : Prop := Good n ∧ 0 ≤ line ∧ ∃ e, n.Lines[line.toNat]? = some e ∧ Good (Rev n e name)
theorem good_lines {n : Network} (h : Good n) : n.Lines.length ≤ 5 := h.2.1.2
theorem rev_bd {n : Network} {e : Line} {name : ByteArray} (h : Bd n) (hg : Good n) (he : e ∈ n.Lines) : Bd (Rev n e name) := by
  obtain ⟨h1, h2, h3⟩ := h
  have := good_lines hg
  refine ⟨h1, by simp [Rev]; omega, fun x hx => ?_⟩
  rcases List.mem_append.1 hx with hx | hx
  · exact h3 x hx
  · simp at hx
    subst hx
    obtain ⟨g1, g2⟩ := h3 e he
    exact ⟨by simpa using g1, by simpa using g2⟩

/-! The draws: they answer, with bounds. -/
/-- A drawn line. -/
def LB (x : Line) : Prop := (2 ≤ x.Stops.length ∧ x.Stops.length ≤ 10) ∧ 1 ≤ x.Runs.length ∧ x.Runs.length ≤ 10
def NB (n : Network) : Prop := (2 ≤ n.Stops.length ∧ n.Stops.length ≤ 6) ∧ (1 ≤ n.Lines.length ∧ n.Lines.length ≤ 8) ∧ ∀ x ∈ n.Lines, LB x
theorem NB.bd {n : Network} (h : NB n) : Bd n := ⟨by have := h.1; omega, by have := h.2.1; omega, fun x hx => by have := h.2.2 x hx; unfold LB at this; omega⟩
theorem l1Num_ok (n : Int) (h0 : 0 ≤ n) (h1 : n < 10) : ∃ r, s_l1Num n = some r ∧ r.size ≤ 10 := by
  have e : s_l1Num n = s_l1Num_F (s_l1Num_k 4294967295) n := rfl
  rw [e]
  unfold s_l1Num_F
  have d1 : decide (n < 0) = false := by simp; omega
  have d2 : decide (n < 10) = true := by simp; omega
  have e1 : w64 (n + 1) = n + 1 := w64_id (by omega)
  have hs : (str [48, 49, 50, 51, 52, 53, 54, 55, 56, 57]).size = 10 := rfl
  simp only [d1, d2, Bool.false_eq_true, if_false, if_true, e1, hs]
  rw [chk_of (by omega)]
  refine ⟨_, rfl, ?_⟩
  rw [ByteArray.size_extract, hs]
  omega

theorem line_ok {k : Nat} {c : l1Cur} (name : ByteArray) (stops : Int) (hs : 2 ≤ stops ∧ stops ≤ 1000) (h : Cur k c) (hk : k ≤ 1000000000) : ∃ r, s_l1Cur_line c name stops = some r ∧ Cur (k + 40) r.2 ∧ LB r.1 := by
  unfold s_l1Cur_line
  obtain ⟨r, hr, hc, h0, h1⟩ := pick_ok stops h (by omega)
  obtain ⟨r1, hr1, hc1, h10, h11⟩ := pick_ok 3 hc (by omega)
  simp only [hr, hr1, Option.bind_some]
  have e1 : w64 (2 + r1.1) = ((2 + r1.1.toNat : Nat) : Int) := by rw [w64_id (by omega)]; omega
  rw [e1]
  have loop : ∃ b, iter (s_l1Cur_line_L1 name stops) (r.1, ((2 + r1.1.toNat : Nat) : Int), r1.2.code_, r1.2.at_, r1.2.seed_.v, []) = some b ∧ (Cur (k + 4 + 2 * 4) ⟨b.1, b.2.1, ⟨b.2.2.1⟩⟩ ∧ 1 ≤ b.2.2.2.length ∧ b.2.2.2.length ≤ 4) := by
    refine iter_rule (fun m a => (0 ≤ a.1 ∧ a.1 < stops) ∧ a.2.1 = (m : Int) ∧ m + a.2.2.2.2.2.length ≤ 4 ∧ (1 ≤ m ∨ 1 ≤ a.2.2.2.2.2.length) ∧ Cur (k + 4 + 2 * (4 - m)) ⟨a.2.2.1, a.2.2.2.1, ⟨a.2.2.2.2.1⟩⟩) _ ?_ (k := 2 + r1.1.toNat) ⟨⟨h0, by show r.1 < stops; omega⟩, rfl, by simp; omega, .inl (by omega), hc1.mono (by omega)⟩
    rintro m ⟨v, v1, v2, v3, v4, v5⟩ ⟨hv, hv1, hl, hne, hcur⟩
    simp only at hv hv1 hl hne hcur
    subst hv1
    unfold s_l1Cur_line_L1
    cases m with
    | zero => right; exact ⟨_, by simp; rfl, hcur, by show 1 ≤ v5.length; omega, by show v5.length ≤ 4; omega⟩
    | succ m =>
      left
      have hpos : decide ((0 : Int) < ((m + 1 : Nat) : Int)) = true := by simp
      obtain ⟨r3, hr3, hc3, h30, h31⟩ := pick_ok 2 hcur (by omega)
      have hpl := l2Place_eq (⟨name, v5, []⟩ : Line) (by show v5.length ≤ _; omega) v
      have hch : chk (v5.length + ([v] : List Int).length ≤ 4294967296) = some () := chk_of (by simp; omega)
      have hne0 : chk (stops ≠ 0) = some () := chk_of (by omega)
      have w1 : w64 (v + 1) = v + 1 := w64_id (by omega)
      have w2 : w64 (v + 1 + r3.1) = v + 1 + r3.1 := w64_id (by omega)
      have ht := tmod_rng (a := v + 1 + r3.1) (b := stops) (by omega) (by omega)
      simp only [hpos, if_true, hpl, hch, hr3, hne0, w1, w2, Option.bind_some]
      have w3 : w64 (((m + 1 : Nat) : Int) - 1) = (m : Int) := w64_pred (by omega)
      split
      · refine ⟨_, m, by simp only [Option.bind_some]; rfl, by omega, ht, w3, ?_, .inr ?_, ?_⟩
        · simp; omega
        · simp
        · exact hc3.mono (by omega)
      · rename_i hn
        refine ⟨_, m, by simp only [Option.bind_some]; rfl, by omega, ht, w3, ?_, .inr ?_, ?_⟩
        · show m + v5.length ≤ 4; omega
        · show 1 ≤ v5.length
          cases v5 with
          | nil => simp [fixI] at hn
          | cons a l => simp
        · exact hc3.mono (by omega)
  obtain ⟨⟨v7, v8, v9, v10⟩, hb, hcb, hlb⟩ := loop
  simp only at hcb hlb
  rw [hb]
  simp only [Option.bind_some]
  -- at least two stops
  have two : ∃ v11 : List Int, (if decide ((v10.length : Int) < 2) = true then (idx v10 0).bind fun e1 => (chk ((stops : Int) ≠ 0)).bind fun u4 => (chk (v10.length + ([((w64 (e1 + 1)).tmod stops)] : List Int).length ≤ 4294967296)).bind fun u5 => some (v10 ++ ([((w64 (e1 + 1)).tmod stops)] : List Int)) else some v10) = some v11 ∧ 2 ≤ v11.length ∧ v11.length ≤ 5 := by
    by_cases h2 : (v10.length : Int) < 2
    · obtain ⟨e, he, _⟩ := idx_lt (l := v10) (i := 0) (by omega) (by omega)
      have hch : ∀ y : Int, chk (v10.length + ([y] : List Int).length ≤ 4294967296) = some () := fun y => chk_of (by simp; omega)
      have hne0 : chk (stops ≠ 0) = some () := chk_of (by omega)
      refine ⟨v10 ++ [(w64 (e + 1)).tmod stops], by simp only [h2, decide_true, if_true, he, hne0, hch, Option.bind_some], ?_, ?_⟩
      · simp; omega
      · simp; omega
    · exact ⟨v10, by simp [h2], by omega, by omega⟩
  obtain ⟨v11, hv11, l1, l2⟩ := two
  rw [hv11]
  simp only [Option.bind_some]
  have loop2 : ∃ b, iter (s_l1Cur_line_L2 v11) (1, v7, v8, v9, []) = some b ∧ (Cur (k + 40) ⟨b.1, b.2.1, ⟨b.2.2.1⟩⟩ ∧ b.2.2.2.length + 1 = v11.length) := by
    refine iter_rule (fun m a => ∃ i : Nat, a.1 = (i : Int) ∧ m + i = v11.length ∧ a.2.2.2.2.length + 1 = i ∧ Cur (k + 12 + 2 * i) ⟨a.2.1, a.2.2.1, ⟨a.2.2.2.1⟩⟩) _ ?_ (k := v11.length - 1) ⟨1, rfl, by omega, rfl, hcb.mono (by omega)⟩
    rintro m ⟨v12, v13, v14, v15, v16⟩ ⟨i, hi, hm, hl, hcur⟩
    simp only at hi hl hcur
    subst hi
    unfold s_l1Cur_line_L2
    by_cases hlt : i < v11.length
    · left
      have hd : decide ((i : Int) < (v11.length : Int)) = true := by simp; omega
      obtain ⟨r5, hr5, hc5, _⟩ := pick_ok 12 hcur (by omega)
      have hch : ∀ y : Int, chk (v16.length + ([y] : List Int).length ≤ 4294967296) = some () := fun y => chk_of (by simp; omega)
      refine ⟨_, m - 1, by simp only [hd, if_true, hr5, hch, Option.bind_some, w64_succ (n := i) (by omega)]; rfl, by omega, i + 1, rfl, by omega, ?_, ?_⟩
      · simp; omega
      · exact hc5.mono (by omega)
    · right
      have hd : decide ((i : Int) < (v11.length : Int)) = false := by simp; omega
      refine ⟨_, by simp only [hd, Bool.false_eq_true, if_false]; rfl, ?_, ?_⟩
      · exact hcur.mono (by omega)
      · show v16.length + 1 = _; omega
  obtain ⟨⟨v17, v18, v19, v20⟩, hb2, hcb2, hl2⟩ := loop2
  simp only at hcb2 hl2
  rw [hb2]
  simp only [Option.bind_some]
  exact ⟨_, rfl, hcb2, ⟨l1, by show v11.length ≤ 10; omega⟩, by show 1 ≤ v20.length; omega, by show v20.length ≤ 10; omega⟩
theorem lineF_ok {k : Nat} {c : l1Cur} (name : ByteArray) (stops : Int) (hs : 2 ≤ stops ∧ stops ≤ 1000) (h : Cur k c) (hk : k ≤ 1000000000) : ∃ r, s_l1Cur_line_f c name stops = some r ∧ Cur (k + 40) r.2 ∧ LB r.1 := line_ok name stops hs h hk

theorem six_len (i : Nat) (h2 : 2 ≤ i) (h6 : i ≤ 6) (l : List ByteArray) (hl : l.length = 6) : 2 ≤ ((l.take i).drop (0 : Int).toNat).length ∧ ((l.take i).drop (0 : Int).toNat).length ≤ 6 := by
  simp; omega

theorem networkT_ok {k : Nat} {c : l1Cur} (h : Cur k c) (hk : k ≤ 500000000) : ∃ r, s_l1Cur_network_t c = some r ∧ Cur (k + 300) r.2 ∧ NB r.1 := by
  unfold s_l1Cur_network_t
  obtain ⟨r, hr, hc, h0, h1⟩ := pick_ok 5 h (by omega)
  have e1 : w64 (2 + r.1) = 2 + r.1 := w64_id (by omega)
  have hsix : ([(str [112, 111, 114, 116]), (str [109, 105, 108, 108]), (str [112, 97, 114, 107]), (str [104, 97, 108, 108]), (str [100, 111, 99, 107]), (str [102, 97, 105, 114])] : List ByteArray).length = 6 := rfl
  simp only [hr, Option.bind_some, e1, hsix]
  rw [chk_of (by omega)]
  obtain ⟨r1, hr1, hc1, h10, h11⟩ := pick_ok 3 hc (by omega)
  have e2 : w64 (1 + r1.1) = ((1 + r1.1.toNat : Nat) : Int) := by rw [w64_id (by omega)]; omega
  simp only [hr1, Option.bind_some, e2]
  have loop : ∃ b, iter (s_l1Cur_network_t_L1 r) (((1 + r1.1.toNat : Nat) : Int), r1.2.code_, r1.2.at_, r1.2.seed_.v, []) = some b ∧ (Cur (k + 4 + 40 * 3) ⟨b.1, b.2.1, ⟨b.2.2.1⟩⟩ ∧ (1 ≤ b.2.2.2.length ∧ b.2.2.2.length ≤ 3) ∧ ∀ x ∈ b.2.2.2, LB x) := by
    refine iter_rule (fun m a => a.1 = (m : Int) ∧ m + a.2.2.2.2.length ≤ 3 ∧ 1 ≤ m + a.2.2.2.2.length ∧ (∀ x ∈ a.2.2.2.2, LB x) ∧ Cur (k + 4 + 40 * (3 - m)) ⟨a.2.1, a.2.2.1, ⟨a.2.2.2.1⟩⟩) _ ?_ (k := 1 + r1.1.toNat) ⟨rfl, by simp; omega, by simp, by simp, hc1.mono (by omega)⟩
    rintro m ⟨x, v, v1, v2, v3⟩ ⟨hx, hl, hl1, hlb, hcur⟩
    simp only at hx hl hl1 hlb hcur
    subst hx
    unfold s_l1Cur_network_t_L1
    cases m with
    | zero => right; exact ⟨_, by simp; rfl, hcur, ⟨by show 1 ≤ v3.length; omega, by show v3.length ≤ 3; omega⟩, hlb⟩
    | succ m =>
      left
      have hpos : decide ((0 : Int) < ((m + 1 : Nat) : Int)) = true := by simp
      obtain ⟨r4, hr4, hs4⟩ := l1Num_ok ((m + 1 : Nat) : Int) (by omega) (by omega)
      have hs : (str [108]).size = 1 := rfl
      have hch : chk ((str [108]).size + r4.size ≤ 4294967296) = some () := chk_of (by omega)
      obtain ⟨r5, hr5, hc5, hb5⟩ := lineF_ok (str [108] ++ r4) (2 + r.1) (by omega) hcur (by omega)
      have hch2 : ∀ y : Line, chk (v3.length + ([y] : List Line).length ≤ 4294967296) = some () := fun y => chk_of (by simp; omega)
      refine ⟨_, m, by simp only [hpos, if_true, hr4, hch, e1, hr5, hch2, Option.bind_some]; rfl, by omega, ?_, ?_, ?_, ?_, ?_⟩
      · exact w64_pred (by omega)
      · simp; omega
      · simp; omega
      · intro y hy
        rcases List.mem_append.1 hy with hy | hy
        · exact hlb y hy
        · simp at hy; subst hy; exact hb5
      · exact hc5.mono (by omega)
  obtain ⟨⟨v4, v5, v6, v7⟩, hb, hcb, hlb, hall⟩ := loop
  simp only at hcb hlb hall
  rw [hb]
  simp only [Option.bind_some]
  obtain ⟨r6, hr6, hc6⟩ := one_ok 2 hcb (by omega)
  simp only [hr6, Option.bind_some]
  have fin : ∀ (v8 : List UInt8) (v9 v10 : Int) (v11 : List Line), Cur (k + 200) ⟨v8, v9, ⟨v10⟩⟩ → (1 ≤ v11.length ∧ v11.length ≤ 8) → (∀ x ∈ v11, LB x) →
      ∃ r', ((s_l2Own_t (⟨((([(str [112, 111, 114, 116]), (str [109, 105, 108, 108]), (str [112, 97, 114, 107]), (str [104, 97, 108, 108]), (str [100, 111, 99, 107]), (str [102, 97, 105, 114])] : List ByteArray).take (2 + r.1).toNat).drop (0 : Int).toNat), v11⟩ : Network)).bind fun r11 => some ((⟨r11.Stops, r11.Lines⟩ : Network), (⟨v8, v9, (⟨v10⟩ : IK .u64)⟩ : l1Cur))) = some r' ∧ Cur (k + 300) r'.2 ∧ NB r'.1 := by
    intro v8 v9 v10 v11 g1 g2 g3
    have hst := six_len (2 + r.1).toNat (by omega) (by omega) _ hsix
    have hnb : NB (⟨((([(str [112, 111, 114, 116]), (str [109, 105, 108, 108]), (str [112, 97, 114, 107]), (str [104, 97, 108, 108]), (str [100, 111, 99, 107]), (str [102, 97, 105, 114])] : List ByteArray).take (2 + r.1).toNat).drop (0 : Int).toNat), v11⟩ : Network) := ⟨hst, g2, g3⟩
    rw [l2Own_t_eq _ hnb.bd]
    exact ⟨_, rfl, g1.mono (by omega), hnb⟩
  split
  · obtain ⟨e, he, _, hem⟩ := idx_lt (l := v7) (i := 0) (by omega) (by omega)
    obtain ⟨g1, g2⟩ := hall e hem
    have hch2 : ∀ y : Line, chk (v7.length + ([y] : List Line).length ≤ 4294967296) = some () := fun y => chk_of (by simp; omega)
    simp only [he, l2BackF_eq e.Stops (by omega), l2BackF_eq e.Runs (by omega), hch2, Option.bind_some]
    refine fin _ _ _ _ (hc6.mono (by omega)) (by simp; omega) fun y hy => ?_
    rcases List.mem_append.1 hy with hy | hy
    · exact hall y hy
    · simp at hy; subst hy
      exact ⟨by simpa using g1, by simpa using g2⟩
  · simp only [Option.bind_some]
    exact fin _ _ _ _ (hc6.mono (by omega)) (by omega) hall

theorem anyNetwork_ok {k : Nat} {c : l1Cur} (h : Cur k c) (hk : k ≤ 200000000) : ∃ r, s_l1Cur_anyNetwork c = some r ∧ Cur (k + 1000) r.2 ∧ Bd r.1 := by
  unfold s_l1Cur_anyNetwork
  obtain ⟨r, hr, hc, hnb⟩ := networkT_ok h (by omega)
  obtain ⟨n1, n2, n3⟩ := hnb
  obtain ⟨r1, hr1, hc1, h10, h11⟩ := pick_ok (r.1.Lines.length : Int) hc (by omega)
  obtain ⟨e, he, he2, hem⟩ := idx_lt (l := r.1.Lines) (i := r1.1) h10 (by omega)
  obtain ⟨g1, g2⟩ := n3 e hem
  obtain ⟨r2, hr2, hc2, _⟩ := pick_ok 24 hc1 (by omega)
  simp only [hr, hr1, he, hr2, Option.bind_some]
  have fin : ∀ (v : List UInt8) (v1 v2 : Int) (v3 : ByteArray) (v4 : List ByteArray) (v5 : List Line) (v6 : List Int), Cur (k + 900) ⟨v, v1, ⟨v2⟩⟩ → v4.length ≤ 6 → v5.length = r.1.Lines.length → (∀ x ∈ v5, LB x) → v6.length ≤ 11 →
      ∃ r', ((idx v5 r1.1).bind fun e9 => some ((⟨v4, (v5.set r1.1.toNat (⟨v3, e9.Stops, v6⟩ : Line))⟩ : Network), (⟨v, v1, (⟨v2⟩ : IK .u64)⟩ : l1Cur))) = some r' ∧ Cur (k + 1000) r'.2 ∧ Bd r'.1 := by
    intro v v1 v2 v3 v4 v5 v6 q1 q2 q3 q4 q5
    obtain ⟨e9, he9, _, hm9⟩ := idx_lt (l := v5) (i := r1.1) h10 (by omega)
    rw [he9]
    refine ⟨_, rfl, q1.mono (by omega), by show v4.length ≤ _; omega, by simp; omega, fun x hx => ?_⟩
    rcases List.mem_or_eq_of_mem_set hx with hx | hx
    · have := q4 x hx
      unfold LB at this; omega
    · subst hx
      have := q4 e9 hm9
      unfold LB at this
      exact ⟨by show e9.Stops.length ≤ _; omega, by show v6.length ≤ _; omega⟩
  split
  · obtain ⟨r4, hr4, hc4, _⟩ := ofw_ok ([(str [109, 105, 108, 108]), (str []), (str [65]), (str [97, 98, 99, 100, 101, 102, 103, 104]), (str [97, 98, 99, 100, 101, 102, 103, 104, 105])] : List ByteArray) (by simp) hc2 (by omega)
    obtain ⟨e2, he2', _⟩ := idx_lt (l := r.1.Stops) (i := 0) (by omega) (by omega)
    simp only [hr4, he2', Option.bind_some, flb_go]
    exact fin _ _ _ _ _ _ _ (hc4.mono (by omega)) (by simp; omega) rfl n3 (by omega)
  split
  · obtain ⟨r5, hr5, hc5, _⟩ := ofw_ok ([(str [114, 49]), (str [108, 49]), (str []), (str [88])] : List ByteArray) (by simp) hc2 (by omega)
    simp only [hr5, Option.bind_some, flb_go]
    exact fin _ _ _ _ _ _ _ (hc5.mono (by omega)) (by omega) rfl n3 (by omega)
  split
  · obtain ⟨r8, hr8, hc8, h80, h81⟩ := pick_ok (e.Stops.length : Int) hc2 (by omega)
    obtain ⟨r9, hr9, hc9, _⟩ := pick_ok 10 hc8 (by omega)
    obtain ⟨e4, he4, _⟩ := idx_lt (l := e.Stops) (i := r8.1) h80 (by omega)
    simp only [hr8, hr9, he4, Option.bind_some, flb_go]
    refine fin _ _ _ _ _ _ _ (hc9.mono (by omega)) (by omega) (by simp) (fun x hx => ?_) (by show e.Runs.length ≤ 11; omega)
    rcases List.mem_or_eq_of_mem_set hx with hx | hx
    · exact n3 x hx
    · subst hx; exact ⟨by simpa using g1, g2⟩
  split
  · obtain ⟨r12, hr12, hc12, h120, h121⟩ := pick_ok (e.Runs.length : Int) hc2 (by omega)
    obtain ⟨r13, hr13, hc13, _⟩ := amongw_ok ([0, 60, 61, (-1)] : List Int) (by simp) hc12 (by omega)
    obtain ⟨e6, he6, _⟩ := idx_lt (l := e.Runs) (i := r12.1) h120 (by omega)
    simp only [hr12, hr13, he6, Option.bind_some, flb_go]
    refine fin _ _ _ _ _ _ _ (hc13.mono (by omega)) (by omega) (by simp) (fun x hx => ?_) (by simp; omega)
    rcases List.mem_or_eq_of_mem_set hx with hx | hx
    · exact n3 x hx
    · subst hx; exact ⟨g1, by simpa using g2⟩
  split
  · have hch : chk (e.Runs.length + ([3] : List Int).length ≤ 4294967296) = some () := chk_of (by simp; omega)
    simp only [hch, Option.bind_some, flb_go]
    exact fin _ _ _ _ _ _ _ (hc2.mono (by omega)) (by omega) rfl n3 (by simp; omega)
  split
  · simp only [flb_ret]
    exact ⟨_, rfl, hc2.mono (by omega), by show r.1.Stops.length ≤ _; omega, by simp, by simp⟩
  split
  · have loop : ∃ b, iter (s_l1Cur_anyNetwork_L1 r) (0, r2.2.code_, r2.2.at_, r2.2.seed_.v, r.1.Lines) = some b ∧ (Cur (k + 900) ⟨b.1, b.2.1, ⟨b.2.2.1⟩⟩ ∧ b.2.2.2.length ≤ 20 ∧ ∀ x ∈ b.2.2.2, LB x) := by
      refine iter_rule (fun m a => ∃ i : Nat, a.1 = (i : Int) ∧ m + i = 8 ∧ i ≤ 7 ∧ a.2.2.2.2.length ≤ 8 + i ∧ (∀ x ∈ a.2.2.2.2, LB x) ∧ Cur (k + 310 + 50 * i) ⟨a.2.1, a.2.2.1, ⟨a.2.2.2.1⟩⟩) _ ?_ (k := 8) ⟨0, rfl, rfl, by omega, by simpa using n2.2, n3, hc2.mono (by omega)⟩
      rintro m ⟨v7, v8, v9, v10, v11⟩ ⟨i, hi, hm, hi7, hl, hlb, hcur⟩
      simp only at hi hl hlb hcur
      subst hi
      unfold s_l1Cur_anyNetwork_L1
      obtain ⟨r16, hr16, hc16, h160, h161⟩ := pick_ok 2 hcur (by omega)
      have w1 : w64 (5 + r16.1) = 5 + r16.1 := w64_id (by omega)
      simp only [hr16, w1, Option.bind_some]
      by_cases a1 : (v11.length : Int) < 5 + r16.1 ∧ (i : Int) < 7
      · left
        have d1 : decide ((v11.length : Int) < 5 + r16.1) = true := by simp; omega
        have d2 : decide ((i : Int) < 7) = true := by simp; omega
        obtain ⟨r19, hr19, hs19⟩ := l1Num_ok (i : Int) (by omega) (by omega)
        have hs : (str [120]).size = 1 := rfl
        have hch : chk ((str [120]).size + r19.size ≤ 4294967296) = some () := chk_of (by omega)
        obtain ⟨r20, hr20, hc20, hb20⟩ := line_ok (str [120] ++ r19) (r.1.Stops.length : Int) (by omega) hc16 (by omega)
        have hch2 : ∀ y : Line, chk (v11.length + ([y] : List Line).length ≤ 4294967296) = some () := fun y => chk_of (by simp; omega)
        refine ⟨_, m - 1, by simp only [d1, d2, if_true, hr19, hch, hr20, hch2, Option.bind_some, w64_succ (n := i) (by omega)]; rfl, by omega, i + 1, rfl, by omega, by omega, ?_, fun x hx => ?_, ?_⟩
        · simp; omega
        · rcases List.mem_append.1 hx with hx | hx
          · exact hlb x hx
          · simp at hx; subst hx; exact hb20
        · exact hc20.mono (by omega)
      · right
        have hcond : (if decide ((v11.length : Int) < 5 + r16.1) = true then some (decide ((i : Int) < 7)) else some false) = some false := by
          by_cases b1 : (v11.length : Int) < 5 + r16.1
          · have : decide ((i : Int) < 7) = false := by simp; omega
            simp [b1, this]
          · simp [b1]
        refine ⟨_, by simp only [hcond, Option.bind_some, Bool.false_eq_true, if_false]; rfl, ?_, ?_, hlb⟩
        · exact hc16.mono (by omega)
        · show v11.length ≤ 20; omega
    obtain ⟨⟨v13, v14, v15, v16⟩, hb, hcb, hlb, hall⟩ := loop
    simp only at hcb hlb hall
    rw [hb]
    simp only [Option.bind_some, flb_ret]
    refine ⟨_, rfl, hcb.mono (by omega), by show r.1.Stops.length ≤ _; omega, by show v16.length ≤ _; omega, fun x hx => ?_⟩
    have := hall x hx
    unfold LB at this; omega
  · simp only [flb_go]
    exact fin _ _ _ _ _ _ _ (hc2.mono (by omega)) (by omega) rfl n3 (by omega)

/-! Timetables: when they are valid. -/
def TB (t : Timetable) : Prop := Bd t.Network ∧ t.Trips.length ≤ 1000
def TripP (n : Network) (x : Trip) : Prop := (1 ≤ x.Id ∧ x.Id ≤ 999) ∧ ∃ l, idx n.Lines x.Line = some l ∧ (0 ≤ x.Start ∧ x.Start ≤ 1799) ∧ 0 ≤ x.Start + l.Runs.sum ∧ x.Start + l.Runs.sum ≤ 1799
def GoodT (t : Timetable) : Prop := Good t.Network ∧ t.Trips.length ≤ 12 ∧ (∀ (i : Nat) x, t.Trips[i]? = some x → TripP t.Network x) ∧ ∀ (i : Nat) a b, t.Trips[i]? = some a → t.Trips[i + 1]? = some b → a.Id < b.Id
noncomputable instance (t : Timetable) : Decidable (GoodT t) := Classical.propDecidable _
noncomputable instance (n : Network) (x : Trip) : Decidable (TripP n x) := Classical.propDecidable _
theorem time_eq (t : Int) : i_IsValidTime t = some (decide (0 ≤ t ∧ t ≤ 1799)) := by
  unfold i_IsValidTime; rw [within_eq]; rfl
theorem l4Time_eq (t : Int) : s_l4Time t = some (decide (0 ≤ t ∧ t ≤ 1799)) := by
  unfold s_l4Time; rw [l1In_eq]; rfl
theorem total_eq (l : List Int) (h1 : l.length ≤ 1000000) (h2 : ∀ x ∈ l, 0 ≤ x ∧ x ≤ 1000000) : i_total l = some l.sum := by
  unfold i_total
  rw [sum_loop (fun x : Int => x) l h1 h2 (fun i s x hx => ?_) (fun s => ?_)]
  · simp
  · have := get_lt hx
    unfold i_total_L1
    simp (disch := omega) only [if_pos, if_neg, decide_eq_true_eq, decide_true, decide_false, Bool.not_true, Bool.not_false, Bool.false_eq_true, Bool.not_eq_true', decide_eq_false_iff_not, if_true, if_false, w64_id, chk_of, idx_nat, Option.bind_some, Option.map_some, Int.toNat_natCast, not_true_eq_false, not_false_eq_true, true_and, and_true, and_self, false_and, and_false, reduceIte, flb_go, flb_ret, beq_self_eq_true, ne_eq, bne_self_eq_false, Int.ofNat_lt.2 this, hx]
  · unfold i_total_L1; simp
theorem l2Run_eq (x : Line) (a b : Nat) (hab : a ≤ b) (hb : b ≤ x.Runs.length) (hl : x.Runs.length ≤ 1000) (h2 : ∀ r ∈ x.Runs, 0 ≤ r ∧ r ≤ 1000000) : s_l2Run x (a : Int) (b : Int) = some (((x.Runs.take b).drop a).sum) := by
  unfold s_l2Run
  refine Tot.val (.call (P := fun v => v = ((x.Runs.take b).drop a).sum) ?_ fun v h => .ok h)
  refine .iter (fun m s => ∃ k : Nat, s.2 = ((a + k : Nat) : Int) ∧ m + k = b - a ∧ s.1 = (((x.Runs.take b).drop a).take k).sum) (n := b - a) ⟨0, by simp, by omega, by simp⟩ ?_
  rintro m ⟨s, v⟩ ⟨k, hk, hm, hs⟩
  simp only at hk hs
  subst hk
  unfold s_l2Run_L1
  refine .iteP (fun hc => ?_) (fun hc => .dn ?_)
  · obtain ⟨r, hr⟩ := get_ex (l := x.Runs) (i := a + k) (by omega)
    have hr2 : ((x.Runs.take b).drop a)[k]? = some r := by
      rw [List.getElem?_drop, List.getElem?_take_of_lt (by omega)]; exact hr
    have hb1 := h2 r (List.mem_of_getElem? hr)
    have hb2 := sum_bd (l := ((x.Runs.take b).drop a).take k) (M := 1000000) fun y hy => h2 y (List.mem_of_mem_take (List.mem_of_mem_drop (List.mem_of_mem_take hy)))
    have hlen : ((((x.Runs.take b).drop a).take k).length : Int) ≤ 1000 := by simp; omega
    rw [← hs] at hb2
    refine .eq (by rw [idx_nat]; exact hr) (.nx ⟨m - 1, by omega, k + 1, ?_, by omega, ?_⟩)
    · show w64 (((a + k : Nat) : Int) + 1) = _
      rw [w64_id (by omega)]; omega
    · show w64 (s + r) = _
      rw [w64_id (by omega), sum_take_succ hr2, hs]
  · rw [hs, List.take_of_length_le (by rw [List.length_drop, List.length_take]; omega)]
theorem good_line {n : Network} (h : Good n) {k : Int} {l : Line} (hl : idx n.Lines k = some l) : LineP n.Stops.length l := h.2.2.2.2 _ l (idx_some hl).2.2
theorem line_runs {st : Nat} {l : Line} (h : LineP st l) : (l.Runs.length + 1 = l.Stops.length ∧ 1 ≤ l.Runs.length ∧ l.Runs.length ≤ 5) ∧ ∀ r ∈ l.Runs, 1 ≤ r ∧ r ≤ 60 := by
  obtain ⟨h1, h2, h3, h4⟩ := h
  refine ⟨by omega, fun r hr => ?_⟩
  obtain ⟨i, hi⟩ := List.getElem?_of_mem hr
  exact h4 i r hi
theorem runs_sum {st : Nat} {l : Line} (h : LineP st l) (k : Nat) : 0 ≤ (l.Runs.take k).sum ∧ (l.Runs.take k).sum ≤ 300 := by
  obtain ⟨⟨h1, h2, h3⟩, h4⟩ := line_runs h
  have := sum_bd (l := l.Runs.take k) (M := 60) fun x hx => by have := h4 x (List.mem_of_mem_take hx); omega
  have hl : ((l.Runs.take k).length : Int) ≤ 5 := by simp; omega
  omega
theorem runs_sum' {st : Nat} {l : Line} (h : LineP st l) : 0 ≤ l.Runs.sum ∧ l.Runs.sum ≤ 300 := by
  have := runs_sum h l.Runs.length
  rwa [List.take_length] at this
theorem endOf_eq {t : Timetable} (hg : Good t.Network) {x : Trip} {l : Line} (hl : idx t.Network.Lines x.Line = some l) (hs : 0 ≤ x.Start ∧ x.Start ≤ 1799) : i_endOf t x = some (x.Start + l.Runs.sum) := by
  have h := good_line hg hl
  obtain ⟨⟨h1, h2, h3⟩, h4⟩ := line_runs h
  have h5 := runs_sum' h
  unfold i_endOf
  rw [hl]
  simp only [Option.bind_some]
  rw [total_eq l.Runs (by omega) (fun x hx => by have := h4 x hx; omega)]
  simp (disch := omega) only [if_pos, if_neg, decide_eq_true_eq, decide_true, decide_false, Bool.not_true, Bool.not_false, Bool.false_eq_true, Bool.not_eq_true', decide_eq_false_iff_not, if_true, if_false, w64_id, chk_of, idx_nat, Option.bind_some, Option.map_some, Int.toNat_natCast, not_true_eq_false, not_false_eq_true, true_and, and_true, and_self, false_and, and_false, reduceIte, flb_go, flb_ret, beq_self_eq_true, ne_eq, bne_self_eq_false]
theorem l5Line_eq {t : Timetable} {i : Nat} {x : Trip} {l : Line} (hx : t.Trips[i]? = some x) (hl : idx t.Network.Lines x.Line = some l) : s_l5Line t (i : Int) = some l := by
  unfold s_l5Line
  simp (disch := omega) only [if_pos, if_neg, decide_eq_true_eq, decide_true, decide_false, Bool.not_true, Bool.not_false, Bool.false_eq_true, Bool.not_eq_true', decide_eq_false_iff_not, if_true, if_false, w64_id, chk_of, idx_nat, Option.bind_some, Option.map_some, Int.toNat_natCast, not_true_eq_false, not_false_eq_true, true_and, and_true, and_self, false_and, and_false, reduceIte, flb_go, flb_ret, beq_self_eq_true, ne_eq, bne_self_eq_false, hx, hl]
theorem l5Stops_eq {t : Timetable} {i : Nat} {x : Trip} {l : Line} (hx : t.Trips[i]? = some x) (hl : idx t.Network.Lines x.Line = some l) : s_l5Stops t (i : Int) = some l.Stops := by
  unfold s_l5Stops
  rw [l5Line_eq hx hl]; rfl
theorem l5At_eq {t : Timetable} (hg : Good t.Network) {i : Nat} {x : Trip} {l : Line} (hx : t.Trips[i]? = some x) (hl : idx t.Network.Lines x.Line = some l) (hs : 0 ≤ x.Start ∧ x.Start ≤ 1799) {k : Nat} (hk : k ≤ l.Runs.length) : s_l5At t (i : Int) (k : Int) = some (x.Start + (l.Runs.take k).sum) := by
  have h := good_line hg hl
  obtain ⟨⟨h1, h2, h3⟩, h4⟩ := line_runs h
  have h5 := runs_sum h k
  have e := l2Run_eq l 0 k (by omega) hk (by omega) (fun x hx => by have := h4 x hx; omega)
  rw [List.drop_zero] at e
  have e' : s_l2Run l 0 (k : Int) = some (l.Runs.take k).sum := e
  unfold s_l5At
  simp (disch := omega) only [if_pos, if_neg, decide_eq_true_eq, decide_true, decide_false, Bool.not_true, Bool.not_false, Bool.false_eq_true, Bool.not_eq_true', decide_eq_false_iff_not, if_true, if_false, w64_id, chk_of, idx_nat, Option.bind_some, Option.map_some, Int.toNat_natCast, not_true_eq_false, not_false_eq_true, true_and, and_true, and_self, false_and, and_false, reduceIte, flb_go, flb_ret, beq_self_eq_true, ne_eq, bne_self_eq_false, hx, l5Line_eq hx hl, e']
theorem l5End_eq {t : Timetable} (hg : Good t.Network) {i : Nat} {x : Trip} {l : Line} (hx : t.Trips[i]? = some x) (hl : idx t.Network.Lines x.Line = some l) (hs : 0 ≤ x.Start ∧ x.Start ≤ 1799) : s_l5End t (i : Int) = some (x.Start + l.Runs.sum) := by
  have h := good_line hg hl
  obtain ⟨⟨h1, h2, h3⟩, h4⟩ := line_runs h
  have e : w64 ((l.Stops.length : Int) - 1) = (l.Runs.length : Int) := by rw [w64_id (by omega)]; omega
  unfold s_l5End
  rw [l5Stops_eq hx hl]
  simp only [Option.bind_some, e, l5At_eq hg hx hl hs (Nat.le_refl _), List.take_length]
def TripsP (t : Timetable) : Prop := (∀ (i : Nat) x, t.Trips[i]? = some x → TripP t.Network x) ∧ ∀ (i : Nat) a b, t.Trips[i]? = some a → t.Trips[i + 1]? = some b → a.Id < b.Id
noncomputable instance (t : Timetable) : Decidable (TripsP t) := Classical.propDecidable _
/-- One trip's check in the program. -/
theorem trip_i {t : Timetable} (hb : TB t) (hg : Good t.Network) (x : Trip) (last : Int) (hlast : 0 ≤ last) : ((if (decide (x.Id ≤ last)) = true then some true else if (decide (999 < x.Id)) = true then some true else (i_isLine t.Network x.Line).bind fun r =>
      if (!r) = true then some true else (i_IsValidTime x.Start).bind fun r1 =>
      if (!r1) = true then some true else (i_endOf t x).bind fun r2 =>
      (i_IsValidTime r2).bind fun r3 =>
      some (!r3))) = some (!decide (last < x.Id ∧ TripP t.Network x)) := by
  by_cases c1 : x.Id ≤ last
  · have : ¬ (last < x.Id ∧ TripP t.Network x) := fun h => by omega
    simp [c1, this]
  · by_cases c2 : 999 < x.Id
    · have : ¬ (last < x.Id ∧ TripP t.Network x) := fun h => by have := h.2.1; omega
      simp [c1, c2, this]
    · simp only [isLine_eq, time_eq, Option.bind_some, c1, c2, decide_false, Bool.false_eq_true, if_false]
      by_cases c3 : 0 ≤ x.Line ∧ x.Line < (t.Network.Lines.length : Int)
      · obtain ⟨l, hl, _⟩ := idx_lt (l := t.Network.Lines) c3.1 c3.2
        by_cases c4 : 0 ≤ x.Start ∧ x.Start ≤ 1799
        · have hT : (last < x.Id ∧ TripP t.Network x) ↔ (0 ≤ x.Start + l.Runs.sum ∧ x.Start + l.Runs.sum ≤ 1799) := by
            constructor
            · rintro ⟨_, _, l', hl', _, h⟩
              rw [hl] at hl'; cases hl'; exact h
            · intro h; exact ⟨by omega, ⟨by omega, by omega⟩, l, hl, c4, h⟩
          simp only [c3, c4, and_self, decide_true, Bool.not_true, Bool.false_eq_true, if_false, endOf_eq hg hl c4, time_eq, Option.bind_some, hT]
        · have : ¬ (last < x.Id ∧ TripP t.Network x) := fun h => by
            obtain ⟨_, _, l', _, h4, _⟩ := h
            exact c4 h4
          simp only [c3, c4, this, and_self, decide_true, decide_false, Bool.not_true, Bool.not_false, Bool.false_eq_true, if_false, if_true]
      · have : ¬ (last < x.Id ∧ TripP t.Network x) := fun h => by
          obtain ⟨_, _, l', hl', _⟩ := h
          have := idx_some hl'
          exact c3 ⟨this.1, this.2.1⟩
        simp only [c3, this, decide_false, Bool.not_false, if_true]
theorem areTrips_eq {t : Timetable} (hb : TB t) (hg : Good t.Network) : i_areTrips t = some (decide (t.Trips.length ≤ 12 ∧ TripsP t)) := by
  unfold i_areTrips
  by_cases h12 : t.Trips.length ≤ 12
  · have d : decide ((12 : Int) < (t.Trips.length : Int)) = false := by simp; omega
    have e : decide (t.Trips.length ≤ 12 ∧ TripsP t) = decide (TripsP t) := by simp [h12]
    rw [d, e]
    simp only [Bool.false_eq_true, if_false]
    refine flb_dec (.iter (fun m a => ∃ i : Nat, a.2 = (i : Int) ∧ m + i = t.Trips.length ∧ 0 ≤ a.1 ∧ (∀ y, 0 < i → t.Trips[i - 1]? = some y → a.1 = y.Id) ∧ (i = 0 → a.1 = 0) ∧ (∀ (j : Nat) x, j < i → t.Trips[j]? = some x → TripP t.Network x) ∧ ∀ (j : Nat) a b, j + 1 < i → t.Trips[j]? = some a → t.Trips[j + 1]? = some b → a.Id < b.Id)
      (n := t.Trips.length) ⟨0, rfl, rfl, by simp, by simp, by simp, fun j x h => by omega, fun j a b h => by omega⟩ ?_)
    rintro m ⟨last, v⟩ ⟨i, hv, hm, h0, h1, h2, h3, h4⟩
    simp only at hv h0 h1 h2
    subst hv
    unfold i_areTrips_L1
    refine .iteP (fun hc => ?_) (fun hc => .dn (.inl ⟨rfl, fun j x hx => h3 j x (by have := get_lt hx; omega) hx, fun j a b ha hb' => h4 j a b (by have := get_lt hb'; omega) ha hb'⟩))
    obtain ⟨x, hx⟩ := get_ex (l := t.Trips) (i := i) (by omega)
    refine .eq (by rw [idx_nat]; exact hx) (.eq (trip_i hb hg x last h0) (.iteN (fun hn => .dn (.inr ⟨rfl, fun hp => hn ⟨?_, hp.1 i x hx⟩⟩)) (fun hp => .nx ⟨m - 1, by omega, i + 1, w64_succ (by omega), by omega, ?_, ?_, by simp, ?_, ?_⟩)))
    · by_cases hi : i = 0
      · rw [h2 hi]; have := (hp.1 i x hx).1; omega
      · obtain ⟨y, hy⟩ := get_ex (l := t.Trips) (i := i - 1) (by omega)
        rw [h1 y (by omega) hy]
        exact hp.2 (i - 1) y x hy (by rw [show i - 1 + 1 = i by omega]; exact hx)
    · show 0 ≤ x.Id
      have := hp.2.1; omega
    · intro y _ hy
      rw [show i + 1 - 1 = i by omega, hx] at hy; cases hy; rfl
    · intro j y hj hy
      by_cases hji : j = i
      · subst hji; rw [hx] at hy; cases hy; exact hp.2
      · exact h3 j y (by omega) hy
    · intro j a b hj ha hb'
      by_cases hji : j + 1 = i
      · subst hji; rw [hx] at hb'; cases hb'
        have := h1 a (by omega) (by simpa using ha)
        omega
      · exact h4 j a b (by omega) ha hb'
  · have d : decide ((12 : Int) < (t.Trips.length : Int)) = true := by simp; omega
    simp [d, h12]
/-- A trip is as it should be, and behind the one before it. -/
def TripQ (t : Timetable) (i : Nat) (x : Trip) : Prop := TripP t.Network x ∧ ∀ y, 0 < i → t.Trips[i - 1]? = some y → y.Id < x.Id
noncomputable instance (t : Timetable) (i : Nat) (x : Trip) : Decidable (TripQ t i x) := Classical.propDecidable _
theorem goodT_iff (t : Timetable) : GoodT t ↔ Good t.Network ∧ t.Trips.length ≤ 12 ∧ TripsP t := Iff.rfl
theorem validT_eq {t : Timetable} (hb : TB t) : i_IsValidTimetable t = some (decide (GoodT t)) := by
  unfold i_IsValidTimetable
  rw [valid_eq _ hb.1]
  by_cases hg : Good t.Network
  · simp only [hg, decide_true, if_true, Option.bind_some, areTrips_eq hb hg, goodT_iff, true_and]
  · have : ¬ GoodT t := fun h => hg h.1
    simp [hg, this]
theorem goodT_eq {t : Timetable} (hb : TB t) : s_l5Good t = some (decide (GoodT t)) := by
  unfold s_l5Good
  rw [good_eq _ hb.1]
  by_cases hg : Good t.Network
  · by_cases h12 : t.Trips.length ≤ 12
    · have d : decide ((12 : Int) < (t.Trips.length : Int)) = false := by simp; omega
      have e : decide (GoodT t) = decide (TripsP t) := by rw [decide_eq_decide, goodT_iff]; simp [hg, h12]
      simp only [hg, decide_true, Bool.not_true, Bool.false_eq_true, if_false, Option.bind_some, d, e]
      refine flb_dec (.iter (fun m a => ∃ i : Nat, a = (i : Int) ∧ m + i = t.Trips.length ∧ (∀ (j : Nat) x, j < i → t.Trips[j]? = some x → TripP t.Network x) ∧ ∀ (j : Nat) a b, j + 1 < i → t.Trips[j]? = some a → t.Trips[j + 1]? = some b → a.Id < b.Id)
        (n := t.Trips.length) ⟨0, rfl, rfl, fun j x h => by omega, fun j a b h => by omega⟩ ?_)
      rintro m v ⟨i, hv, hm, h3, h4⟩
      subst hv
      unfold s_l5Good_L1
      refine .iteP (fun hc => ?_) (fun hc => .dn (.inl ⟨rfl, fun j x hx => h3 j x (by have := get_lt hx; omega) hx, fun j a b ha hb' => h4 j a b (by have := get_lt hb'; omega) ha hb'⟩))
      obtain ⟨x, hx⟩ := get_ex (l := t.Trips) (i := i) (by omega)
      refine .eq (by rw [idx_nat]; exact hx) ?_
      have hll := hg.2.1
      have ew : w64 ((t.Network.Lines.length : Int) - 1) = (t.Network.Lines.length : Int) - 1 := w64_id (by omega)
      have key : ((s_l1In x.Id 1 999).bind fun r6 =>
      (if (!r6) = true then some true else (s_l1In x.Line 0 (w64 ((t.Network.Lines.length : Int) - 1))).bind fun r7 =>
      if (!r7) = true then some true else (s_l4Time x.Start).bind fun r8 =>
      if (!r8) = true then some true else (s_l5End t (i : Int)).bind fun r9 =>
      (s_l4Time r9).bind fun r10 =>
      if (!r10) = true then some true else if (decide (0 < (i : Int))) = true then (idx t.Trips (w64 ((i : Int) - 1))).bind fun e2 =>
      some (decide (x.Id ≤ e2.Id)) else some false)) = some (!decide (TripQ t i x)) := by
        have no : ¬ TripP t.Network x → (!decide (TripQ t i x)) = true := fun h => (by simp [show ¬ TripQ t i x from fun q => h q.1])
        simp only [l1In_eq, l4Time_eq, ew, Option.bind_some]
        by_cases c1 : 1 ≤ x.Id ∧ x.Id ≤ 999
        · by_cases c3 : 0 ≤ x.Line ∧ x.Line ≤ (t.Network.Lines.length : Int) - 1
          · obtain ⟨l, hl, _⟩ := idx_lt (l := t.Network.Lines) c3.1 (by omega)
            by_cases c4 : 0 ≤ x.Start ∧ x.Start ≤ 1799
            · simp only [c1, c3, c4, and_self, decide_true, Bool.not_true, Bool.false_eq_true, if_false, l5End_eq hg hx hl c4, l4Time_eq, Option.bind_some]
              by_cases c5 : 0 ≤ x.Start + l.Runs.sum ∧ x.Start + l.Runs.sum ≤ 1799
              · have hT : TripP t.Network x := ⟨c1, l, hl, c4, c5⟩
                simp only [c5, and_self, decide_true, Bool.not_true, Bool.false_eq_true, if_false, ]
                by_cases c6 : 0 < i
                · obtain ⟨y, hy⟩ := get_ex (l := t.Trips) (i := i - 1) (by omega)
                  have e1 : w64 ((i : Int) - 1) = ((i - 1 : Nat) : Int) := by rw [w64_id (by omega)]; omega
                  have c6' : (0 : Int) < (i : Int) := by omega
                  simp only [c6', decide_true, if_true, e1, idx_nat, hy, Option.bind_some, Option.some.injEq]
                  by_cases c7 : x.Id ≤ y.Id
                  · have : ¬ TripQ t i x := fun h => by have := h.2 y c6 hy; omega
                    simp only [c7, decide_true, this, decide_false, Bool.not_false]
                  · have : TripQ t i x := ⟨hT, fun z _ hz => by rw [hy] at hz; cases hz; omega⟩
                    simp only [c7, decide_false, this, decide_true, Bool.not_true]
                · have c6' : ¬ (0 : Int) < (i : Int) := by omega
                  have : TripQ t i x := ⟨hT, fun z h0 _ => absurd h0 c6⟩
                  simp only [c6', decide_false, Bool.false_eq_true, if_false, this, decide_true, Bool.not_true]
              · rw [no (fun hT => by
                  obtain ⟨_, l', hl', _, h⟩ := hT
                  rw [hl] at hl'; cases hl'; exact c5 h)]
                simp only [c5, decide_false, Bool.not_false, if_true]
            · rw [no (fun hT => by obtain ⟨_, l', _, h, _⟩ := hT; exact c4 h)]
              simp only [c1, c3, c4, and_self, decide_true, decide_false, Bool.not_true, Bool.not_false, Bool.false_eq_true, if_false, if_true]
          · rw [no (fun hT => by
              obtain ⟨_, l', hl', _⟩ := hT
              have := idx_some hl'
              exact c3 ⟨this.1, by omega⟩)]
            simp only [c1, c3, and_self, decide_true, decide_false, Bool.not_true, Bool.not_false, Bool.false_eq_true, if_false, if_true]
        · rw [no (fun hT => c1 hT.1)]
          simp only [c1, decide_false, Bool.not_false, if_true]
      rw [bind_assoc', key]
      refine .iteN (fun hn => .dn (.inr ⟨rfl, fun hp => hn ⟨hp.1 i x hx, fun y hi hy => hp.2 (i - 1) y x hy (by rw [show i - 1 + 1 = i by omega]; exact hx)⟩⟩)) (fun hp => .nx ⟨m - 1, by omega, i + 1, w64_succ (by omega), by omega, ?_, ?_⟩)
      · intro j y hj hy
        by_cases hji : j = i
        · subst hji; rw [hx] at hy; cases hy; exact hp.1
        · exact h3 j y (by omega) hy
      · intro j a b hj ha hb'
        by_cases hji : j + 1 = i
        · subst hji; rw [hx] at hb'; cases hb'
          exact hp.2 a (by omega) (by simpa using ha)
        · exact h4 j a b (by omega) ha hb'
    · have d : decide ((12 : Int) < (t.Trips.length : Int)) = true := by simp; omega
      have : ¬ GoodT t := fun h => h12 h.2.1
      simp [hg, d, this]
  · have : ¬ GoodT t := fun h => hg h.1
    simp [hg, this]
/-! Timetables: what is looked up; stop times; draws. -/
theorem tripIndex_eq (t : Timetable) (h : t.Trips.length ≤ 1000) (id : Int) : i_tripIndex t id = some (fixI (fun x => x.Id == id) t.Trips) := by
  unfold i_tripIndex slices_IndexFunc_Trip__i_tripIndex_1 slices_IndexFunc_Trip
  rw [find_val t.Trips (fun x => x.Id == id) (fun i x hx => ?_) (by unfold slices_IndexFunc_Trip_L1; simp)]
  · rfl
  · have := get_lt hx
    unfold slices_IndexFunc_Trip_L1 i_tripIndex_1
    simp (disch := omega) only [if_pos, if_neg, decide_eq_true_eq, decide_true, decide_false, Bool.not_true, Bool.not_false, Bool.false_eq_true, Bool.not_eq_true', decide_eq_false_iff_not, if_true, if_false, w64_id, chk_of, idx_nat, Option.bind_some, Option.map_some, Int.toNat_natCast, not_true_eq_false, not_false_eq_true, true_and, and_true, and_self, false_and, and_false, reduceIte, flb_go, flb_ret, beq_self_eq_true, ne_eq, bne_self_eq_false, hx, Int.ofNat_lt.2 this]
    split <;> simp [*] <;> omega
theorem l5Find_eq (t : Timetable) (h : t.Trips.length ≤ 1000) (id : Int) : s_l5Find t id = some (fixI (fun x => x.Id == id) t.Trips) := by
  unfold s_l5Find
  rw [find_val t.Trips (fun x => x.Id == id) (fun i x hx => ?_) (by unfold s_l5Find_L1; simp)]
  have := get_lt hx
  unfold s_l5Find_L1
  simp (disch := omega) only [if_pos, if_neg, decide_eq_true_eq, decide_true, decide_false, Bool.not_true, Bool.not_false, Bool.false_eq_true, Bool.not_eq_true', decide_eq_false_iff_not, if_true, if_false, w64_id, chk_of, idx_nat, Option.bind_some, Option.map_some, Int.toNat_natCast, not_true_eq_false, not_false_eq_true, true_and, and_true, and_self, false_and, and_false, reduceIte, flb_go, flb_ret, beq_self_eq_true, ne_eq, bne_self_eq_false, hx, Int.ofNat_lt.2 this]
  split <;> simp [*] <;> omega
theorem lineOf_eq {t : Timetable} {x : Trip} {l : Line} (hl : idx t.Network.Lines x.Line = some l) : i_lineOf t x = some l := by
  unfold i_lineOf; rw [hl]; rfl
/-- A valid timetable's trip, with its line. -/
theorem trip_line {t : Timetable} (h : GoodT t) {i : Nat} {x : Trip} (hx : t.Trips[i]? = some x) : ∃ l, idx t.Network.Lines x.Line = some l ∧ LineP t.Network.Stops.length l ∧ (1 ≤ x.Id ∧ x.Id ≤ 999) ∧ (0 ≤ x.Start ∧ x.Start ≤ 1799) ∧ 0 ≤ x.Start + l.Runs.sum ∧ x.Start + l.Runs.sum ≤ 1799 := by
  obtain ⟨h1, l, hl, h2, h3⟩ := h.2.2.1 i x hx
  exact ⟨l, hl, good_line h.1 hl, h1, h2, h3⟩
theorem ids_lt {t : Timetable} (h : GoodT t) {i j : Nat} {a b : Trip} (hij : i < j) (ha : t.Trips[i]? = some a) (hb : t.Trips[j]? = some b) : a.Id < b.Id := by
  induction j generalizing b with
  | zero => omega
  | succ j ih =>
    obtain ⟨c, hc⟩ := get_ex (l := t.Trips) (i := j) (by have := get_lt hb; omega)
    have h1 := h.2.2.2 j c b hc hb
    by_cases hji : i = j
    · subst hji; rw [ha] at hc; cases hc; exact h1
    · have := ih (by omega) hc; omega
/-- A trip is found by its Id. -/
theorem trip_fix {t : Timetable} (h : GoodT t) {i : Nat} {x : Trip} (hx : t.Trips[i]? = some x) : fixI (fun y => y.Id == x.Id) t.Trips = (i : Int) := by
  refine fixI_of hx (by simp) fun j y hj hy => ?_
  have := ids_lt h hj hy hx
  simp; omega
/-- The stop times. -/
def ST (l : Line) (s : Int) : List Int := (List.range (l.Runs.length + 1)).map fun k => s + (l.Runs.take k).sum
theorem ST_len (l : Line) (s : Int) : (ST l s).length = l.Runs.length + 1 := by simp [ST]
theorem ST_at {l : Line} {s : Int} {k : Nat} (hk : k ≤ l.Runs.length) : (ST l s)[k]? = some (s + (l.Runs.take k).sum) := by
  unfold ST; rw [List.getElem?_map, List.getElem?_range (by omega)]; rfl
theorem stopTimes_eq {t : Timetable} {x : Trip} {l : Line} {st : Nat} (hl : idx t.Network.Lines x.Line = some l) (hp : LineP st l) (hs : 0 ≤ x.Start ∧ x.Start ≤ 1799) : i_stopTimes t x = some (ST l x.Start) := by
  obtain ⟨⟨h1, h2, h3⟩, h4⟩ := line_runs hp
  unfold i_stopTimes
  rw [lineOf_eq hl]
  simp only [Option.bind_some]
  refine Tot.val (.call (P := fun v => v = ST l x.Start) ?_ fun v h => .ok h)
  refine .iter (fun m s => ∃ k : Nat, s.1 = (k : Int) ∧ m + k = l.Runs.length ∧ s.2 = (ST l x.Start).take (k + 1)) (n := l.Runs.length) ⟨0, rfl, rfl, ?_⟩ ?_
  · rw [take_succ (x := x.Start) (by have := ST_at (l := l) (s := x.Start) (k := 0) (by omega); simpa using this)]; rfl
  · rintro m ⟨v, r⟩ ⟨k, hk, hm, hr⟩
    simp only at hk hr
    subst hk
    unfold i_stopTimes_L1
    have hlen := ST_len l x.Start
    refine .iteP (fun hc => ?_) (fun hc => .dn (by rw [hr, List.take_of_length_le (by omega)]))
    obtain ⟨e, he⟩ := get_ex (l := l.Runs) (i := k) (by omega)
    have hk1 := ST_at (l := l) (s := x.Start) (k := k) (by omega)
    have hk2 := ST_at (l := l) (s := x.Start) (k := k + 1) (by omega)
    have b1 := runs_sum hp k
    have b2 := h4 e (List.mem_of_getElem? he)
    refine .eq (by rw [idx_nat]; exact he) (.eq (by rw [idx_nat, hr, List.getElem?_take_of_lt (by omega)]; exact hk1) (.chk (by rw [hr]; simp; omega) (.nx ⟨m - 1, by omega, k + 1, w64_succ (by omega), by omega, ?_⟩)))
    show r ++ [w64 (x.Start + (l.Runs.take k).sum + e)] = _
    rw [take_succ hk2, hr, w64_id (by omega), sum_take_succ he, Int.add_assoc]

/-- A trip that is there, found by its Id. -/
theorem find_trip {t : Timetable} (hb : TB t) (hT : GoodT t) {k : Nat} {y : Trip} (hy : t.Trips[k]? = some y) : i_tripIndex t y.Id = some (k : Int) ∧ s_l5Find t y.Id = some (k : Int) := by
  rw [tripIndex_eq t hb.2, l5Find_eq t hb.2, trip_fix hT hy]
  exact ⟨rfl, rfl⟩
theorem found_or {t : Timetable} (id : Int) : (fixI (fun x => x.Id == id) t.Trips < 0 ∧ ∀ (k : Nat) y, t.Trips[k]? = some y → y.Id ≠ id) ∨ ∃ (k : Nat) (y : Trip), t.Trips[k]? = some y ∧ y.Id = id := by
  by_cases h : fixI (fun x => x.Id == id) t.Trips < 0
  · refine .inl ⟨h, fun k y hy => ?_⟩
    have := fixI_neg h y (List.mem_of_getElem? hy)
    simpa using this
  · obtain ⟨k, y, _, h2, h3, _⟩ := idx_fix h
    exact .inr ⟨k, y, h2, by simpa using h3⟩
/-! Draws -/
theorem network_ok {k : Nat} {c : l1Cur} (h : Cur k c) (hk : k ≤ 500000000) : ∃ r, s_l1Cur_network c = some r ∧ Cur (k + 300) r.2 ∧ NB r.1 := networkT_ok h hk
theorem network_t_ok {k : Nat} {c : l1Cur} (h : Cur k c) (hk : k ≤ 500000000) : ∃ r, s_l1Cur_network_t c = some r ∧ Cur (k + 300) r.2 ∧ NB r.1 := networkT_ok h hk
theorem anyNet_ok {k : Nat} {c : l1Cur} (h : Cur k c) (hk : k ≤ 200000000) : Tot (s_l1Cur_anyNetwork c) fun r => Cur (k + 1000) r.2 ∧ Bd r.1 := anyNetwork_ok h hk
def DT (t : Timetable) : Prop := Bd t.Network ∧ t.Trips.length ≤ 30
theorem DT.tb {t : Timetable} (h : DT t) : TB t := ⟨h.1, by have := h.2; omega⟩
theorem timetable_ok {k : Nat} {c : l1Cur} (h : Cur k c) (hk : k ≤ 100000000) : Tot (s_l1Cur_timetable c) fun r => Cur (k + 400) r.2 ∧ DT r.1 ∧ NB r.1.Network ∧ r.1.Trips.length ≤ 8 := by
  unfold s_l1Cur_timetable
  refine .call (networkT_ok h (by omega)) fun r ⟨hc, hn⟩ => .call (pick_ok 8 hc (by omega)) fun r1 ⟨hc1, h0, h1⟩ => ?_
  refine .call (P := fun o => Cur (k + 400) ⟨o.1, o.2.1, ⟨o.2.2.1⟩⟩ ∧ o.2.2.2.length ≤ 8) ?_ fun o ⟨ho1, ho2⟩ => .ok ⟨ho1, ⟨hn.bd, by show o.2.2.2.length ≤ 30; omega⟩, hn, ho2⟩
  refine .iter (fun m s => s.2.1 = (m : Int) ∧ m + s.2.2.2.2.2.length ≤ 8 ∧ Cur (k + 302 + 6 * (8 - m)) ⟨s.2.2.1, s.2.2.2.1, ⟨s.2.2.2.2.1⟩⟩) (n := r1.1.toNat) ⟨by show r1.1 = _; omega, by show r1.1.toNat + 0 ≤ 8; omega, hc1.mono (by omega)⟩ ?_
  rintro m ⟨n, v, v1, v2, v3, v4⟩ ⟨hv, hl, hcur⟩
  simp only at hv hl hcur
  subst hv
  unfold s_l1Cur_timetable_L1
  refine .iteP (fun hc => ?_) (fun hc => .dn ⟨hcur.mono (by omega), by show v4.length ≤ 8; omega⟩)
  refine .call (pick_ok 3 hcur (by omega)) fun r2 ⟨hc2, _⟩ => .call (pick_ok _ hc2 (by omega)) fun r5 ⟨hc5, _⟩ => .call (pick_ok 24 hc5 (by omega)) fun r6 ⟨hc6, _⟩ => .chk (by simp; omega) (.nx ⟨m - 1, by omega, ?_, ?_, ?_⟩)
  · show w64 ((m : Int) - 1) = _; rw [w64_id (by omega)]; omega
  · show m - 1 + (v4 ++ [_]).length ≤ 8; simp; omega
  · exact hc6.mono (by omega)
theorem anyTimetable_ok {k : Nat} {c : l1Cur} (h : Cur k c) (hk : k ≤ 50000000) : Tot (s_l1Cur_anyTimetable c) fun r => Cur (k + 2000) r.2 ∧ DT r.1 := by
  unfold s_l1Cur_anyTimetable
  refine .call (timetable_ok h (by omega)) fun r ⟨hc, hd, hn, hl⟩ => ?_
  refine .ite (fun _ => .ok ⟨hc.mono (by omega), hd⟩) fun he => ?_
  have hpos : 0 < r.1.Trips.length := by
    have : (r.1.Trips.length : Int) ≠ 0 := by simpa using he
    omega
  refine .call (pick_ok _ hc (by omega)) fun r1 ⟨hc1, h10, h11⟩ => ?_
  have h12 : r1.1 < (r.1.Trips.length : Int) := by omega
  refine .idx h10 h12 fun e _ => ?_
  have fin : ∀ (v : List UInt8) (v1 v2 : Int) (v3 : List Line) (v4 v5 v6 : Int) (v7 : List ByteArray), Cur (k + 2000) ⟨v, v1, ⟨v2⟩⟩ → Bd ⟨v7, v3⟩ → Tot ((idx r.1.Trips r1.1).bind fun e2 => some ((⟨(⟨v7, v3⟩ : Network), (r.1.Trips.set r1.1.toNat (⟨v4, v5, v6⟩ : Trip))⟩ : Timetable), (⟨v, v1, (⟨v2⟩ : IK .u64)⟩ : l1Cur))) fun r => Cur (k + 2000) r.2 ∧ DT r.1 := fun v v1 v2 v3 v4 v5 v6 v7 q1 q2 =>
    .idx h10 h12 fun e2 _ => .ok ⟨q1, q2, by show (r.1.Trips.set _ _).length ≤ 30; rw [List.length_set]; omega⟩
  refine .flb (.call (pick_ok 24 hc1 (by omega)) fun r2 ⟨hc2, _⟩ => ?_)
  refine .ite (fun _ => .call (among_ok _ (by simp) hc2 (by omega)) fun r3 ⟨hc3, _⟩ => .go (fin _ _ _ _ _ _ _ _ (hc3.mono (by omega)) hd.1)) fun _ => ?_
  refine .ite (fun _ => .call (pick_ok 7 hc2 (by omega)) fun r3 ⟨hc3, _⟩ => .go (fin _ _ _ _ _ _ _ _ (hc3.mono (by omega)) hd.1)) fun _ => ?_
  refine .ite (fun _ => .call (among_ok _ (by simp) hc2 (by omega)) fun r3 ⟨hc3, _⟩ => .go (fin _ _ _ _ _ _ _ _ (hc3.mono (by omega)) hd.1)) fun _ => ?_
  refine .ite (fun _ => .call (anyNet_ok hc2 (by omega)) fun r3 ⟨hc3, hb⟩ => .go (fin _ _ _ _ _ _ _ _ (hc3.mono (by omega)) hb)) fun _ => ?_
  refine .ite (fun _ => ?_) fun _ => .go (fin _ _ _ _ _ _ _ _ (hc2.mono (by omega)) hd.1)
  refine .call (P := fun o => Cur (k + 2000) ⟨o.1, o.2.1, ⟨o.2.2.1⟩⟩ ∧ o.2.2.2.length ≤ 30) ?_ fun o ⟨ho1, ho2⟩ => .ret ⟨ho1, hd.1, ho2⟩
  refine .iter (fun m s => ∃ i : Nat, s.1 = (i : Int) ∧ m + i = 14 ∧ s.2.2.2.2.length ≤ 8 + i ∧ Cur (k + 500 + 2 * i) ⟨s.2.1, s.2.2.1, ⟨s.2.2.2.1⟩⟩) (n := 14) ⟨0, rfl, rfl, by simpa using hl, hc2.mono (by omega)⟩ ?_
  rintro m ⟨v8, v9, v10, v11, v12⟩ ⟨i, hv, hm, hl12, hcur⟩
  simp only at hv hl12 hcur
  subst hv
  unfold s_l1Cur_anyTimetable_L1
  refine .call (pick_ok 2 hcur (by omega)) fun r8 ⟨hc8, _⟩ => ?_
  refine .call (P := fun b => b = true → i < 14) (.ite (fun _ => .ok fun hb => by simp at hb; omega) fun _ => .ok fun hb => by cases hb) fun b hb => ?_
  refine .ite (fun ht => .chk (by simp; omega) (.nx ⟨m - 1, by have := hb ht; omega, i + 1, w64_succ (by omega), by have := hb ht; omega, ?_, hc8.mono (by omega)⟩)) (fun _ => .dn ⟨hc8.mono (by omega), by show v12.length ≤ 30; omega⟩)
  show (v12 ++ [_]).length ≤ 8 + (i + 1); simp; omega
theorem trips_ok {k : Nat} {c : l1Cur} (h : Cur k c) (hk : k ≤ 40000000) : Tot (s_l1Cur_trips c) fun r => Cur (k + 3000) r.2 ∧ DT r.1 := by
  unfold s_l1Cur_trips
  refine .call (one_ok 16 h (by omega)) fun r hc => ?_
  refine .ite (fun _ => .call (anyTimetable_ok hc (by omega)) fun r1 ⟨hc1, hd⟩ => .ok ⟨hc1.mono (by omega), hd⟩) fun _ => ?_
  refine .call (networkT_ok hc (by omega)) fun r2 ⟨hc2, hn⟩ => .call (pick_ok 6 hc2 (by omega)) fun r3 ⟨hc3, h30, h31⟩ => ?_
  refine .call (P := fun o => Cur (k + 3000) ⟨o.1, o.2.1, ⟨o.2.2.1⟩⟩ ∧ o.2.2.2.length ≤ 10) ?_ fun o ⟨ho1, ho2⟩ => ?_
  · refine .iter (fun m s => s.1 = (m : Int) ∧ m + s.2.2.2.2.length ≤ 10 ∧ Cur (k + 310 + 6 * (10 - m)) ⟨s.2.1, s.2.2.1, ⟨s.2.2.2.1⟩⟩) (n := 3 + r3.1.toNat) ⟨by show w64 (3 + r3.1) = _; rw [w64_id (by omega)]; omega, by show 3 + r3.1.toNat + 0 ≤ 10; omega, hc3.mono (by omega)⟩ ?_
    rintro m ⟨i, v, v1, v2, v3⟩ ⟨hv, hl, hcur⟩
    simp only at hv hl hcur
    subst hv
    unfold s_l1Cur_trips_L1
    refine .iteP (fun hc => ?_) (fun hc => .dn ⟨hcur.mono (by omega), by show v3.length ≤ 10; omega⟩)
    refine .call (pick_ok 2 hcur (by omega)) fun r7 ⟨hc7, _⟩ => .call (pick_ok _ hc7 (by omega)) fun r8 ⟨hc8, _⟩ => .call (pick_ok 16 hc8 (by omega)) fun r9 ⟨hc9, _⟩ => .chk (by simp; omega) (.nx ⟨m - 1, by omega, ?_, ?_, ?_⟩)
    · show w64 ((m : Int) - 1) = _; rw [w64_id (by omega)]; omega
    · show m - 1 + (v3 ++ [_]).length ≤ 10; simp; omega
    · exact hc9.mono (by omega)
  · refine .call (P := fun l => l.length ≤ 10) ?_ fun l hl => .ok ⟨ho1, hn.bd, by show l.length ≤ 30; omega⟩
    refine .iter (fun m s => ∃ i : Nat, s.1 = (i : Int) ∧ 1 ≤ i ∧ m + i = 11 ∧ s.2.length ≤ 10) (n := 10) ⟨1, rfl, by omega, by omega, ho2⟩ ?_
    rintro m ⟨x, v8⟩ ⟨i, hx, h1, hm, hl⟩
    simp only at hx hl
    subst hx
    unfold s_l1Cur_trips_L2
    refine .iteP (fun hc => ?_) (fun hc => .dn hl)
    have e1 : w64 ((i : Int) - 1) = (i : Int) - 1 := w64_id (by omega)
    refine .idx (by omega) hc fun e _ => ?_
    rw [e1]
    refine .idx (by omega) (by omega) fun e2 _ => ?_
    refine .call (P := fun _ => True) ?_ fun r11 _ => .idx (by omega) hc fun e3 _ => .nx ⟨m - 1, by omega, i + 1, w64_succ (by omega), by omega, by omega, by show (v8.set _ _).length ≤ 10; rw [List.length_set]; exact hl⟩
    unfold s_l1Most
    exact .ite (fun _ => .ok trivial) fun _ => .ok trivial
theorem idOf_ok {k : Nat} {c : l1Cur} (t : Timetable) (h : Cur k c) (hk : k ≤ 1000000000) : Tot (s_l1Cur_idOf c t) fun r => Cur (k + 4) r.2 := by
  unfold s_l1Cur_idOf
  refine .call (P := fun o => Cur (k + 2) ⟨o.2.1, o.2.2.1, ⟨o.2.2.2⟩⟩ ∧ (o.1 = false → 0 < t.Trips.length)) (.ite (fun _ => .ok ⟨h.mono (by omega), fun h => by cases h⟩) fun he => .call (one_ok 8 h (by omega)) fun r hc => .ok ⟨hc, fun _ => ?_⟩) fun o ⟨ho, hz⟩ => ?_
  · have : (t.Trips.length : Int) ≠ 0 := by simpa using he
    omega
  · refine .ite (fun _ => .call (pick_ok 30 ho (by omega)) fun r1 ⟨hc1, _⟩ => .ok (hc1.mono (by omega))) fun hf => ?_
    have := hz hf
    refine .call (pick_ok _ ho (by omega)) fun r3 ⟨hc3, h0, h1⟩ => .idx h0 (by omega) fun e _ => .ok (hc3.mono (by omega))
/-! What many laws lean on: draws in the style of Tot, lists held against themselves, comparisons. -/
theorem t_pick {k : Nat} {c : l1Cur} (n : Int) (h : Cur k c) (hk : k ≤ 3000000000) : Tot (s_l1Cur_pick c n) fun r => Cur (k + 2) r.2 ∧ 0 ≤ r.1 ∧ (r.1 < n ∨ r.1 = 0) := pick_ok n h hk
theorem t_one {k : Nat} {c : l1Cur} (n : Int) (h : Cur k c) (hk : k ≤ 3000000000) : Tot (s_l1Cur_one c n) fun r => Cur (k + 2) r.2 := one_ok n h hk
theorem t_among {k : Nat} {c : l1Cur} (l : List Int) (hl : l ≠ []) (h : Cur k c) (hk : k ≤ 3000000000) : Tot (s_l1Cur_among c l) fun r => Cur (k + 2) r.2 ∧ r.1 ∈ l := among_ok l hl h hk
theorem t_amongw {k : Nat} {c : l1Cur} (l : List Int) (hl : l ≠ []) (h : Cur k c) (hk : k ≤ 3000000000) : Tot (s_l1Cur_among_w c l) fun r => Cur (k + 2) r.2 ∧ r.1 ∈ l := amongw_ok l hl h hk
theorem vBig_eq (code : List UInt8) : v_vBig code = some (decide (65536 < (code.length : Int))) := rfl
theorem idx0 {α : Type} (l : List α) : idx l 0 = l[0]? := idx_nat l 0
/-! Journeys: what is drawn. -/
theorem line_stop {st : Nat} {l : Line} (h : LineP st l) {j : Nat} {s : Int} (hs : l.Stops[j]? = some s) : 0 ≤ s ∧ s < (st : Int) := (h.2.2.1 j s hs).1
theorem arrL2_ok {t : Timetable} (hT : GoodT t) {i : Nat} {x : Trip} {l : Line} (hx : t.Trips[i]? = some x) (hl : idx t.Network.Lines x.Line = some l) (hp : LineP t.Network.Stops.length l) (hs : 0 ≤ x.Start ∧ x.Start ≤ 1799) (from_ at_ : Int) (b k : List Int) (s1 : Int)
    (hb : b.length = t.Network.Stops.length) (hk : k.length = t.Network.Stops.length) : Tot (iter (s_l8Arrivals_L2 t from_ at_ b s1 (i : Int) l.Stops) (false, (0 : Int), k)) fun r => r.length = t.Network.Stops.length := by
  obtain ⟨⟨r1, r2, r3⟩, _⟩ := line_runs hp
  refine .iter (fun m s => ∃ j : Nat, s.2.1 = (j : Int) ∧ m + j = l.Stops.length ∧ s.2.2.length = t.Network.Stops.length) (n := l.Stops.length) ⟨0, rfl, by omega, hk⟩ ?_
  rintro m ⟨on, v, k⟩ ⟨j, hv, hm, hk⟩
  simp only at hv hk
  subst hv
  unfold s_l8Arrivals_L2
  refine .iteP (fun hc => ?_) (fun hc => .dn hk)
  obtain ⟨s, hsj⟩ := get_ex (l := l.Stops) (i := j) (by omega)
  have hr := line_stop hp hsj
  refine .eq (ixs hsj) (.eq (l5At_eq hT.1 hx hl hs (k := j) (by omega)) ?_)
  refine .call (P := fun k' => k'.length = t.Network.Stops.length) ?_ fun k' hk' => ?_
  · refine .call (P := fun _ => True) ?_ fun b _ => .ite (fun _ => .idx hr.1 (by omega) fun e _ => .ok (by rw [List.length_set]; exact hk)) fun _ => .ok hk
    exact .ite (fun _ => .idx hr.1 (by omega) fun e _ => .iteP (fun _ => .ok trivial) fun _ => .idx hr.1 (by omega) fun e _ => .ok trivial) fun _ => .ok trivial
  refine .idx hr.1 (by omega) fun e7 _ => .call (P := fun _ => True) (.ite (fun _ => .ok trivial) fun _ => .ok trivial) fun v2 _ => ?_
  refine .ite (fun _ => .nx ?_) fun _ => .idx hr.1 (by omega) fun e8 _ => .iteP (fun _ => .nx ?_) fun _ => .nx ?_
  all_goals exact ⟨m - 1, by omega, j + 1, w64_succ (by omega), by omega, hk'⟩
theorem arrivals_ok {t : Timetable} (hT : GoodT t) (change : Int) {from_ : Int} (hf : 0 ≤ from_ ∧ from_ < (t.Network.Stops.length : Int)) (at_ : Int) {legs : Int} (hlegs : 0 ≤ legs ∧ legs ≤ 4) : Tot (s_l8Arrivals t change from_ at_ legs) fun r => r.length = t.Network.Stops.length := by
  have h8 := hT.1.1
  have h12 := hT.2.1
  unfold s_l8Arrivals
  refine .chk (by omega) (.call (P := fun r => r.length = t.Network.Stops.length) ?_ fun i1 h1 => .idx hf.1 (by omega) fun e1 _ => .call (P := fun r => r.length = t.Network.Stops.length) ?_ fun i3 h3 => .ok h3)
  · refine .iter (fun m s => ∃ j : Nat, s.1 = (j : Int) ∧ m + j = t.Network.Stops.length ∧ s.2.length = t.Network.Stops.length) (n := t.Network.Stops.length) ⟨0, rfl, by omega, by simp⟩ ?_
    rintro m ⟨v, k⟩ ⟨j, hv, hm, hk⟩
    simp only at hv hk
    subst hv
    unfold s_l8Arrivals_L1
    exact .iteP (fun hc => .idx (by omega) hc fun e _ => .nx ⟨m - 1, by omega, j + 1, w64_succ (by omega), by omega, by dsimp only; rw [List.length_set]; exact hk⟩) (fun hc => .dn hk)
  · refine .iter (fun m s => ∃ j : Nat, s.1 = (j : Int) ∧ m + j = legs.toNat ∧ s.2.length = t.Network.Stops.length) (n := legs.toNat) ⟨0, rfl, by omega, by dsimp only; rw [List.length_set]; exact h1⟩ ?_
    rintro m ⟨v, k⟩ ⟨j, hv, hm, hk⟩
    simp only at hv hk
    subst hv
    unfold s_l8Arrivals_L4
    refine .iteP (fun hc => .chk (by simp; omega) (.call (P := fun _ => True) (.ite (fun _ => .ok trivial) fun _ => .ok trivial) fun s1 _ => .call (P := fun r => r.length = t.Network.Stops.length) ?_ fun k4 h4 => .nx ⟨m - 1, by omega, j + 1, w64_succ (by omega), by omega, h4⟩)) (fun hc => .dn hk)
    refine .iter (fun m s => ∃ j : Nat, s.1 = (j : Int) ∧ m + j = t.Trips.length ∧ s.2.length = t.Network.Stops.length) (n := t.Trips.length) ⟨0, rfl, by omega, by simpa using hk⟩ ?_
    rintro m ⟨v, k'⟩ ⟨q, hv, hm, hk'⟩
    simp only at hv hk'
    subst hv
    unfold s_l8Arrivals_L3
    refine .iteP (fun hc => ?_) (fun hc => .dn hk')
    obtain ⟨x, hx⟩ := get_ex (l := t.Trips) (i := q) (by omega)
    obtain ⟨l, hl, hp, hid, hs, _⟩ := trip_line hT hx
    exact .eq (l5Stops_eq hx hl) (.call (arrL2_ok hT hx hl hp hs _ _ _ _ _ hk hk') fun k3 h3 => .nx ⟨m - 1, by omega, q + 1, w64_succ (by omega), by omega, h3⟩)
theorem l8Leg_ok {t : Timetable} (hT : GoodT t) {i : Nat} {x : Trip} {l : Line} (hx : t.Trips[i]? = some x) (hl : idx t.Network.Lines x.Line = some l) {a b : Nat} {p q : Int} (ha : l.Stops[a]? = some p) (hb : l.Stops[b]? = some q) : s_l8Leg t (i : Int) (a : Int) (b : Int) = some ⟨x.Id, p, q, x.Start + (l.Runs.take a).sum, x.Start + (l.Runs.take b).sum⟩ := by
  obtain ⟨l', hl', hp, _, hs, _⟩ := trip_line hT hx
  rw [hl] at hl'; cases hl'
  obtain ⟨⟨r1, r2, r3⟩, _⟩ := line_runs hp
  have := get_lt ha; have := get_lt hb
  unfold s_l8Leg
  simp only [l5Stops_eq hx hl, Option.bind_some, idx_nat, hx, ha, hb, l5At_eq hT.1 hx hl hs (k := a) (by omega), l5At_eq hT.1 hx hl hs (k := b) (by omega)]
theorem ext_ok (x : l8Search) (hT : GoodT x.t_) : ∀ (k m : Nat), 1 ≤ m → m ≤ k → m ≤ 100 → ∀ (legs : List Leg) (stop at_ : Int), legs.length + m ≤ 1000 → Tot (s_l8Search_extend_w_k k x legs stop at_ (m : Int)) fun r => r.length ≤ legs.length + m
  | 0, m, h1, h2, _, _, _, _, _ => by omega
  | k + 1, m, h1, h2, h3, legs, stop, at_, h4 => by
    have h8 := hT.1.1
    have h12 := hT.2.1
    show Tot (s_l8Search_extend_w_F (s_l8Search_extend_w_k k) x legs stop at_ (m : Int)) _
    unfold s_l8Search_extend_w_F
    refine .flb ((Tot.iter (fun n (s : Int) => ∃ j : Nat, s = (j : Int) ∧ n + j = x.t_.Trips.length) (Q := fun b => ∀ r, b = .ret r → r.length ≤ legs.length + m) (n := x.t_.Trips.length) ⟨0, rfl, by omega⟩ ?_).mono fun b hb => ⟨fun r e => hb r e, fun u _ => .ok (by simp)⟩)
    rintro n s ⟨j, rfl, hm⟩
    unfold s_l8Search_extend_w_L3
    refine .iteP (fun hc => ?_) (fun hc => .dn (fun r e => by cases e))
    obtain ⟨tr, hx⟩ := get_ex (l := x.t_.Trips) (i := j) (by omega)
    obtain ⟨l, hl, hp, hid, hs, _⟩ := trip_line hT hx
    obtain ⟨⟨r1, r2, r3⟩, _⟩ := line_runs hp
    refine .flb ?_
    refine .call (P := fun _ => True) ?_ fun b1 _ => ?_
    · refine .iter (fun n s => ∃ q : Nat, s.2 = (q : Int) ∧ n + q = legs.length) (n := legs.length) ⟨0, rfl, by omega⟩ ?_
      rintro n' ⟨b, v⟩ ⟨q, hv, hn⟩
      simp only at hv
      subst hv
      unfold s_l8Search_extend_w_L1
      refine .iteP (fun hc => .ite (fun _ => .nx ⟨n' - 1, by omega, q + 1, w64_succ (by omega), by omega⟩) fun _ => .idx (by omega) hc fun e _ => .eq (ixs hx) (.nx ⟨n' - 1, by omega, q + 1, w64_succ (by omega), by omega⟩)) (fun hc => .dn trivial)
    refine .eq (l5Line_eq hx hl) (.eq (l2Place_eq l (by omega) stop) ?_)
    have hr := fixI_rng (fun e => stop == e) l.Stops
    revert hr
    generalize fixI (fun e => stop == e) l.Stops = p
    intro hr
    refine .call (P := fun b => b = false → 0 ≤ p) ?_ fun v hv => ?_
    · refine .ite (fun _ => .ok fun h => by cases h) fun _ => .iteP (fun _ => .ok fun h => by cases h) fun hp0 => ?_
      obtain ⟨a, ha⟩ : ∃ a : Nat, p = a := ⟨p.toNat, by omega⟩
      subst ha
      exact .eq (l5At_eq hT.1 hx hl hs (k := a) (by omega)) (.ok fun _ => by omega)
    refine .ite (fun _ => .ok ⟨fun r e => (by cases e), fun u _ => .nx ⟨n - 1, by omega, j + 1, w64_succ (by omega), by omega⟩⟩) fun hf => ?_
    have hp0 := hv hf
    obtain ⟨a, ha⟩ : ∃ a : Nat, p = a := ⟨p.toNat, by omega⟩
    subst ha
    refine .eq (l5Stops_eq hx hl) (.flb ((Tot.iter (fun n (s : Int) => ∃ q : Nat, s = (q : Int) ∧ n + q = x.t_.Network.Stops.length) (Q := fun b => ∀ r, b = .ret r → ∃ w, r = .ret (.dn (.ret w)) ∧ w.length ≤ legs.length + m) (n := x.t_.Network.Stops.length) ⟨0, rfl, by omega⟩ ?_).mono fun b hb => ⟨fun r e => ?_, fun u _ => .ok ⟨fun r e => (by cases e), fun u _ => .nx ⟨n - 1, by omega, j + 1, w64_succ (by omega), by omega⟩⟩⟩))
    · rintro n' s ⟨q, rfl, hq⟩
      unfold s_l8Search_extend_w_L2
      refine .iteP (fun hc2 => ?_) (fun hc2 => .dn (fun r e => by cases e))
      refine .flb (.eq (l5Line_eq hx hl) (.eq (l2Place_eq l (by omega) _) ?_))
      have hr5 := fixI_rng (fun e => (q : Int) == e) l.Stops
      revert hr5
      generalize fixI (fun e => (q : Int) == e) l.Stops = p5
      intro hr5
      refine .call (P := fun b => b = false → (a : Int) < p5 ∧ p5 < (l.Stops.length : Int)) ?_ fun v hv => ?_
      · refine .iteP (fun _ => .ok fun h => by cases h) fun h5 => .iteP (fun _ => .ok fun h => by cases h) fun h6 => ?_
        obtain ⟨b, hb⟩ : ∃ b : Nat, p5 = b := ⟨p5.toNat, by omega⟩
        subst hb
        exact .eq (l5At_eq hT.1 hx hl hs (k := b) (by omega)) (.ok fun _ => by omega)
      have go : Tot (some (Lp.nx (w64 ((q : Int) + 1))) : Option (Lp Int (Fl (Fl (Lp Int (Fl (List Leg) Unit)) Unit) Unit))) fun r => (∀ a', r = .nx a' → ∃ k', k' < n' ∧ ∃ q : Nat, a' = (q : Int) ∧ k' + q = x.t_.Network.Stops.length) ∧ ∀ b, r = .dn b → ∀ r, b = .ret r → ∃ w, r = .ret (.dn (.ret w)) ∧ w.length ≤ legs.length + m := .nx ⟨n' - 1, by omega, q + 1, w64_succ (by omega), by omega⟩
      refine .ite (fun _ => .ok ⟨fun r e => (by cases e), fun u _ => go⟩) fun hf => ?_
      obtain ⟨g1, g2⟩ := hv hf
      obtain ⟨b, hb⟩ : ∃ b : Nat, p5 = b := ⟨p5.toNat, by omega⟩
      subst hb
      obtain ⟨s1, hs1⟩ := get_ex (l := l.Stops) (i := a) (by omega)
      obtain ⟨s2, hs2⟩ := get_ex (l := l.Stops) (i := b) (by omega)
      refine .eq (l8Leg_ok hT hx hl hs1 hs2) (.chk (by simp; omega) (.chk (by simp; omega) (.ite (fun hone => ?_) fun hone => ?_)))
      · refine .call (P := fun _ => True) (.ite (fun _ => .ok trivial) fun _ => .ok trivial) fun v3 _ => .ite (fun _ => .ok ⟨fun r e => ?_, fun u e => (by cases e)⟩) fun _ => .ok ⟨fun r e => (by cases e), fun u _ => go⟩
        cases e
        refine ⟨fun a' e => (by cases e), fun b' e r e' => ?_⟩
        cases e; cases e'
        exact ⟨_, rfl, by simp; omega⟩
      · have hm1 : m ≠ 1 := fun e => by subst e; simp at hone
        have ew : w64 ((m : Int) - 1) = ((m - 1 : Nat) : Int) := by rw [w64_id (by omega)]; omega
        rw [ew]
        refine .call (ext_ok x hT k (m - 1) (by omega) (by omega) (by omega) _ _ _ (by simp; omega)) fun r14 h14 => .iteP (fun _ => .ok ⟨fun r e => ?_, fun u e => (by cases e)⟩) fun _ => .ok ⟨fun r e => (by cases e), fun u _ => go⟩
        cases e
        refine ⟨fun a' e => (by cases e), fun b' e r e' => ?_⟩
        cases e; cases e'
        exact ⟨_, rfl, by simp at h14; omega⟩
    · obtain ⟨w, rfl, hw⟩ := hb r e
      refine ⟨fun r' e' => ?_, fun u e' => by cases e'⟩
      cases e'
      exact ⟨fun a' e => (by cases e), fun b' e r e' => by cases e; cases e'; exact hw⟩
theorem ext_eq (x : l8Search) (legs : List Leg) (stop at_ more : Int) : s_l8Search_extend x legs stop at_ more = s_l8Search_extend_w_k 4294967297 x legs stop at_ more := rfl
theorem first_ok {t : Timetable} (hT : GoodT t) (change from_ to at_ arrive : Int) {legs : Int} (hl : 1 ≤ legs ∧ legs ≤ 4) : Tot (s_l8First t change from_ to at_ arrive legs) fun r => r.length ≤ 4 := by
  unfold s_l8First
  obtain ⟨m, rfl⟩ : ∃ m : Nat, legs = m := ⟨legs.toNat, by omega⟩
  rw [ext_eq]
  refine .call (ext_ok ⟨t, change, to, arrive⟩ hT 4294967297 m (by omega) (by omega) (by omega) [] from_ at_ (by simp; omega)) fun r hr => .ok ?_
  simp at hr; omega
theorem best_ok {t : Timetable} (hT : GoodT t) (change : Int) {from_ to : Int} (hf : 0 ≤ from_ ∧ from_ < (t.Network.Stops.length : Int)) (ht : 0 ≤ to ∧ to < (t.Network.Stops.length : Int)) (at_ : Int) : Tot (s_l8Best t change from_ to at_) fun r => r.length ≤ 4 := by
  unfold s_l8Best
  refine .call (arrivals_ok hT change hf at_ (by omega)) fun r hr => .idx ht.1 (by omega) fun e _ => .iteP (fun _ => .ok (by simp)) fun _ => ?_
  refine .flb ((Tot.iter (fun m (s : Int) => ∃ j : Nat, s = (j : Int) ∧ 1 ≤ j ∧ m + j = 5) (Q := fun b => ∀ r, b = .ret r → r.length ≤ 4) (n := 4) ⟨1, rfl, by omega, by omega⟩ ?_).mono fun b hb => ⟨fun r e => hb r e, fun u _ => .ok (by simp)⟩)
  rintro m s ⟨j, rfl, h1, hm⟩
  unfold s_l8Best_L1
  refine .iteP (fun hc => .call (arrivals_ok hT change hf at_ (by omega)) fun r1 hr1 => .idx ht.1 (by omega) fun e1 _ => .ite (fun _ => .call (first_ok hT change from_ to at_ e (by omega)) fun r2 hr2 => .dn fun r e => by cases e; exact hr2) fun _ => .nx ⟨m - 1, by omega, j + 1, w64_succ (by omega), by omega, by omega⟩) (fun hc => .dn fun r e => by cases e)
theorem asked_eq {t : Timetable} (hb : TB t) (change : Int) : s_l8Asked t change = some (decide (GoodT t ∧ 0 ≤ change ∧ change ≤ 30)) := by
  unfold s_l8Asked
  simp only [goodT_eq hb, l1In_eq, Option.bind_some]
  by_cases h : GoodT t <;> simp [h]
theorem most_eq (a b : Int) : s_l1Most a b = some (max a b) := by
  unfold s_l1Most
  refine Tot.val (.iteP (fun h => .ok ?_) fun h => .ok ?_) <;> omega
theorem change_ok {k : Nat} {c : l1Cur} (h : Cur k c) (hk : k ≤ 1000000) : Tot (s_l1Cur_change c) fun r => Cur (k + 2) r.2 := by
  unfold s_l1Cur_change
  exact .call (t_among _ (by simp) h (by omega)) fun r hr => .ok hr.1
theorem legs_ok {k : Nat} {c : l1Cur} (h : Cur k c) (hk : k ≤ 1000000) {t : Timetable} (hb : TB t) (change : Int) : Tot (s_l1Cur_legs c t change) fun r => Cur (k + 40) r.2 ∧ r.1.length ≤ 5 := by
  unfold s_l1Cur_legs
  refine .eq (asked_eq hb change) (.call (P := fun b => b = false → GoodT t ∧ 0 < t.Network.Stops.length) (.iteN (fun _ => .ok fun h => by cases h) fun hA => .ok fun hz => ⟨hA.1, by simpa [Nat.pos_iff_ne_zero] using hz⟩) fun v hv => .ite (fun _ => .ok ⟨h.mono (by omega), by simp⟩) fun hf => ?_)
  obtain ⟨hT, hpos⟩ := hv hf
  have h8 := hT.1.1
  refine .call (t_pick _ h (by omega)) fun r1 ⟨hc1, a1, a2⟩ => .eq (most_eq _ _) (.call (t_pick _ hc1 (by omega)) fun r7 ⟨hc7, b1, b2⟩ => .chk (by omega) (.call (t_pick 8 hc7 (by omega)) fun r8 ⟨hc8, c1, c2⟩ => ?_))
  have ew : w64 ((t.Network.Stops.length : Int) - 1) = (t.Network.Stops.length : Int) - 1 := w64_id (by omega)
  rw [ew] at b2
  have ht := tmod_rng (a := w64 (w64 (r1.1 + 1) + r7.1)) (b := (t.Network.Stops.length : Int)) (by rw [w64_id (x := r1.1 + 1) (by omega), w64_id (by omega)]; omega) (by omega)
  refine .call (best_ok hT change (from_ := r1.1) ⟨a1, by omega⟩ ht _) fun r9 h9 => ?_
  refine .call (P := fun o => Cur (k + 40) ⟨o.1, o.2.1, ⟨o.2.2.1⟩⟩ ∧ o.2.2.2.length ≤ 5) ?_ fun o ho => .ok ho
  refine .call (P := fun o => Cur (k + 8) ⟨o.2.1, o.2.2.1, ⟨o.2.2.2⟩⟩ ∧ (o.1 = true → 0 < r9.length)) (.iteP (fun h0 => .call (t_one 5 hc8 (by omega)) fun r10 h10 => .ok ⟨h10.mono (by omega), fun _ => by omega⟩) fun _ => .ok ⟨hc8.mono (by omega), fun h => (by cases h)⟩) fun ⟨v5, v6, v7, v8⟩ ⟨hc5, h5⟩ => ?_
  dsimp only at hc5 h5 ⊢
  refine .ite (fun hv5 => ?_) fun _ => .ok ⟨hc5.mono (by omega), by dsimp only; omega⟩
  have hp9 := h5 hv5
  refine .call (t_pick _ hc5 (by omega)) fun r11 ⟨hc11, d1, d2⟩ => .idx d1 (by omega) fun e _ => ?_
  refine .call (P := fun o => Cur (k + 40) ⟨o.1, o.2.1, ⟨o.2.2.1⟩⟩ ∧ r9.length ≤ o.2.2.2.1.length ∧ o.2.2.2.1.length ≤ 5) ?_ fun ⟨w1, w2, w3, w4, w5, w6, w7⟩ ⟨g1, g2, g3⟩ => (by
    dsimp only at g1 g2 g3 ⊢
    exact .idx d1 (by omega) fun e1 _ => .ok ⟨g1, by dsimp only; rw [List.length_set]; exact g3⟩)
  refine .call (t_pick 4 hc11 (by omega)) fun r12 ⟨hc12, _⟩ => ?_
  refine .ite (fun _ => .ok ⟨hc12.mono (by omega), by dsimp only; omega, by dsimp only; omega⟩) fun _ => .ite (fun _ => .call (t_pick _ hc12 (by omega)) fun r13 ⟨hc13, _⟩ => .ok ⟨hc13.mono (by omega), by dsimp only; omega, by dsimp only; omega⟩) fun _ => .ite (fun _ => .chk (by simp; omega) (.ok ⟨hc12.mono (by omega), by simp, by simp; omega⟩)) fun _ => ?_
  exact .call (idOf_ok t hc12 (by omega)) fun r14 h14 => .ok ⟨h14.mono (by omega), by dsimp only; omega, by dsimp only; omega⟩
/-! Journeys: when legs are one. -/
def fl (x : Trip) (l : Line) (from_ to : Int) : Leg × Bool :=
  if fixI (fun e => from_ == e) l.Stops < 0 ∨ fixI (fun e => to == e) l.Stops ≤ fixI (fun e => from_ == e) l.Stops then (⟨0, 0, 0, 0, 0⟩, false)
  else (⟨x.Id, from_, to, x.Start + (l.Runs.take (fixI (fun e => from_ == e) l.Stops).toNat).sum, x.Start + (l.Runs.take (fixI (fun e => to == e) l.Stops).toNat).sum⟩, true)
theorem or2 {A B : Prop} [Decidable A] [Decidable B] : (if (decide A) = true then some true else some (decide B)) = some (decide (A ∨ B)) := by
  by_cases a : A <;> simp [a]
theorem fillLeg_eq {t : Timetable} (hT : GoodT t) {i : Nat} {x : Trip} {l : Line} (hx : t.Trips[i]? = some x) (hl : idx t.Network.Lines x.Line = some l) (from_ to : Int) : i_fillLeg t x from_ to = some (fl x l from_ to) := by
  obtain ⟨l', hl', hp, _, hs, _⟩ := trip_line hT hx
  rw [hl] at hl'; cases hl'
  obtain ⟨⟨r1, r2, r3⟩, _⟩ := line_runs hp
  have q1 := fixI_rng (fun e => from_ == e) l.Stops
  have q2 := fixI_rng (fun e => to == e) l.Stops
  unfold i_fillLeg fl
  rw [lineOf_eq hl]
  simp only [Option.bind_some, index_int_eq l.Stops (by omega), or2]
  revert q1 q2
  generalize fixI (fun e => from_ == e) l.Stops = p
  generalize fixI (fun e => to == e) l.Stops = q
  intro q1 q2
  by_cases h : p < 0 ∨ q ≤ p
  · simp only [h, decide_true, if_true]
  · obtain ⟨a, rfl⟩ : ∃ a : Nat, p = a := ⟨p.toNat, by omega⟩
    obtain ⟨b, rfl⟩ : ∃ b : Nat, q = b := ⟨q.toNat, by omega⟩
    simp only [h, decide_false, Bool.false_eq_true, if_false, stopTimes_eq hl hp hs, Option.bind_some, idx_nat, ST_at (l := l) (s := x.Start) (k := a) (by omega), ST_at (l := l) (s := x.Start) (k := b) (by omega), Int.toNat_natCast]
theorem fill_some {t : Timetable} (hb : TB t) (hT : GoodT t) {i : Nat} {x : Trip} {l : Line} (hx : t.Trips[i]? = some x) (hl : idx t.Network.Lines x.Line = some l) (from_ to : Int) : s_l8Fill t x.Id from_ to = some (fl x l from_ to) := by
  obtain ⟨l', hl', hp, _, hs, _⟩ := trip_line hT hx
  rw [hl] at hl'; cases hl'
  obtain ⟨⟨r1, r2, r3⟩, _⟩ := line_runs hp
  have q1 := fixI_rng (fun e => from_ == e) l.Stops
  have q2 := fixI_rng (fun e => to == e) l.Stops
  have c0 : ¬ ((i : Int) < 0) := by omega
  unfold s_l8Fill fl
  simp only [l5Find_eq t hb.2, trip_fix hT hx, Option.bind_some, c0, decide_false, Bool.false_eq_true, if_false, l5Line_eq hx hl, l2Place_eq l (by omega), or2]
  by_cases h : fixI (fun e => from_ == e) l.Stops < 0 ∨ fixI (fun e => to == e) l.Stops ≤ fixI (fun e => from_ == e) l.Stops
  · simp only [h, decide_true, if_true]
  · obtain ⟨a, ha⟩ : ∃ a : Nat, fixI (fun e => from_ == e) l.Stops = a := ⟨(fixI (fun e => from_ == e) l.Stops).toNat, by omega⟩
    obtain ⟨b, hb⟩ : ∃ b : Nat, fixI (fun e => to == e) l.Stops = b := ⟨(fixI (fun e => to == e) l.Stops).toNat, by omega⟩
    obtain ⟨u, u1, u2, _⟩ := fixI_at ha
    obtain ⟨w, w1, w2, _⟩ := fixI_at hb
    have eu : from_ = u := by simpa using u2
    have ew : to = w := by simpa using w2
    subst eu; subst ew
    simp only [h, decide_false, Bool.false_eq_true, if_false]
    rw [ha, hb]
    simp only [l8Leg_ok hT hx hl u1 w1, Option.bind_some, Int.toNat_natCast]
theorem fill_none {t : Timetable} (hb : TB t) {id : Int} (h : fixI (fun x => x.Id == id) t.Trips < 0) (from_ to : Int) : s_l8Fill t id from_ to = some (⟨0, 0, 0, 0, 0⟩, false) := by
  unfold s_l8Fill
  simp only [l5Find_eq t hb.2, Option.bind_some, h, decide_true, if_true]
/-- A leg is one of a trip. -/
def FillP (t : Timetable) (g : Leg) : Prop := ∃ (i : Nat) (x : Trip) (l : Line), t.Trips[i]? = some x ∧ idx t.Network.Lines x.Line = some l ∧ x.Id = g.Trip ∧ fl x l g.From g.To = (g, true)
def OrdQ (change : Int) (legs : List Leg) (i : Nat) (g : Leg) : Prop := ∀ p, 0 < i → legs[i - 1]? = some p → p.To = g.From ∧ ¬ g.Depart < w64 (p.Arrive + change)
noncomputable instance (change : Int) (legs : List Leg) (i : Nat) (g : Leg) : Decidable (OrdQ change legs i g) := Classical.propDecidable _
def LegQ (t : Timetable) (change : Int) (legs : List Leg) (i : Nat) (g : Leg) : Prop := FillP t g ∧ OrdQ change legs i g ∧ ∀ (j : Nat) p, j < i → legs[j]? = some p → p.Trip ≠ g.Trip
def JourneyP (t : Timetable) (change : Int) (legs : List Leg) : Prop := (1 ≤ legs.length ∧ legs.length ≤ 4) ∧ ∀ (i : Nat) g, legs[i]? = some g → LegQ t change legs i g
noncomputable instance (t : Timetable) (change : Int) (legs : List Leg) : Decidable (JourneyP t change legs) := Classical.propDecidable _
noncomputable instance (t : Timetable) (change : Int) (legs : List Leg) (i : Nat) (g : Leg) : Decidable (LegQ t change legs i g) := Classical.propDecidable _
noncomputable instance (a b : Leg) : Decidable (a = b) := Classical.propDecidable _
theorem leg_beq (a b : Leg) : ((a.Trip == b.Trip) && ((a.From == b.From) && ((a.To == b.To) && ((a.Depart == b.Depart) && ((a.Arrive == b.Arrive) && true))))) = decide (a = b) := by
  cases a; cases b
  simp only [Leg.mk.injEq, Bool.and_true]
  rw [Bool.eq_iff_iff]
  simp
/-- What is found of a leg's trip. -/
theorem leg_found {t : Timetable} (hb : TB t) (hT : GoodT t) (g : Leg) : (fixI (fun x => x.Id == g.Trip) t.Trips < 0 ∧ ¬ FillP t g) ∨ ∃ (i : Nat) (x : Trip) (l : Line), t.Trips[i]? = some x ∧ idx t.Network.Lines x.Line = some l ∧ x.Id = g.Trip ∧ fixI (fun x => x.Id == g.Trip) t.Trips = (i : Int) ∧ (FillP t g ↔ fl x l g.From g.To = (g, true)) := by
  rcases found_or (t := t) g.Trip with ⟨h1, h2⟩ | ⟨k, y, h1, h2⟩
  · left
    refine ⟨h1, ?_⟩
    rintro ⟨i, x, l, a, _, b, _⟩
    exact h2 i x a b
  · right
    obtain ⟨l, hl, _⟩ := trip_line hT h1
    have hf := trip_fix hT h1
    rw [h2] at hf
    refine ⟨k, y, l, h1, hl, h2, hf, ?_, fun h => ⟨k, y, l, h1, hl, h2, h⟩⟩
    rintro ⟨i, x, l', a, b, c, d⟩
    have hf2 := trip_fix hT a
    rw [c, hf] at hf2
    have : k = i := by omega
    subst this
    rw [h1] at a; cases a
    rw [hl] at b; cases b
    exact d
theorem contains_leg (l : List Leg) (h : l.length ≤ 1000) (c : Leg) : slices_ContainsFunc_Leg__i_isJourney_1 l c = some (decide (∃ p ∈ l, p.Trip = c.Trip)) := by
  unfold slices_ContainsFunc_Leg__i_isJourney_1 slices_ContainsFunc_Leg slices_IndexFunc_Leg
  rw [find_val l (fun x => x.Trip == c.Trip) (fun i x hx => ?_) (by unfold slices_IndexFunc_Leg_L1; simp)]
  · simp only [Option.bind_some]
    congr 1
    rw [decide_eq_decide]
    constructor
    · intro h0
      obtain ⟨k, hk⟩ : ∃ k : Nat, fixI (fun x : Leg => x.Trip == c.Trip) l = k := ⟨(fixI (fun x : Leg => x.Trip == c.Trip) l).toNat, by omega⟩
      obtain ⟨x, a, b, _⟩ := fixI_at hk
      exact ⟨x, List.mem_of_getElem? a, by simpa using b⟩
    · rintro ⟨p, hp, he⟩
      by_cases hn : fixI (fun x : Leg => x.Trip == c.Trip) l < 0
      · have := fixI_neg hn p hp
        simp [he] at this
      · omega
  · have := get_lt hx
    unfold slices_IndexFunc_Leg_L1 i_isJourney_1
    simp (disch := omega) only [if_pos, if_neg, decide_eq_true_eq, decide_true, decide_false, Bool.not_true, Bool.not_false, Bool.false_eq_true, Bool.not_eq_true', decide_eq_false_iff_not, if_true, if_false, w64_id, chk_of, idx_nat, Option.bind_some, Option.map_some, Int.toNat_natCast, not_true_eq_false, not_false_eq_true, true_and, and_true, and_self, false_and, and_false, reduceIte, flb_go, flb_ret, beq_self_eq_true, ne_eq, bne_self_eq_false, hx, Int.ofNat_lt.2 this]
    split <;> simp [*] <;> omega
theorem ij_step {t : Timetable} (hb : TB t) (hT : GoodT t) (change : Int) (legs : List Leg) (h4 : legs.length ≤ 4) {j : Nat} {g : Leg} (hg : legs[j]? = some g) : i_isJourney_L1 t change legs (j : Int) = some (if LegQ t change legs j g then .nx ((j + 1 : Nat) : Int) else .dn (.ret false)) := by
  have hj := get_lt hg
  have no : ¬ LegQ t change legs j g → (Lp.dn (Fl.ret false) : Lp Int (Fl Bool Unit)) = if LegQ t change legs j g then .nx ((j + 1 : Nat) : Int) else .dn (.ret false) := fun h => (by rw [if_neg h])
  have yes : LegQ t change legs j g → (Lp.nx (w64 ((j : Int) + 1)) : Lp Int (Fl Bool Unit)) = if LegQ t change legs j g then .nx ((j + 1 : Nat) : Int) else .dn (.ret false) := fun h => (by rw [if_pos h, w64_succ (by omega)])
  refine Tot.val ?_
  unfold i_isJourney_L1
  refine .iteP (fun hc => .flb (.eq (ixs hg) (.eq (tripIndex_eq t hb.2 g.Trip) ?_))) (fun hc => absurd (Int.ofNat_lt.2 hj) hc)
  rcases leg_found hb hT g with ⟨h1, h2⟩ | ⟨i, x, l, hx, hl, hid, hf, hiff⟩
  · exact .iteP (fun _ => .ret (no fun hq => h2 hq.1)) (fun h => absurd h1 h)
  rw [hf]
  refine .iteP (fun h => by omega) fun _ => .eq (ixs hx) (.eq (fillLeg_eq hT hx hl g.From g.To) ?_)
  refine .call (P := fun b => (b = true → ¬ FillP t g) ∧ (b = false → FillP t g)) ?_ fun b hB => .ite (fun h => .ret (no fun hq => hB.1 h hq.1)) fun h => ?_
  · rw [leg_beq]
    refine .ite (fun h2 => .ok ⟨fun _ hF => ?_, fun h => by cases h⟩) fun h2 => .ok ⟨fun h1 hF => ?_, fun h => hiff.2 ?_⟩
    · rw [hiff.1 hF] at h2; cases h2
    · rw [hiff.1 hF] at h1; simp at h1
    · have h2 : (fl x l g.From g.To).2 = true := by simpa using h2
      have h1 : (fl x l g.From g.To).1 = g := by simpa using h
      exact Prod.ext h1 h2
  have hF := hB.2 h
  refine .ite (fun h0 => .go (.ok (yes ⟨hF, fun p hp => ?_, fun i p hi => ?_⟩))) fun h0 => ?_
  · have : j = 0 := by simpa using h0
    omega
  · have : j = 0 := by simpa using h0
    omega
  have hj0 : 0 < j := by
    have : j ≠ 0 := by simpa using h0
    omega
  obtain ⟨p, hp⟩ := get_ex (l := legs) (i := j - 1) (by omega)
  have ew : w64 ((j : Int) - 1) = ((j - 1 : Nat) : Int) := by rw [w64_id (by omega)]; omega
  rw [ew]
  refine .eq (ixs hp) (.call (P := fun b => b = decide (¬ (p.To = g.From ∧ ¬ g.Depart < w64 (p.Arrive + change)))) (.ite (fun h => .ok ?_) fun h => .eq (ixs hp) (.ok ?_)) fun b hB => ?_)
  · have : g.From ≠ p.To := by simpa using h
    simp; exact .inl fun e => absurd e.symm this
  · have : g.From = p.To := by simpa using h
    simp [this]
  subst hB
  refine .iteP (fun hn => .ret (no fun hq => hn (hq.2.1 p hj0 hp))) fun hn => ?_
  have hn := Decidable.not_not.1 hn
  refine .chk (by omega) (.eq (contains_leg _ (by simp; omega) g) (.iteP (fun hc => .ret (no fun hq => ?_)) fun hc => .go (.ok (yes ⟨hF, fun p' _ hp' => (by rw [hp] at hp'; cases hp'; exact hn), fun i q hi hq e => hc ⟨q, ?_, e⟩⟩))))
  · obtain ⟨q, hq1, hq2⟩ := hc
    rw [Int.toNat_zero, List.drop_zero] at hq1
    obtain ⟨i, hi⟩ := List.getElem?_of_mem hq1
    have hlt := get_lt hi
    rw [List.length_take] at hlt
    rw [List.getElem?_take_of_lt (by omega)] at hi
    exact hq.2.2 i q (by omega) hi hq2
  · rw [Int.toNat_zero, List.drop_zero]
    refine List.mem_of_getElem? (i := i) ?_
    rw [Int.toNat_natCast, List.getElem?_take_of_lt (by omega)]; exact hq
theorem isJourney_eq {t : Timetable} (hb : TB t) (hT : GoodT t) (change : Int) (legs : List Leg) : i_isJourney t change legs = some (decide (JourneyP t change legs)) := by
  unfold i_isJourney
  simp only [within_eq, Option.bind_some]
  by_cases h4 : 1 ≤ legs.length ∧ legs.length ≤ 4
  · have h4' : 1 ≤ (legs.length : Int) ∧ (legs.length : Int) ≤ 4 := by omega
    simp only [h4', and_self, decide_true, Bool.not_true, Bool.false_eq_true, if_false]
    rw [all_val (hd := Classical.propDecidable _) legs (LegQ t change legs) (fun i x hx => ?_) (by unfold i_isJourney_L1; simp)]
    · by_cases h : ∀ (i : Nat) x, legs[i]? = some x → LegQ t change legs i x
      · rw [if_pos h, decide_eq_true (show JourneyP t change legs from ⟨h4, h⟩)]
      · rw [if_neg h, decide_eq_false (fun q : JourneyP t change legs => h q.2)]
    · rw [ij_step hb hT change legs h4.2 hx]
      by_cases h : LegQ t change legs i x
      · exact .inl ⟨by rw [if_pos h], h⟩
      · exact .inr ⟨by rw [if_neg h], h⟩
  · have h4' : ¬ (1 ≤ (legs.length : Int) ∧ (legs.length : Int) ≤ 4) := by omega
    simp only [h4', decide_false, Bool.not_false, if_true]
    rw [decide_eq_false (fun q : JourneyP t change legs => h4 q.1)]
theorem sj_step {t : Timetable} (hb : TB t) (hT : GoodT t) (change : Int) (legs : List Leg) (h4 : legs.length ≤ 4) {j : Nat} {g : Leg} (hg : legs[j]? = some g) : s_l8Journey_L2 t change legs (j : Int) = some (if LegQ t change legs j g then .nx ((j + 1 : Nat) : Int) else .dn (.ret false)) := by
  have hj := get_lt hg
  have no : ¬ LegQ t change legs j g → (Lp.dn (Fl.ret false) : Lp Int (Fl Bool Unit)) = if LegQ t change legs j g then .nx ((j + 1 : Nat) : Int) else .dn (.ret false) := fun h => (by rw [if_neg h])
  have yes : LegQ t change legs j g → (Lp.nx (w64 ((j : Int) + 1)) : Lp Int (Fl Bool Unit)) = if LegQ t change legs j g then .nx ((j + 1 : Nat) : Int) else .dn (.ret false) := fun h => (by rw [if_pos h, w64_succ (by omega)])
  have key : ∃ r : Leg × Bool, s_l8Fill t g.Trip g.From g.To = some r ∧ (r = (g, true) ↔ FillP t g) := by
    rcases leg_found hb hT g with ⟨h1, h2⟩ | ⟨i, x, l, hx, hl, hid, hf, hiff⟩
    · exact ⟨_, fill_none hb h1 _ _, fun h => (by cases h), fun h => absurd h h2⟩
    · refine ⟨fl x l g.From g.To, ?_, hiff.symm⟩
      rw [← hid]; exact fill_some hb hT hx hl _ _
  obtain ⟨r, hr, hiff⟩ := key
  refine Tot.val ?_
  unfold s_l8Journey_L2
  refine .iteP (fun hc => .eq (ixs hg) (.eq (ixs hg) (.eq (ixs hg) (.eq hr ?_)))) (fun hc => absurd (Int.ofNat_lt.2 hj) hc)
  refine .call (P := fun b => (b = true → ¬ FillP t g) ∧ (b = false → FillP t g)) ?_ fun b hB => .ite (fun h => .dn' (no fun hq => hB.1 h hq.1)) fun h => ?_
  · refine .ite (fun h2 => .ok ⟨fun _ hF => ?_, fun h => by cases h⟩) fun h2 => .eq (ixs hg) ?_
    · rw [hiff.2 hF] at h2; cases h2
    · rw [leg_beq]
      refine .ok ⟨fun h1 hF => ?_, fun h => hiff.1 ?_⟩
      · rw [hiff.2 hF] at h1; simp at h1
      · have h2 : r.2 = true := by simpa using h2
        have h1 : r.1 = g := by simpa using h
        exact Prod.ext h1 h2
  have hF := hB.2 h
  have hrg := hiff.2 hF
  subst hrg
  dsimp only
  by_cases hu : ∃ (i : Nat) (q : Leg), i < j ∧ legs[i]? = some q ∧ q.Trip = g.Trip
  · refine .flb ((Tot.iter (fun m (s : Int) => ∃ i : Nat, s = (i : Int) ∧ m + i = j ∧ ∃ (i' : Nat) (q : Leg), i ≤ i' ∧ i' < j ∧ legs[i']? = some q ∧ q.Trip = g.Trip) (Q := fun b => b = .ret (.dn (.ret false))) (n := j) ⟨0, rfl, by omega, ?_⟩ ?_).mono fun b hb => ⟨fun r e => ?_, fun u e => (by rw [hb] at e; cases e)⟩)
    · obtain ⟨i, q, a, b, c⟩ := hu; exact ⟨i, q, by omega, a, b, c⟩
    · rintro m s ⟨i, rfl, hm, i', q, a1, a2, a3, a4⟩
      unfold s_l8Journey_L1
      refine .iteP (fun hc => ?_) (fun hc => by omega)
      obtain ⟨p, hp⟩ := get_ex (l := legs) (i := i) (by omega)
      refine .eq (ixs hp) (.ite (fun _ => .dn rfl) fun hne => .nx ⟨m - 1, by omega, i + 1, w64_succ (by omega), by omega, i', q, ?_, a2, a3, a4⟩)
      have : i ≠ i' := fun e => by
        subst e; rw [hp] at a3; cases a3
        simp [a4] at hne
      omega
    · rw [hb] at e; cases e
      refine no fun hq => ?_
      obtain ⟨i, q, a, b, c⟩ := hu
      exact hq.2.2 i q a b c
  · refine .flb ((Tot.iter (fun m (s : Int) => ∃ i : Nat, s = (i : Int) ∧ m + i = j) (Q := fun b => b = .go ()) (n := j) ⟨0, rfl, by omega⟩ ?_).mono fun b hb => ⟨fun r e => (by rw [hb] at e; cases e), fun u _ => ?_⟩)
    · rintro m s ⟨i, rfl, hm⟩
      unfold s_l8Journey_L1
      refine .iteP (fun hc => ?_) (fun hc => .dn rfl)
      obtain ⟨p, hp⟩ := get_ex (l := legs) (i := i) (by omega)
      refine .eq (ixs hp) (.ite (fun he => absurd ⟨i, p, by omega, hp, by simpa using he⟩ hu) fun hne => .nx ⟨m - 1, by omega, i + 1, w64_succ (by omega), by omega⟩)
    · have hU : ∀ (i : Nat) q, i < j → legs[i]? = some q → q.Trip ≠ g.Trip := fun i q a b c => hu ⟨i, q, a, b, c⟩
      refine .call (P := fun b => b = decide (¬ OrdQ change legs j g)) (.iteP (fun h0 => ?_) fun h0 => .ok ?_) fun b hB => ?_
      · obtain ⟨p, hp⟩ := get_ex (l := legs) (i := j - 1) (by omega)
        have ew : w64 ((j : Int) - 1) = ((j - 1 : Nat) : Int) := by rw [w64_id (by omega)]; omega
        have hj0 : 0 < j := by omega
        rw [ew]
        have e1 : OrdQ change legs j g ↔ (p.To = g.From ∧ ¬ g.Depart < w64 (p.Arrive + change)) := ⟨fun h => h p hj0 hp, fun h q _ hq => (by rw [hp] at hq; cases hq; exact h)⟩
        refine .eq (ixs hp) (.ite (fun h => .ok ?_) fun h => .eq (ixs hp) (.ok ?_))
        · have : p.To ≠ g.From := by simpa using h
          rw [eq_comm, decide_eq_true_eq, e1]; exact fun q => this q.1
        · have : p.To = g.From := by simpa using h
          rw [decide_eq_decide, e1]; simp [this]
      · rw [eq_comm, decide_eq_false_iff_not, Decidable.not_not]
        intro p hp; omega
      · subst hB
        refine .iteP (fun hn => .dn' (no fun hq => hn hq.2.1)) fun hn => .dn' (yes ⟨hF, Decidable.not_not.1 hn, hU⟩)
theorem l8Journey_eq {t : Timetable} (hb : TB t) (hT : GoodT t) (change : Int) (legs : List Leg) : s_l8Journey t change legs = some (decide (JourneyP t change legs)) := by
  unfold s_l8Journey
  simp only [l1In_eq, Option.bind_some]
  by_cases h4 : 1 ≤ legs.length ∧ legs.length ≤ 4
  · have h4' : 1 ≤ (legs.length : Int) ∧ (legs.length : Int) ≤ 4 := by omega
    simp only [h4', and_self, decide_true, Bool.not_true, Bool.false_eq_true, if_false]
    rw [all_val (hd := Classical.propDecidable _) legs (LegQ t change legs) (fun i x hx => ?_) (by unfold s_l8Journey_L2; simp)]
    · by_cases h : ∀ (i : Nat) x, legs[i]? = some x → LegQ t change legs i x
      · rw [if_pos h, decide_eq_true (show JourneyP t change legs from ⟨h4, h⟩)]
      · rw [if_neg h, decide_eq_false (fun q : JourneyP t change legs => h q.2)]
    · rw [sj_step hb hT change legs h4.2 hx]
      by_cases h : LegQ t change legs i x
      · exact .inl ⟨by rw [if_pos h], h⟩
      · exact .inr ⟨by rw [if_neg h], h⟩
  · have h4' : ¬ (1 ≤ (legs.length : Int) ∧ (legs.length : Int) ≤ 4) := by omega
    simp only [h4', decide_false, Bool.not_false, if_true]
    rw [decide_eq_false (fun q : JourneyP t change legs => h4 q.1)]
/-- A journey in a valid timetable. -/
def ValidJ (t : Timetable) (change : Int) (legs : List Leg) : Prop := (GoodT t ∧ 0 ≤ change ∧ change ≤ 30) ∧ JourneyP t change legs
noncomputable instance (t : Timetable) (change : Int) (legs : List Leg) : Decidable (ValidJ t change legs) := Classical.propDecidable _
theorem validJ_eq {t : Timetable} (hb : TB t) (change : Int) (legs : List Leg) : i_IsValidJourney t change legs = some (decide (ValidJ t change legs)) := by
  unfold i_IsValidJourney i_isChange
  rw [validT_eq hb]
  by_cases hT : GoodT t
  · simp only [hT, decide_true, if_true, Option.bind_some, within_eq, isJourney_eq hb hT]
    by_cases hc : 0 ≤ change ∧ change ≤ 30
    · by_cases hj : JourneyP t change legs <;> simp [ValidJ, hT, hc, hj]
    · simp [ValidJ, hc]
  · simp [ValidJ, hT]
theorem sval_eq {t : Timetable} (hb : TB t) (change : Int) (legs : List Leg) : ((s_l8Asked t change).bind fun r => (if (!r) = true then some true else (s_l8Journey t change legs).bind fun r1 => some (!r1))) = some (!decide (ValidJ t change legs)) := by
  rw [asked_eq hb]
  by_cases hA : GoodT t ∧ 0 ≤ change ∧ change ≤ 30
  · simp only [hA, and_self, decide_true, Bool.not_true, Bool.false_eq_true, if_false, Option.bind_some, l8Journey_eq hb hA.1]
    by_cases hj : JourneyP t change legs <;> simp [ValidJ, hA, hj]
  · have : ¬ ValidJ t change legs := fun h => hA h.1
    simp only [hA, this, decide_false, Bool.not_false, if_true, Option.bind_some]
/-- A valid leg's numbers. -/
theorem leg_rng {t : Timetable} (hT : GoodT t) {g : Leg} (h : FillP t g) : (0 ≤ g.Depart ∧ g.Depart ≤ 1799) ∧ (0 ≤ g.Arrive ∧ g.Arrive ≤ 1799) ∧ g.Depart ≤ g.Arrive := by
  obtain ⟨i, x, l, hx, hl, hid, hfl⟩ := h
  obtain ⟨l', hl', hp, _, hs, he⟩ := trip_line hT hx
  rw [hl] at hl'; cases hl'
  obtain ⟨⟨r1, r2, r3⟩, r4⟩ := line_runs hp
  unfold fl at hfl
  split at hfl
  · cases hfl
  · rename_i hn
    have hg := congrArg Prod.fst hfl
    dsimp only at hg
    have e1 : g.Depart = x.Start + (l.Runs.take (fixI (fun e => g.From == e) l.Stops).toNat).sum := (congrArg Leg.Depart hg).symm
    have e2 : g.Arrive = x.Start + (l.Runs.take (fixI (fun e => g.To == e) l.Stops).toNat).sum := (congrArg Leg.Arrive hg).symm
    have mono : ∀ (a b : Nat), a ≤ b → (l.Runs.take a).sum ≤ (l.Runs.take b).sum := by
      intro a b hab
      have : l.Runs.take b = l.Runs.take a ++ (l.Runs.take b).drop a := by
        have := List.take_append_drop a (l.Runs.take b)
        rw [List.take_take, Nat.min_eq_left hab] at this
        exact this.symm
      rw [this, List.sum_append]
      have := sum_nonneg (l := (l.Runs.take b).drop a) fun y hy => by have := r4 y (List.mem_of_mem_take (List.mem_of_mem_drop hy)); omega
      omega
    have m1 := mono (fixI (fun e => g.From == e) l.Stops).toNat (fixI (fun e => g.To == e) l.Stops).toNat (by omega)
    have m2 := mono (fixI (fun e => g.To == e) l.Stops).toNat l.Runs.length (by
      rcases fixI_rng (fun e => g.To == e) l.Stops with h | h <;> omega)
    rw [List.take_length] at m2
    have s1 := runs_sum hp (fixI (fun e => g.From == e) l.Stops).toNat
    omega
theorem legs_rng {t : Timetable} {change : Int} {legs : List Leg} (h : ValidJ t change legs) {i : Nat} {g : Leg} (hg : legs[i]? = some g) : (0 ≤ g.Depart ∧ g.Depart ≤ 1799) ∧ (0 ≤ g.Arrive ∧ g.Arrive ≤ 1799) ∧ g.Depart ≤ g.Arrive := leg_rng h.1.1 (h.2.2 i g hg).1
theorem legs_ord {t : Timetable} {change : Int} {legs : List Leg} (h : ValidJ t change legs) {i : Nat} {p g : Leg} (hp : legs[i]? = some p) (hg : legs[i + 1]? = some g) : p.To = g.From ∧ p.Arrive + change ≤ g.Depart ∧ p.Trip ≠ g.Trip := by
  have h1 := (h.2.2 (i + 1) g hg).2.1 p (by omega) (by simpa using hp)
  have h2 := (h.2.2 (i + 1) g hg).2.2 i p (by omega) hp
  have r := legs_rng h hp
  rw [w64_id (by have := h.1.2; omega)] at h1
  exact ⟨h1.1, by omega, h2⟩
/-! Journeys: slack; where a leg lies. -/
/-- The slack behind each leg. -/
theorem slack_ok {t : Timetable} {change : Int} {legs : List Leg} (h : ValidJ t change legs) : Tot (iter (i_SlackOf_L1 change legs) ((1 : Int), ([] : List Int))) fun s => s.length + 1 = legs.length ∧ ∀ (i : Nat) p g, legs[i]? = some p → legs[i + 1]? = some g → s[i]? = some (g.Depart - change - p.Arrive) := by
  have h4 := h.2.1
  have hc := h.1.2
  refine .iter (fun m s => ∃ i : Nat, s.1 = (i : Int) ∧ 1 ≤ i ∧ m + i = legs.length ∧ s.2.length + 1 = i ∧ ∀ (j : Nat) p g, j + 1 < i → legs[j]? = some p → legs[j + 1]? = some g → s.2[j]? = some (g.Depart - change - p.Arrive)) (n := legs.length - 1) ⟨1, rfl, by omega, by omega, rfl, fun j p g hj => by omega⟩ ?_
  rintro m ⟨v, o⟩ ⟨i, hv, h1, hm, hl, ho⟩
  simp only at hv hl ho
  subst hv
  unfold i_SlackOf_L1
  refine .iteP (fun hlt => ?_) (fun hlt => .dn ⟨by omega, fun j p g hp hg => ho j p g (by have := get_lt hg; omega) hp hg⟩)
  obtain ⟨g, hg⟩ := get_ex (l := legs) (i := i) (by omega)
  obtain ⟨p, hp⟩ := get_ex (l := legs) (i := i - 1) (by omega)
  have r1 := legs_rng h hg
  have r2 := legs_rng h hp
  have ew : w64 ((i : Int) - 1) = ((i - 1 : Nat) : Int) := by rw [w64_id (by omega)]; omega
  rw [ew]
  refine .eq (ixs hg) (.eq (ixs hp) (.chk (by simp; omega) (.nx ⟨m - 1, by omega, i + 1, w64_succ (by omega), by omega, by omega, by simp; omega, fun j p' g' hj hp' hg' => ?_⟩)))
  dsimp only
  rw [w64_id (x := g.Depart - change) (by omega), w64_id (by omega)]
  by_cases hji : j + 1 = i
  · have e : i - 1 = j := by omega
    rw [e] at hp
    subst hji
    rw [hg] at hg'; rw [hp] at hp'; cases hg'; cases hp'
    rw [List.getElem?_append_right (by omega)]
    simp [show j - o.length = 0 by omega]
  · rw [List.getElem?_append_left (by omega)]
    exact ho j p' g' (by omega) hp' hg'
theorem leg_pos {t : Timetable} (hT : GoodT t) {g : Leg} (h : FillP t g) : ∃ (i : Nat) (x : Trip) (l : Line) (a b : Nat), t.Trips[i]? = some x ∧ idx t.Network.Lines x.Line = some l ∧ x.Id = g.Trip ∧ LineP t.Network.Stops.length l ∧ fixI (fun e => g.From == e) l.Stops = (a : Int) ∧ fixI (fun e => g.To == e) l.Stops = (b : Int) ∧ a < b ∧ l.Stops[a]? = some g.From ∧ l.Stops[b]? = some g.To ∧ fl x l g.From g.To = (g, true) := by
  obtain ⟨i, x, l, hx, hl, hid, hfl⟩ := h
  obtain ⟨l', hl', hp, _, hs, he⟩ := trip_line hT hx
  rw [hl] at hl'; cases hl'
  have hfl2 := hfl
  unfold fl at hfl
  split at hfl
  · cases hfl
  · rename_i hn
    have q1 := fixI_rng (fun e => g.From == e) l.Stops
    obtain ⟨a, ha⟩ : ∃ a : Nat, fixI (fun e => g.From == e) l.Stops = a := ⟨(fixI (fun e => g.From == e) l.Stops).toNat, by omega⟩
    obtain ⟨b, hb⟩ : ∃ b : Nat, fixI (fun e => g.To == e) l.Stops = b := ⟨(fixI (fun e => g.To == e) l.Stops).toNat, by omega⟩
    obtain ⟨u, u1, u2, _⟩ := fixI_at ha
    obtain ⟨w, w1, w2, _⟩ := fixI_at hb
    have eu : g.From = u := by simpa using u2
    have ew : g.To = w := by simpa using w2
    exact ⟨i, x, l, a, b, hx, hl, hid, hp, ha, hb, by omega, by rw [eu]; exact u1, by rw [ew]; exact w1, hfl2⟩
theorem FillLeg_eq {t : Timetable} (hb : TB t) (hT : GoodT t) {g : Leg} (h : FillP t g) : i_FillLeg t g.Trip g.From g.To = some (g, true) := by
  obtain ⟨i, x, l, a, b, hx, hl, hid, hp, ha, hb', hab, s1, s2, hfl⟩ := leg_pos hT h
  have r1 := line_stop hp s1
  have r2 := line_stop hp s2
  have hf := trip_fix hT hx
  rw [hid] at hf
  have c : ¬ ((i : Int) < 0) := by omega
  unfold i_FillLeg
  simp only [validT_eq hb, hT, isStop_eq, r1, r2, and_self, decide_true, Bool.not_true, Bool.false_eq_true, if_false, Option.bind_some, tripIndex_eq t hb.2, hf, c, decide_false, idx_nat, hx, fillLeg_eq hT hx hl, hfl]
/-! Minutes of a journey: the law. -/
def lg (legs : List Leg) (i : Nat) : Leg := legs.getD i ⟨0, 0, 0, 0, 0⟩
theorem lg_at {legs : List Leg} {i : Nat} {g : Leg} (h : legs[i]? = some g) : lg legs i = g := by unfold lg; rw [List.getD_eq_getElem?_getD, h]; rfl
def wts (legs : List Leg) : Nat → Int
  | 0 => 0
  | k + 1 => wts legs k + ((lg legs (k + 1)).Depart - (lg legs k).Arrive)
def rd (legs : List Leg) : Nat → Int
  | 0 => 0
  | k + 1 => rd legs k + ((lg legs k).Arrive - (lg legs k).Depart)
theorem tele (legs : List Leg) : ∀ k, wts legs k + rd legs (k + 1) = (lg legs k).Arrive - (lg legs 0).Depart
  | 0 => by simp [wts, rd]
  | k + 1 => by
    have := tele legs k
    simp only [wts, rd] at this ⊢
    omega
theorem wts_rng {t : Timetable} {change : Int} {legs : List Leg} (h : ValidJ t change legs) : ∀ k, k < legs.length → -1800 * (k : Int) ≤ wts legs k ∧ wts legs k ≤ 1800 * k
  | 0, _ => by simp [wts]
  | k + 1, hk => by
    have := wts_rng h k (by omega)
    obtain ⟨g, hg⟩ := get_ex (l := legs) (i := k + 1) hk
    obtain ⟨p, hp⟩ := get_ex (l := legs) (i := k) (by omega)
    have r1 := legs_rng h hg
    have r2 := legs_rng h hp
    simp only [wts, lg_at hg, lg_at hp]
    omega
theorem rd_rng {t : Timetable} {change : Int} {legs : List Leg} (h : ValidJ t change legs) : ∀ k, k ≤ legs.length → 0 ≤ rd legs k ∧ rd legs k ≤ 1800 * k
  | 0, _ => by simp [rd]
  | k + 1, hk => by
    have := rd_rng h k (by omega)
    obtain ⟨p, hp⟩ := get_ex (l := legs) (i := k) (by omega)
    have r2 := legs_rng h hp
    simp only [rd, lg_at hp]
    omega
theorem iwait {t : Timetable} {change : Int} {legs : List Leg} (h : ValidJ t change legs) : iter (i_JourneyTimes_L1 legs) ((0 : Int), (1 : Int)) = some (wts legs (legs.length - 1)) ∧ iter (s_JourneyTimes_L1 legs) ((0 : Int), (1 : Int)) = some (wts legs (legs.length - 1)) := by
  have h4 := h.2.1
  constructor
  · refine Tot.val (Tot.iter (fun m s => ∃ i : Nat, s.2 = ((i + 1 : Nat) : Int) ∧ m + i + 1 = legs.length ∧ s.1 = wts legs i) (n := legs.length - 1) ⟨0, rfl, by omega, rfl⟩ ?_)
    rintro m ⟨v, w⟩ ⟨i, hv, hm, hs⟩
    simp only at hv hs
    subst hv; subst hs
    unfold i_JourneyTimes_L1
    refine .iteP (fun hlt => ?_) (fun hlt => .dn (by rw [show legs.length - 1 = i by omega]))
    obtain ⟨g, hg⟩ := get_ex (l := legs) (i := i + 1) (by omega)
    obtain ⟨p, hp⟩ := get_ex (l := legs) (i := i) (by omega)
    have r1 := legs_rng h hg
    have r2 := legs_rng h hp
    have rw_ := wts_rng h i (by omega)
    have ew : w64 (((i + 1 : Nat) : Int) - 1) = (i : Int) := by rw [w64_id (by omega)]; omega
    rw [ew]
    refine .eq (ixs hg) (.eq (ixs hp) (.nx ⟨m - 1, by omega, i + 1, w64_succ (by omega), by omega, ?_⟩))
    dsimp only
    rw [w64_id (x := g.Depart - p.Arrive) (by omega), w64_id (by omega)]
    simp only [wts, lg_at hg, lg_at hp]
  · refine Tot.val (Tot.iter (fun m s => ∃ i : Nat, s.2 = ((i + 1 : Nat) : Int) ∧ m + i + 1 = legs.length ∧ s.1 = wts legs i) (n := legs.length - 1) ⟨0, rfl, by omega, rfl⟩ ?_)
    rintro m ⟨v, w⟩ ⟨i, hv, hm, hs⟩
    simp only at hv hs
    subst hv; subst hs
    unfold s_JourneyTimes_L1
    refine .iteP (fun hlt => ?_) (fun hlt => .dn (by rw [show legs.length - 1 = i by omega]))
    obtain ⟨g, hg⟩ := get_ex (l := legs) (i := i + 1) (by omega)
    obtain ⟨p, hp⟩ := get_ex (l := legs) (i := i) (by omega)
    have r1 := legs_rng h hg
    have r2 := legs_rng h hp
    have rw_ := wts_rng h i (by omega)
    have ew : w64 (((i + 1 : Nat) : Int) - 1) = (i : Int) := by rw [w64_id (by omega)]; omega
    rw [ew]
    refine .eq (ixs hg) (.eq (ixs hp) (.nx ⟨m - 1, by omega, i + 1, w64_succ (by omega), by omega, ?_⟩))
    dsimp only
    rw [w64_id (x := wts legs i + g.Depart) (by omega), w64_id (by omega)]
    simp only [wts, lg_at hg, lg_at hp]
    omega
theorem last_of {legs : List Leg} (h : 1 ≤ legs.length) (h4 : legs.length ≤ 4) : idx legs (w64 ((legs.length : Int) - 1)) = some (lg legs (legs.length - 1)) ∧ idx legs 0 = some (lg legs 0) ∧ legs[legs.length - 1]? = some (lg legs (legs.length - 1)) ∧ legs[0]? = some (lg legs 0) := by
  have ew : w64 ((legs.length : Int) - 1) = ((legs.length - 1 : Nat) : Int) := by rw [w64_id (by omega)]; omega
  obtain ⟨g, hg⟩ := get_ex (l := legs) (i := legs.length - 1) (by omega)
  obtain ⟨p, hp⟩ := get_ex (l := legs) (i := 0) (by omega)
  rw [ew, idx_nat, idx0, hg, hp, lg_at hg, lg_at hp]
  exact ⟨rfl, rfl, rfl, rfl⟩
theorem served_ok {t : Timetable} (hb : TB t) {change : Int} {legs : List Leg} (h : ValidJ t change legs) : Tot (i_ServedStops t change legs) fun r => r.2 = true ∧ 1 ≤ r.1.length ∧ r.1.length ≤ 100 ∧ r.1[0]? = some (lg legs 0).From ∧ r.1[r.1.length - 1]? = some (lg legs (legs.length - 1)).To := by
  have h4 := h.2.1
  have hT := h.1.1
  obtain ⟨l1, l2, l3, l4⟩ := last_of h4.1 h4.2
  unfold i_ServedStops
  simp only [validJ_eq hb, h, decide_true, Bool.not_true, Bool.false_eq_true, if_false, Option.bind_some, l2]
  refine .call (P := fun o => 1 ≤ o.length ∧ o.length ≤ 100 ∧ o[0]? = some (lg legs 0).From ∧ o[o.length - 1]? = some (lg legs (legs.length - 1)).To) ?_ fun o ho => .ok ⟨rfl, ho⟩
  refine .iter (fun m s => ∃ i : Nat, s.1 = (i : Int) ∧ m + i = legs.length ∧ 1 ≤ s.2.length ∧ s.2.length ≤ 1 + 6 * i ∧ s.2[0]? = some (lg legs 0).From ∧ (0 < i → s.2[s.2.length - 1]? = some (lg legs (i - 1)).To)) (n := legs.length) ⟨0, rfl, by omega, by simp, by simp, by simp, fun h => by omega⟩ ?_
  rintro m ⟨v, o⟩ ⟨i, hv, hm, g1, g2, g3, g4⟩
  simp only at hv g1 g2 g3 g4
  subst hv
  unfold i_ServedStops_L1
  refine .iteP (fun hlt => ?_) (fun hlt => .dn ⟨g1, by omega, g3, by rw [show legs.length = i by omega]; exact g4 (by omega)⟩)
  obtain ⟨g, hg⟩ := get_ex (l := legs) (i := i) (by omega)
  obtain ⟨k, x, l, a, b, hx, hl, hid, hp, ha, hb', hab, s1, s2, _⟩ := leg_pos hT (h.2.2 i g hg).1
  have hf := trip_fix hT hx
  rw [hid] at hf
  have hl6 := hp.1
  have hbl := get_lt s2
  have ea : w64 ((a : Int) + 1) = ((a + 1 : Nat) : Int) := w64_succ (by omega)
  have eb : w64 ((b : Int) + 1) = ((b + 1 : Nat) : Int) := w64_succ (by omega)
  refine .eq (ixs hg) ?_
  rw [tripIndex_eq t hb.2, hf]
  refine .eq rfl (.eq (ixs hx) (.eq (lineOf_eq hl) ?_))
  rw [index_int_eq l.Stops (by omega), index_int_eq l.Stops (by omega), ha, hb']
  simp only [Option.bind_some, ea, eb]
  have hlen : ((l.Stops.take (b + 1)).drop (a + 1)).length = b - a := by rw [List.length_drop, List.length_take]; omega
  refine .chk ⟨by omega, by omega, by omega⟩ (.chk (by simp only [Int.toNat_natCast]; omega) (.nx ⟨m - 1, by omega, i + 1, w64_succ (by omega), by omega, ?_, ?_, ?_, fun _ => ?_⟩))
  · dsimp only; simp only [Int.toNat_natCast, List.length_append]; omega
  · dsimp only; simp only [Int.toNat_natCast, List.length_append, hlen]; omega
  · dsimp only; rw [List.getElem?_append_left (by omega)]; exact g3
  · dsimp only
    simp only [Int.toNat_natCast, List.length_append, hlen]
    rw [List.getElem?_append_right (by omega), List.getElem?_drop, List.getElem?_take_of_lt (by omega), show a + 1 + (o.length + (b - a) - 1 - o.length) = b by omega, s2, show i + 1 - 1 = i by omega, lg_at hg]
theorem djt_ok (code : List UInt8) : Tot (s_DrawJourneyTimes code) fun r => TB r.1 ∧ r.2.2.length ≤ 5 := by
  have h0 := (cur0 code).mono (k' := 10) (by omega)
  unfold s_DrawJourneyTimes s_DrawIsValidJourney
  exact .call (P := fun r => TB r.1 ∧ r.2.2.length ≤ 5) (.call (trips_ok h0 (by omega)) fun r ⟨hc, hd⟩ => .call (change_ok hc (by omega)) fun r1 hc1 => .call (legs_ok hc1 (by omega) hd.tb _) fun r2 ⟨hc2, hl⟩ => .ok ⟨hd.tb, hl⟩) fun r hr => .ok hr
theorem jt_true (code : List UInt8) : v_FnJourneyTimes code = some true := by
  unfold v_FnJourneyTimes
  rw [vBig_eq]
  refine Tot.val (Tot.eq rfl (.iteP (fun _ => .ok rfl) (fun hlen => ?_)))
  refine .call (djt_ok code) fun ⟨t, change, legs⟩ ⟨hb, hl5⟩ => ?_
  dsimp only at hb hl5 ⊢
  by_cases hJ : ValidJ t change legs
  · have hA := hJ.1
    have h4 := hJ.2.1
    obtain ⟨l1, l2, l3, l4⟩ := last_of h4.1 h4.2
    have w := iwait hJ
    have r1 := legs_rng hJ l3
    have r2 := legs_rng hJ l4
    have ei : i_JourneyTimes t change legs = some ((lg legs (legs.length - 1)).Arrive - (lg legs 0).Depart, wts legs (legs.length - 1), true) := by
      unfold i_JourneyTimes
      simp only [validJ_eq hb, hJ, decide_true, Bool.not_true, Bool.false_eq_true, if_false, Option.bind_some, w.1, l1, l2, w64_id (x := (lg legs (legs.length - 1)).Arrive - (lg legs 0).Depart) (by omega)]
    have es : s_JourneyTimes t change legs = some ((lg legs (legs.length - 1)).Arrive - (lg legs 0).Depart, wts legs (legs.length - 1), true) := by
      unfold s_JourneyTimes
      simp only [asked_eq hb, hA, and_self, l8Journey_eq hb hA.1, hJ.2, decide_true, Bool.not_true, Bool.false_eq_true, if_false, Option.bind_some, w.2, l1, l2, w64_id (x := (lg legs (legs.length - 1)).Arrive - (lg legs 0).Depart) (by omega)]
    obtain ⟨S, hS, hS1, hS2⟩ := slack_ok hJ
    have hslack : i_SlackOf t change legs = some (S, true) := by
      unfold i_SlackOf
      simp only [validJ_eq hb, hJ, decide_true, Bool.not_true, Bool.false_eq_true, if_false, Option.bind_some, hS]
    rw [ei, es]
    simp only [validJ_eq hb, hJ, decide_true, Option.bind_some, bne_self_eq_false, Bool.false_eq_true, if_false, beq_self_eq_true, Bool.not_true]
    have ht := tele legs (legs.length - 1)
    rw [show legs.length - 1 + 1 = legs.length by omega] at ht
    refine .flb ((Tot.iter (fun m s => ∃ i : Nat, s.2 = (i : Int) ∧ m + i = legs.length ∧ s.1 = wts legs (legs.length - 1) + rd legs i) (Q := fun b => b = .go ((lg legs (legs.length - 1)).Arrive - (lg legs 0).Depart)) (n := legs.length) ⟨0, rfl, by omega, by simp [rd]⟩ ?_).mono fun b hB => ⟨fun r e => (by rw [hB] at e; cases e), fun u e => ?_⟩)
    · rintro m ⟨s, v⟩ ⟨i, hv, hm, hs⟩
      simp only at hv hs
      subst hv; subst hs
      unfold v_FnJourneyTimes_L1
      dsimp only
      refine .iteP (fun hlt => ?_) (fun hlt => .dn (by rw [← ht, show i = legs.length by omega]))
      obtain ⟨g, hg⟩ := get_ex (l := legs) (i := i) (by omega)
      have rg := legs_rng hJ hg
      have b1 := wts_rng hJ (legs.length - 1) (by omega)
      have b2 := rd_rng hJ i (by omega)
      refine .eq (ixs hg) (.eq (ixs hg) (.eq (ixs hg) (.eq (FillLeg_eq hb hA.1 (hJ.2.2 i g hg).1) ?_)))
      refine .call (P := fun b => b = false) (.ite (fun h => by cases h) fun _ => .eq (ixs hg) (.ok (by simp))) fun b hB => ?_
      subst hB
      refine .ite (fun h => by cases h) fun _ => .nx ⟨m - 1, by omega, i + 1, w64_succ (by omega), by omega, ?_⟩
      dsimp only
      rw [w64_id (x := wts legs (legs.length - 1) + rd legs i + g.Arrive) (by omega), w64_id (by omega)]
      simp only [rd, lg_at hg]
      omega
    · rw [hB] at e; cases e
      refine .call (served_ok hb hJ) fun ⟨o, ok⟩ ⟨o1, o2, o3, o4, o5⟩ => ?_
      dsimp only at o1 o2 o3 o4 o5
      subst o1
      rw [hslack]
      have ewl : w64 ((legs.length : Int) - 1) = ((legs.length - 1 : Nat) : Int) := by rw [w64_id (by omega)]; omega
      have e0 : ((o.length : Int) == 0) = false := by
        rw [beq_eq_false_iff_ne]; omega
      have e1 : ((S.length : Int) != ((legs.length - 1 : Nat) : Int)) = false := by
        rw [bne_eq_false_iff_eq]; omega
      simp only [Option.bind_some, Bool.not_true, Bool.false_eq_true, if_false, e0, ewl, e1]
      refine .flb ((Tot.iter (fun m (s : Int) => ∃ i : Nat, s = (i : Int) ∧ m + i = S.length) (Q := fun b => b = .go ()) (n := S.length) ⟨0, rfl, by omega⟩ ?_).mono fun b hB => ⟨fun r e => (by rw [hB] at e; cases e), fun u e => ?_⟩)
      · rintro m s ⟨i, rfl, hm⟩
        unfold v_FnJourneyTimes_L2
        dsimp only
        refine .iteP (fun hlt => ?_) (fun hlt => .dn rfl)
        obtain ⟨p, hp⟩ := get_ex (l := legs) (i := i) (by omega)
        obtain ⟨g, hg⟩ := get_ex (l := legs) (i := i + 1) (by omega)
        have ho := legs_ord hJ hp hg
        refine .eq (ixs (hS2 i p g hp hg)) (.iteP (fun h => by omega) fun _ => .nx ⟨m - 1, by omega, i + 1, w64_succ (by omega), by omega⟩)
      · have ewo : w64 ((o.length : Int) - 1) = ((o.length - 1 : Nat) : Int) := by rw [w64_id (by omega)]; omega
        rw [ewo]
        simp only [beq_self_eq_true, if_true]
        refine .call (P := fun b => b = true) (.eq (by rw [idx0]; exact o4) (.eq l2 (.ite (fun _ => .eq (ixs o5) ?_) fun h => by simp at h))) fun b hB => .ok hB
        rw [← ewl]
        exact .eq l1 (.ok (by simp))
  · have ei : i_JourneyTimes t change legs = some (0, 0, false) := by
      unfold i_JourneyTimes
      simp only [validJ_eq hb, hJ, decide_false, Bool.not_false, if_true, Option.bind_some]
    have es : s_JourneyTimes t change legs = some (0, 0, false) := by
      unfold s_JourneyTimes
      rw [bind_assoc', sval_eq hb]
      simp only [hJ, decide_false, Bool.not_false, if_true, Option.bind_some]
    rw [ei, es]
    simp only [validJ_eq hb, hJ, decide_false, Option.bind_some, bne_self_eq_false, Bool.false_eq_true, if_false, beq_self_eq_true, Bool.not_true, Bool.not_false, if_true]
    exact .ok rfl
end Go.Proofs.Ytgminbcbkcacnaa
