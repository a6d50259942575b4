/- The plain law: what the models compute, no program in sight. -/
import Derived.Test.YteieacgaipcnoaaNoM
import Derived.Test.YteieacgaipcnoaaAbTot
namespace Go.Proofs.Yteieacgaipcnoaa
open Go Go.Ab
set_option maxHeartbeats 4000000
set_option linter.unusedVariables false
set_option linter.unusedSimpArgs false
/-! The cursor of the draws: it always answers. -/
def Cur (k : Nat) (c : l1Cur) : Prop := 0 ≤ c.at_ ∧ c.at_ ≤ k
theorem Cur.mono {k k' : Nat} {c : l1Cur} (h : Cur k c) (hk : k ≤ k') : Cur k' c := ⟨h.1, by have := h.2; omega⟩
theorem next_ok {k : Nat} {c : l1Cur} (h : Cur k c) (hk : k ≤ 4000000000) : ∃ r, s_l1Cur_next c = some r ∧ Cur (k + 1) r.2 ∧ 0 ≤ r.1 ∧ r.1 ≤ 255 := by
  obtain ⟨h0, h1⟩ := h
  have hw : w64 (c.at_ + 1) = c.at_ + 1 := w64_id (by omega)
  have hcur : ∀ s, Cur (k + 1) ⟨c.code_, w64 (c.at_ + 1), s⟩ := fun s => by rw [hw]; exact ⟨by show 0 ≤ c.at_ + 1; omega, by show c.at_ + 1 ≤ _; omega⟩
  unfold s_l1Cur_next
  have hv : ∃ v, (if (decide (c.at_ < (c.code_.length : Int))) = true then (idx c.code_ c.at_).bind fun e1 => some (w64 ((e1.toNat : Int))) else some 0) = some v ∧ 0 ≤ v ∧ v ≤ 255 := by
    by_cases hlt : c.at_ < c.code_.length
    · obtain ⟨x, hx, _, _⟩ := idx_lt h0 hlt
      have := x.toNat_lt
      refine ⟨(x.toNat : Int), ?_, by omega, by omega⟩
      simp only [hlt, decide_true, if_true, hx, Option.bind_some]
      rw [w64_id (by omega)]
    · exact ⟨0, by simp [hlt], by omega, by omega⟩
  obtain ⟨v, hv, hv0, hv1⟩ := hv
  rw [hv]
  simp only [Option.bind_some]
  split
  · exact ⟨_, rfl, hcur _, hv0, hv1⟩
  · rw [chk_of (by omega)]
    exact ⟨_, rfl, hcur _, and255 _⟩
theorem pick_ok {k : Nat} {c : l1Cur} (n : Int) (h : Cur k c) (hk : k ≤ 3000000000) : ∃ r, s_l1Cur_pick c n = some r ∧ Cur (k + 2) r.2 ∧ 0 ≤ r.1 ∧ (r.1 < n ∨ r.1 = 0) := by
  unfold s_l1Cur_pick
  by_cases hn : n ≤ 1
  · exact ⟨(0, c), by simp [hn], h.mono (by omega), by simp, .inr rfl⟩
  · obtain ⟨r, hr, hc, h0, h1⟩ := next_ok h (by omega)
    have hn' : decide (n ≤ 1) = false := by simpa using hn
    simp only [hn', Bool.false_eq_true, if_false, hr, Option.bind_some]
    have hne : chk (n ≠ 0) = some () := chk_of (by omega)
    by_cases h2 : 200 < n
    · obtain ⟨r', hr', hc', h0', h1'⟩ := next_ok hc (by omega)
      have e1 : w64 (r.1 * 256) = r.1 * 256 := w64_id (by omega)
      have e2 : w64 (r.1 * 256 + r'.1) = r.1 * 256 + r'.1 := w64_id (by omega)
      have h3 := tmod_rng (a := r.1 * 256 + r'.1) (b := n) (by omega) (by omega)
      simp only [h2, decide_true, if_true, hr', Option.bind_some, hne, e1, e2]
      exact ⟨_, rfl, hc'.mono (by omega), h3.1, .inl h3.2⟩
    · have h2' : decide (200 < n) = false := by simpa using h2
      have h3 := tmod_rng (a := r.1) (b := n) (by omega) (by omega)
      simp only [h2', Bool.false_eq_true, if_false, Option.bind_some, hne]
      exact ⟨_, rfl, hc.mono (by omega), h3.1, .inl h3.2⟩
theorem amongw_ok {k : Nat} {c : l1Cur} (l : List Int) (hl : l ≠ []) (h : Cur k c) (hk : k ≤ 3000000000) : ∃ r, s_l1Cur_among_w c l = some r ∧ Cur (k + 2) r.2 ∧ r.1 ∈ l := by
  unfold s_l1Cur_among_w
  obtain ⟨r, hr, hc, h0, h1⟩ := pick_ok (l.length : Int) h hk
  have hpos : 0 < l.length := List.length_pos_iff.2 hl
  obtain ⟨x, hx, _, hm⟩ := idx_lt (l := l) h0 (by omega)
  simp only [hr, Option.bind_some, hx]
  exact ⟨_, rfl, hc, hm⟩
theorem among_ok {k : Nat} {c : l1Cur} (l : List Int) (hl : l ≠ []) (h : Cur k c) (hk : k ≤ 3000000000) : ∃ r, s_l1Cur_among c l = some r ∧ Cur (k + 2) r.2 ∧ r.1 ∈ l := by
  have : s_l1Cur_among c l = s_l1Cur_among_w c l := rfl
  rw [this]; exact amongw_ok l hl h hk
theorem one_ok {k : Nat} {c : l1Cur} (n : Int) (h : Cur k c) (hk : k ≤ 3000000000) : ∃ r, s_l1Cur_one c n = some r ∧ Cur (k + 2) r.2 := by
  unfold s_l1Cur_one
  obtain ⟨r, hr, hc, _, _⟩ := pick_ok n h hk
  simp only [hr, Option.bind_some]
  exact ⟨_, rfl, hc⟩
theorem of_ok {k : Nat} {c : l1Cur} (l : List ByteArray) (hl : l ≠ []) (h : Cur k c) (hk : k ≤ 3000000000) : ∃ r, s_l1Cur_of c l = some r ∧ Cur (k + 2) r.2 ∧ r.1 ∈ l := by
  unfold s_l1Cur_of
  obtain ⟨r, hr, hc, h0, h1⟩ := pick_ok (l.length : Int) h hk
  have hpos : 0 < l.length := List.length_pos_iff.2 hl
  obtain ⟨x, hx, _, hm⟩ := idx_lt (l := l) h0 (by omega)
  simp only [hr, Option.bind_some, hx]
  exact ⟨_, rfl, hc, hm⟩
theorem ofw_ok {k : Nat} {c : l1Cur} (l : List ByteArray) (hl : l ≠ []) (h : Cur k c) (hk : k ≤ 3000000000) : ∃ r, s_l1Cur_of_w c l = some r ∧ Cur (k + 2) r.2 ∧ r.1 ∈ l := by
  have : s_l1Cur_of_w c l = s_l1Cur_of c l := rfl
  rw [this]; exact of_ok l hl h hk
theorem cur0 (code : List UInt8) : Cur 0 ⟨code, 0, ⟨0⟩⟩ := ⟨by show (0 : Int) ≤ 0; omega, by show (0 : Int) ≤ _; omega⟩
/-! Networks: when they are valid, for the program and for the reference. -/
theorem within_eq (n lo hi : Int) : i_within n lo hi = some (decide (lo ≤ n ∧ n ≤ hi)) := by
  unfold i_within
  by_cases h : lo ≤ n <;> simp [h]
theorem l1In_eq (n lo hi : Int) : s_l1In n lo hi = some (decide (lo ≤ n ∧ n ≤ hi)) := by
  unfold s_l1In
  by_cases h : lo ≤ n <;> simp [h]
/-- Byte i of a name. -/
def ChOK (i : Nat) (c : UInt8) : Prop := (97 ≤ (c.toNat : Int) ∧ (c.toNat : Int) ≤ 122) ∨ (i ≠ 0 ∧ 48 ≤ (c.toNat : Int) ∧ (c.toNat : Int) ≤ 57)
def NameOK (s : ByteArray) : Prop := (1 ≤ s.size ∧ s.size ≤ 8) ∧ ∀ (i : Nat) c, s.data.toList[i]? = some c → ChOK i c
open Classical in
noncomputable instance (s : ByteArray) : Decidable (NameOK s) := Classical.propDecidable _
theorem size_list (s : ByteArray) : s.data.toList.length = s.size := by simp
theorem getD_of {α : Type} {l : List α} {i : Nat} {x d : α} (h : l[i]? = some x) : l.getD i d = x := by rw [List.getD_eq_getElem?_getD, h]; rfl

theorem isName_eq (s : ByteArray) : i_isName s = some (decide (NameOK s)) := by
  unfold i_isName
  by_cases h1 : 1 ≤ s.size ∧ s.size ≤ 8
  · have e1 : decide ((s.size : Int) < 1) = false := by simp; omega
    have e2 : decide (8 < (s.size : Int)) = false := by simp; omega
    simp only [e1, e2, Bool.false_eq_true, if_false, Option.bind_some]
    have hsz := size_list s
    have key := Go.Ab.all_loop s.data.toList ChOK (step := i_isName_L1 s) ?_ ?_ 0 0 rfl (by omega)
    · rcases key with ⟨g1, g2⟩ | ⟨g1, g2⟩
      · rw [g1, flb_go]
        have : NameOK s := ⟨h1, fun i c hc => g2 i c (by omega) hc⟩
        simp [this]
      · rw [g1, flb_ret]
        have : ¬ NameOK s := fun hn => g2 fun i c _ hc => hn.2 i c hc
        simp [this]
    · intro i x hx
      have hi := (List.getElem?_eq_some_iff.1 hx).1
      have hg : s.data.toList.getD (i : Int).toNat 0 = x := by rw [Int.toNat_natCast]; exact getD_of hx
      have hc : chk ((0 : Int) ≤ (i : Int) ∧ (i : Int) < (s.size : Int)) = some () := chk_of (by omega)
      have hlt : decide ((i : Int) < (s.size : Int)) = true := by simp; omega
      unfold i_isName_L1
      simp only [hlt, if_true, hc, hg, Option.bind_some, w64_succ (n := i) (by omega)]
      unfold ChOK
      by_cases a1 : (97 : Int) ≤ (x.toNat : Int)
      · by_cases a2 : (x.toNat : Int) ≤ 122
        · left; refine ⟨by simp [a1, a2], .inl ⟨a1, a2⟩⟩
        · right
          refine ⟨?_, by omega⟩
          have b1 : decide ((x.toNat : Int) < 48) = false := by simp; omega
          have b2 : decide ((57 : Int) < (x.toNat : Int)) = true := by simp; omega
          have c1 : ¬ (x.toNat : Int) < 48 := by omega
          have c2 : (57 : Int) < (x.toNat : Int) := by omega
          by_cases hi0 : i = 0
          · simp [a1, a2, hi0]
          · have hi0' : ((i : Int) == 0) = false := by simp; omega
            simp [a1, a2, hi0', c1, c2]
      · by_cases hi0 : i = 0
        · right
          refine ⟨by simp [a1, hi0], by omega⟩
        · have hi0' : ((i : Int) == 0) = false := by simp; omega
          by_cases b1 : (x.toNat : Int) < 48
          · right
            refine ⟨by simp [a1, hi0', b1], by omega⟩
          · by_cases b2 : (57 : Int) < (x.toNat : Int)
            · right
              refine ⟨by simp [a1, hi0', b1, b2], by omega⟩
            · left
              refine ⟨by simp [a1, hi0', b1, b2], .inr ⟨hi0, by omega, by omega⟩⟩
    · unfold i_isName_L1
      rw [hsz]
      simp
  · have : ¬ NameOK s := fun h => h1 h.1
    have e : (if (decide ((s.size : Int) < 1)) = true then some true else some (decide (8 < (s.size : Int)))) = some true := by
      by_cases h2 : s.size < 1
      · have : decide ((s.size : Int) < 1) = true := by simp; omega
        simp [this]
      · have e1 : decide ((s.size : Int) < 1) = false := by simp; omega
        have e2 : decide (8 < (s.size : Int)) = true := by simp; omega
        simp [e1, e2]
    rw [e]
    simp [this]

theorem l2Name_eq (s : ByteArray) : s_l2Name s = some (decide (NameOK s)) := by
  unfold s_l2Name
  rw [l1In_eq]
  simp only [Option.bind_some]
  by_cases h1 : 1 ≤ s.size ∧ s.size ≤ 8
  · have e1 : decide ((1 : Int) ≤ (s.size : Int) ∧ (s.size : Int) ≤ 8) = true := by simp; omega
    have hsz := size_list s
    obtain ⟨x0, hx0⟩ := get_ex (l := s.data.toList) (i := 0) (by omega)
    have hg0 : s.data.toList.getD (0 : Int).toNat 0 = x0 := getD_of hx0
    have hc0 : chk ((0 : Int) ≤ 0 ∧ 0 < (s.size : Int)) = some () := chk_of (by omega)
    simp only [e1, Bool.not_true, Bool.false_eq_true, if_false, hc0, hg0, Option.bind_some]
    by_cases a0 : 97 ≤ (x0.toNat : Int) ∧ (x0.toNat : Int) ≤ 122
    · have b1 : decide ((x0.toNat : Int) < 97) = false := by simp; omega
      have b2 : decide ((122 : Int) < (x0.toNat : Int)) = false := by simp; omega
      simp only [b1, b2, Bool.false_eq_true, if_false, Option.bind_some]
      have key := Go.Ab.all_loop s.data.toList ChOK (step := s_l2Name_L1 s) ?_ ?_ 0 0 rfl (by omega)
      · rcases key with ⟨g1, g2⟩ | ⟨g1, g2⟩
        · rw [g1, flb_go]
          have : NameOK s := ⟨h1, fun i c hc => g2 i c (by omega) hc⟩
          simp [this]
        · rw [g1, flb_ret]
          have : ¬ NameOK s := fun hn => g2 fun i c _ hc => hn.2 i c hc
          simp [this]
      · intro i x hx
        have hi := (List.getElem?_eq_some_iff.1 hx).1
        have hg : s.data.toList.getD (i : Int).toNat 0 = x := by rw [Int.toNat_natCast]; exact getD_of hx
        have hc : chk ((0 : Int) ≤ (i : Int) ∧ (i : Int) < (s.size : Int)) = some () := chk_of (by omega)
        have hlt : decide ((i : Int) < (s.size : Int)) = true := by simp; omega
        have h0 : i = 0 → x = x0 := fun h => by subst h; rw [hx0] at hx; cases hx; rfl
        unfold s_l2Name_L1
        simp only [hlt, if_true, hc, hg, Option.bind_some, w64_succ (n := i) (by omega)]
        unfold ChOK
        by_cases a1 : (x.toNat : Int) < 97
        · have hi0 : i ≠ 0 := fun h => by have := h0 h; subst this; omega
          by_cases c1 : (x.toNat : Int) < 48
          · right; refine ⟨by simp [a1, c1], by omega⟩
          · by_cases c2 : (57 : Int) < (x.toNat : Int)
            · right; refine ⟨by simp [a1, c1, c2], by omega⟩
            · left; refine ⟨by simp [a1, c1, c2], .inr ⟨hi0, by omega, by omega⟩⟩
        · by_cases a2 : (122 : Int) < (x.toNat : Int)
          · right
            have c1 : ¬ (x.toNat : Int) < 48 := by omega
            have c2 : (57 : Int) < (x.toNat : Int) := by omega
            refine ⟨by simp [a1, a2, c1, c2], by omega⟩
          · left; refine ⟨by simp [a1, a2], .inl ⟨by omega, by omega⟩⟩
      · unfold s_l2Name_L1
        rw [hsz]
        simp
    · have : ¬ NameOK s := fun hn => by
        have := hn.2 0 x0 hx0
        unfold ChOK at this
        omega
      have e : (if (decide ((x0.toNat : Int) < 97)) = true then some true else some (decide ((122 : Int) < (x0.toNat : Int)))) = some true := by
        by_cases h2 : (x0.toNat : Int) < 97
        · simp [h2]
        · have : (122 : Int) < (x0.toNat : Int) := by omega
          simp [h2, this]
      rw [e]
      simp [this]
  · have e1 : decide ((1 : Int) ≤ (s.size : Int) ∧ (s.size : Int) ≤ 8) = false := by simp; omega
    have : ¬ NameOK s := fun h => h1 h.1
    simp [e1, this]

/-! Searches -/
theorem index_str_eq (l : List ByteArray) (hl : l.length ≤ 4000000000) (v : ByteArray) : slices_Index_string l v = some (fixI (fun e => v.toList == e.toList) l) := by
  unfold slices_Index_string
  refine find_val l (fun e => v.toList == e.toList) (fun i x hx => ?_) (by unfold slices_Index_string_L1; simp)
  have hi := (List.getElem?_eq_some_iff.1 hx).1
  unfold slices_Index_string_L1
  have hlt : decide ((i : Int) < (l.length : Int)) = true := by simp; omega
  simp only [hlt, if_true, idx_nat, hx, Option.bind_some, w64_succ (n := i) (by omega)]
  split <;> rfl
theorem index_int_eq (l : List Int) (hl : l.length ≤ 4000000000) (v : Int) : slices_Index_int l v = some (fixI (fun e => v == e) l) := by
  unfold slices_Index_int
  refine find_val l (fun e => v == e) (fun i x hx => ?_) (by unfold slices_Index_int_L1; simp)
  have hi := (List.getElem?_eq_some_iff.1 hx).1
  unfold slices_Index_int_L1
  have hlt : decide ((i : Int) < (l.length : Int)) = true := by simp; omega
  simp only [hlt, if_true, idx_nat, hx, Option.bind_some, w64_succ (n := i) (by omega)]
  split <;> rfl
theorem l2Place_eq (x : Line) (hl : x.Stops.length ≤ 4000000000) (v : Int) : s_l2Place x v = some (fixI (fun e => v == e) x.Stops) := by
  have hc : fixI (fun e => v == e) x.Stops = fixI (fun e => e == v) x.Stops := fixI_congr _ fun e => BEq.comm
  rw [hc]
  unfold s_l2Place
  refine find_val x.Stops (fun e => e == v) (fun i y hx => ?_) (by unfold s_l2Place_L1; simp)
  have hi := (List.getElem?_eq_some_iff.1 hx).1
  unfold s_l2Place_L1
  have hlt : decide ((i : Int) < (x.Stops.length : Int)) = true := by simp; omega
  simp only [hlt, if_true, idx_nat, hx, Option.bind_some, w64_succ (n := i) (by omega)]
  split <;> rfl
theorem bl_comm (a b : List UInt8) : (a == b) = (b == a) := BEq.comm
theorem l2Find_eq (l : List ByteArray) (hl : l.length ≤ 4000000000) (v : ByteArray) : s_l2Find l v = some (fixI (fun e => v.toList == e.toList) l) := by
  rw [fixI_congr l (q := fun e => e.toList == v.toList) fun e => bl_comm _ _]
  unfold s_l2Find
  refine find_val l (fun e => e.toList == v.toList) (fun i x hx => ?_) (by unfold s_l2Find_L1; simp)
  have hi := (List.getElem?_eq_some_iff.1 hx).1
  unfold s_l2Find_L1
  have hlt : decide ((i : Int) < (l.length : Int)) = true := by simp; omega
  simp only [hlt, if_true, idx_nat, hx, Option.bind_some, w64_succ (n := i) (by omega)]
  split <;> rfl
theorem l2LineNamed_eq (n : Network) (hl : n.Lines.length ≤ 4000000000) (v : ByteArray) : s_l2LineNamed n v = some (fixI (fun e => v.toList == e.toList) (n.Lines.map (·.Name))) := by
  rw [fixI_map, fixI_congr n.Lines (q := fun e => e.Name.toList == v.toList) fun e => bl_comm _ _]
  unfold s_l2LineNamed
  refine find_val n.Lines (fun e => e.Name.toList == v.toList) (fun i x hx => ?_) (by unfold s_l2LineNamed_L1; simp)
  have hi := (List.getElem?_eq_some_iff.1 hx).1
  unfold s_l2LineNamed_L1
  have hlt : decide ((i : Int) < (n.Lines.length : Int)) = true := by simp; omega
  simp only [hlt, if_true, idx_nat, hx, Option.bind_some, w64_succ (n := i) (by omega)]
  split <;> rfl
def NamesP (l : List ByteArray) : Prop := ∀ (i : Nat) x, l[i]? = some x → NameOK x ∧ fixI (fun e => x.toList == e.toList) l = (i : Int)
def LineP (st : Nat) (x : Line) : Prop := (2 ≤ x.Stops.length ∧ x.Stops.length ≤ 6) ∧ (x.Runs.length : Int) = (x.Stops.length : Int) - 1 ∧
  (∀ (i : Nat) e, x.Stops[i]? = some e → (0 ≤ e ∧ e < (st : Int)) ∧ fixI (fun y => e == y) x.Stops = (i : Int)) ∧ ∀ (i : Nat) r, x.Runs[i]? = some r → 1 ≤ r ∧ r ≤ 60
def Good (n : Network) : Prop := (2 ≤ n.Stops.length ∧ n.Stops.length ≤ 8) ∧ (1 ≤ n.Lines.length ∧ n.Lines.length ≤ 5) ∧ NamesP n.Stops ∧ NamesP (n.Lines.map (·.Name)) ∧ ∀ (i : Nat) x, n.Lines[i]? = some x → LineP n.Stops.length x
noncomputable instance (l : List ByteArray) : Decidable (NamesP l) := Classical.propDecidable _
noncomputable instance (st : Nat) (x : Line) : Decidable (LineP st x) := Classical.propDecidable _
noncomputable instance (n : Network) : Decidable (Good n) := Classical.propDecidable _
/-- No list is too long. -/
def Bd (n : Network) : Prop := n.Stops.length ≤ 1000 ∧ n.Lines.length ≤ 1000 ∧ ∀ x ∈ n.Lines, x.Stops.length ≤ 1000 ∧ x.Runs.length ≤ 1000

theorem areNames_eq (l : List ByteArray) (hl : l.length ≤ 1000) : i_areNames l = some (decide (NamesP l)) := by
  unfold i_areNames
  rw [all_val (hd := Classical.propDecidable _) l (fun i x => NameOK x ∧ fixI (fun e => x.toList == e.toList) l = (i : Int)) (fun i x hx => ?_) (by unfold i_areNames_L1; simp)]
  · by_cases h : NamesP l
    · rw [if_pos (show ∀ (i : Nat) x, l[i]? = some x → NameOK x ∧ fixI (fun e => x.toList == e.toList) l = (i : Int) from h)]; simp [h]
    · rw [if_neg (show ¬ ∀ (i : Nat) x, l[i]? = some x → NameOK x ∧ fixI (fun e => x.toList == e.toList) l = (i : Int) from h)]; simp [h]
  · have hi := (List.getElem?_eq_some_iff.1 hx).1
    unfold i_areNames_L1
    have hlt : decide ((i : Int) < (l.length : Int)) = true := by simp; omega
    simp only [hlt, if_true, idx_nat, hx, Option.bind_some, isName_eq, index_str_eq l (by omega), w64_succ (n := i) (by omega)]
    by_cases h1 : NameOK x
    · by_cases h2 : fixI (fun e => x.toList == e.toList) l = (i : Int)
      · left; simp [h1, h2]
      · right; simp [h1, h2]
    · right; simp [h1]

theorem lineNames_eq (n : Network) (hl : n.Lines.length ≤ 1000) : i_lineNames n = some (n.Lines.map (·.Name)) := by
  unfold i_lineNames
  rw [chk_of (by omega)]
  simp only [Option.bind_some]
  rw [fill_loop (fun x : Line => x.Name) n.Lines _ (by simp) (fun i a x y ha hy hx => ?_) (fun a ha => ?_)]
  · rfl
  · have hi := (List.getElem?_eq_some_iff.1 hx).1
    unfold i_lineNames_L1
    have hlt : decide ((i : Int) < (n.Lines.length : Int)) = true := by simp; omega
    simp only [hlt, if_true, idx_nat, hx, hy, Option.bind_some, w64_succ (n := i) (by omega), Int.toNat_natCast]
  · unfold i_lineNames_L1; simp

theorem isStop_eq (n : Network) (e : Int) : i_isStop n e = some (decide (0 ≤ e ∧ e < (n.Stops.length : Int))) := by
  unfold i_isStop
  by_cases h : 0 ≤ e <;> simp [h]
theorem isLine_eq (n : Network) (e : Int) : i_isLine n e = some (decide (0 ≤ e ∧ e < (n.Lines.length : Int))) := by
  unfold i_isLine
  by_cases h : 0 ≤ e <;> simp [h]

theorem isValidLine_eq (n : Network) (l : Line) (h1 : l.Stops.length ≤ 1000) (h2 : l.Runs.length ≤ 1000) : i_isValidLine n l = some (decide (LineP n.Stops.length l)) := by
  unfold i_isValidLine
  rw [within_eq]
  have e0 : w64 ((l.Stops.length : Int) - 1) = (l.Stops.length : Int) - 1 := w64_id (by omega)
  simp only [Option.bind_some, e0]
  by_cases a1 : 2 ≤ l.Stops.length ∧ l.Stops.length ≤ 6
  · have d1 : decide ((2 : Int) ≤ (l.Stops.length : Int) ∧ (l.Stops.length : Int) ≤ 6) = true := by simp; omega
    simp only [d1, Bool.not_true, Bool.false_eq_true, if_false]
    by_cases a2 : (l.Runs.length : Int) = (l.Stops.length : Int) - 1
    · have d2 : ((l.Runs.length : Int) != (l.Stops.length : Int) - 1) = false := by simp [a2]
      simp only [d2, Option.bind_some, Bool.false_eq_true, if_false]
      rw [all_val (hd := Classical.propDecidable _) l.Stops (fun i e => (0 ≤ e ∧ e < (n.Stops.length : Int)) ∧ fixI (fun y => e == y) l.Stops = (i : Int)) (fun i x hx => ?_) (by unfold i_isValidLine_L1; simp)]
      · rw [all_val (hd := Classical.propDecidable _) l.Runs (fun i r => 1 ≤ r ∧ r ≤ 60) (fun i x hx => ?_) (by unfold i_isValidLine_L2; simp)]
        · by_cases b1 : ∀ (i : Nat) e, l.Stops[i]? = some e → (0 ≤ e ∧ e < (n.Stops.length : Int)) ∧ fixI (fun y => e == y) l.Stops = (i : Int)
          · rw [if_pos b1]
            by_cases b2 : ∀ (i : Nat) r, l.Runs[i]? = some r → 1 ≤ r ∧ r ≤ 60
            · rw [if_pos b2]
              have : LineP n.Stops.length l := ⟨a1, a2, b1, b2⟩
              simp [this]
            · rw [if_neg b2]
              have : ¬ LineP n.Stops.length l := fun h => b2 h.2.2.2
              simp [this]
          · rw [if_neg b1]
            have : ¬ LineP n.Stops.length l := fun h => b1 h.2.2.1
            simp [this]
        · have hi := (List.getElem?_eq_some_iff.1 hx).1
          unfold i_isValidLine_L2
          have hlt : decide ((i : Int) < (l.Runs.length : Int)) = true := by simp; omega
          simp only [hlt, if_true, idx_nat, hx, Option.bind_some, within_eq, w64_succ (n := i) (by omega)]
          by_cases b : 1 ≤ x ∧ x ≤ 60
          · left; simp [b]
          · right; simp [b]
      · have hi := (List.getElem?_eq_some_iff.1 hx).1
        unfold i_isValidLine_L1
        have hlt : decide ((i : Int) < (l.Stops.length : Int)) = true := by simp; omega
        simp only [hlt, if_true, idx_nat, hx, Option.bind_some, isStop_eq, index_int_eq l.Stops (by omega), w64_succ (n := i) (by omega)]
        by_cases b1 : 0 ≤ x ∧ x < (n.Stops.length : Int)
        · by_cases b2 : fixI (fun y => x == y) l.Stops = (i : Int)
          · left; simp [b1, b2]
          · right; simp [b1, b2]
        · right; simp [b1]
    · have d2 : ((l.Runs.length : Int) != (l.Stops.length : Int) - 1) = true := by simp [a2]
      have : ¬ LineP n.Stops.length l := fun h => a2 h.2.1
      simp [d2, this]
  · have d1 : decide ((2 : Int) ≤ (l.Stops.length : Int) ∧ (l.Stops.length : Int) ≤ 6) = false := by simp; omega
    have : ¬ LineP n.Stops.length l := fun h => a1 h.1
    simp [d1, this]

theorem l2Line_eq (l : Line) (st : Nat) (hst : st ≤ 1000) (h1 : l.Stops.length ≤ 1000) (h2 : l.Runs.length ≤ 1000) : s_l2Line l (st : Int) = some (decide (NameOK l.Name ∧ LineP st l)) := by
  unfold s_l2Line
  rw [l2Name_eq]
  have e0 : w64 ((l.Stops.length : Int) - 1) = (l.Stops.length : Int) - 1 := w64_id (by omega)
  have e1 : w64 ((st : Int) - 1) = (st : Int) - 1 := w64_id (by omega)
  simp only [Option.bind_some, e0, l1In_eq]
  by_cases a0 : NameOK l.Name
  · simp only [a0, decide_true, Bool.not_true, Bool.false_eq_true, if_false, true_and]
    by_cases a1 : 2 ≤ l.Stops.length ∧ l.Stops.length ≤ 6
    · have d1 : decide ((2 : Int) ≤ (l.Stops.length : Int) ∧ (l.Stops.length : Int) ≤ 6) = true := by simp; omega
      simp only [d1, Bool.not_true, Bool.false_eq_true, if_false]
      by_cases a2 : (l.Runs.length : Int) = (l.Stops.length : Int) - 1
      · have d2 : ((l.Runs.length : Int) != (l.Stops.length : Int) - 1) = false := by simp [a2]
        simp only [d2, Option.bind_some, Bool.false_eq_true, if_false]
        rw [all_val (hd := Classical.propDecidable _) l.Stops (fun i e => (0 ≤ e ∧ e < (st : Int)) ∧ fixI (fun y => e == y) l.Stops = (i : Int)) (fun i x hx => ?_) (by unfold s_l2Line_L1; simp)]
        · rw [all_val (hd := Classical.propDecidable _) l.Runs (fun i r => 1 ≤ r ∧ r ≤ 60) (fun i x hx => ?_) (by unfold s_l2Line_L2; simp)]
          · by_cases b1 : ∀ (i : Nat) e, l.Stops[i]? = some e → (0 ≤ e ∧ e < (st : Int)) ∧ fixI (fun y => e == y) l.Stops = (i : Int)
            · rw [if_pos b1]
              by_cases b2 : ∀ (i : Nat) r, l.Runs[i]? = some r → 1 ≤ r ∧ r ≤ 60
              · rw [if_pos b2]
                have : LineP st l := ⟨a1, a2, b1, b2⟩
                simp [this]
              · rw [if_neg b2]
                have : ¬ LineP st l := fun h => b2 h.2.2.2
                simp [this]
            · rw [if_neg b1]
              have : ¬ LineP st l := fun h => b1 h.2.2.1
              simp [this]
          · have hi := (List.getElem?_eq_some_iff.1 hx).1
            unfold s_l2Line_L2
            have hlt : decide ((i : Int) < (l.Runs.length : Int)) = true := by simp; omega
            simp only [hlt, if_true, idx_nat, hx, Option.bind_some, l1In_eq, w64_succ (n := i) (by omega)]
            by_cases b : 1 ≤ x ∧ x ≤ 60
            · left; simp [b]
            · right; simp [b]
        · have hi := (List.getElem?_eq_some_iff.1 hx).1
          unfold s_l2Line_L1
          have hlt : decide ((i : Int) < (l.Stops.length : Int)) = true := by simp; omega
          simp only [hlt, if_true, idx_nat, hx, Option.bind_some, l1In_eq, e1, l2Place_eq l (by omega), w64_succ (n := i) (by omega)]
          by_cases b1 : 0 ≤ x ∧ x < (st : Int)
          · have d3 : decide (0 ≤ x ∧ x ≤ (st : Int) - 1) = true := by simp; omega
            by_cases b2 : fixI (fun y => x == y) l.Stops = (i : Int)
            · left; simp only [d3]; simp [b1, b2]
            · right; simp only [d3]; simp [b1, b2]
          · have d3 : decide (0 ≤ x ∧ x ≤ (st : Int) - 1) = false := by simp; omega
            right; simp only [d3]; simp [b1]
      · have d2 : ((l.Runs.length : Int) != (l.Stops.length : Int) - 1) = true := by simp [a2]
        have : ¬ LineP st l := fun h => a2 h.2.1
        simp [d2, this]
    · have d1 : decide ((2 : Int) ≤ (l.Stops.length : Int) ∧ (l.Stops.length : Int) ≤ 6) = false := by simp; omega
      have : ¬ LineP st l := fun h => a1 h.1
      simp [d1, this]
  · simp [a0]

theorem valid_eq (n : Network) (h : Bd n) : i_IsValidNetwork n = some (decide (Good n)) := by
  obtain ⟨h1, h2, h3⟩ := h
  unfold i_IsValidNetwork
  simp only [within_eq, Option.bind_some, areNames_eq n.Stops h1, lineNames_eq n h2, areNames_eq (n.Lines.map (·.Name)) (by simpa using h2)]
  by_cases a1 : 2 ≤ n.Stops.length ∧ n.Stops.length ≤ 8
  · have d1 : decide ((2 : Int) ≤ (n.Stops.length : Int) ∧ (n.Stops.length : Int) ≤ 8) = true := by simp; omega
    simp only [d1, Bool.not_true, Bool.false_eq_true, if_false]
    by_cases a2 : 1 ≤ n.Lines.length ∧ n.Lines.length ≤ 5
    · have d2 : decide ((1 : Int) ≤ (n.Lines.length : Int) ∧ (n.Lines.length : Int) ≤ 5) = true := by simp; omega
      simp only [d2, Bool.not_true, Bool.false_eq_true, if_false]
      by_cases a3 : NamesP n.Stops
      · simp only [a3, decide_true, Bool.not_true, Bool.false_eq_true, if_false]
        by_cases a4 : NamesP (n.Lines.map (·.Name))
        · simp only [a4, decide_true, Bool.not_true, Option.bind_some, Bool.false_eq_true, if_false]
          rw [all_val (hd := Classical.propDecidable _) n.Lines (fun i x => LineP n.Stops.length x) (fun i x hx => ?_) (by unfold i_IsValidNetwork_L1; simp)]
          · by_cases b1 : ∀ (i : Nat) x, n.Lines[i]? = some x → LineP n.Stops.length x
            · rw [if_pos b1]
              have : Good n := ⟨a1, a2, a3, a4, b1⟩
              simp [this]
            · rw [if_neg b1]
              have : ¬ Good n := fun h => b1 h.2.2.2.2
              simp [this]
          · have hi := (List.getElem?_eq_some_iff.1 hx).1
            obtain ⟨g1, g2⟩ := h3 x (List.mem_of_getElem? hx)
            unfold i_IsValidNetwork_L1
            have hlt : decide ((i : Int) < (n.Lines.length : Int)) = true := by simp; omega
            simp only [hlt, if_true, idx_nat, hx, Option.bind_some, isValidLine_eq n x g1 g2, w64_succ (n := i) (by omega)]
            by_cases b : LineP n.Stops.length x
            · left; simp [b]
            · right; simp [b]
        · have : ¬ Good n := fun h => a4 h.2.2.2.1
          simp [a4, this]
      · have : ¬ Good n := fun h => a3 h.2.2.1
        simp [a3, this]
    · have d2 : decide ((1 : Int) ≤ (n.Lines.length : Int) ∧ (n.Lines.length : Int) ≤ 5) = false := by simp; omega
      have : ¬ Good n := fun h => a2 h.2.1
      simp [d2, this]
  · have d1 : decide ((2 : Int) ≤ (n.Stops.length : Int) ∧ (n.Stops.length : Int) ≤ 8) = false := by simp; omega
    have : ¬ Good n := fun h => a1 h.1
    simp [d1, this]

theorem good_eq (n : Network) (h : Bd n) : s_l2Good n = some (decide (Good n)) := by
  obtain ⟨h1, h2, h3⟩ := h
  unfold s_l2Good
  simp only [l1In_eq, Option.bind_some]
  by_cases a1 : 2 ≤ n.Stops.length ∧ n.Stops.length ≤ 8
  · have d1 : decide ((2 : Int) ≤ (n.Stops.length : Int) ∧ (n.Stops.length : Int) ≤ 8) = true := by simp; omega
    simp only [d1, Bool.not_true, Bool.false_eq_true, if_false]
    by_cases a2 : 1 ≤ n.Lines.length ∧ n.Lines.length ≤ 5
    · have d2 : decide ((1 : Int) ≤ (n.Lines.length : Int) ∧ (n.Lines.length : Int) ≤ 5) = true := by simp; omega
      simp only [d2, Bool.not_true, Option.bind_some, Bool.false_eq_true, if_false]
      rw [all_val (hd := Classical.propDecidable _) n.Stops (fun i x => NameOK x ∧ fixI (fun e => x.toList == e.toList) n.Stops = (i : Int)) (fun i x hx => ?_) (by unfold s_l2Good_L1; simp)]
      · rw [all_val (hd := Classical.propDecidable _) n.Lines (fun i x => (NameOK x.Name ∧ LineP n.Stops.length x) ∧ fixI (fun e => x.Name.toList == e.toList) (n.Lines.map (·.Name)) = (i : Int)) (fun i x hx => ?_) (by unfold s_l2Good_L2; simp)]
        · by_cases b1 : NamesP n.Stops
          · rw [if_pos (show ∀ (i : Nat) x, n.Stops[i]? = some x → NameOK x ∧ fixI (fun e => x.toList == e.toList) n.Stops = (i : Int) from b1)]
            by_cases b2 : ∀ (i : Nat) x, n.Lines[i]? = some x → (NameOK x.Name ∧ LineP n.Stops.length x) ∧ fixI (fun e => x.Name.toList == e.toList) (n.Lines.map (·.Name)) = (i : Int)
            · rw [if_pos b2]
              have : Good n := ⟨a1, a2, b1, fun i y hy => by
                rw [List.getElem?_map] at hy
                obtain ⟨x, hx, rfl⟩ := Option.map_eq_some_iff.1 hy
                exact ⟨(b2 i x hx).1.1, (b2 i x hx).2⟩, fun i x hx => (b2 i x hx).1.2⟩
              simp [this]
            · rw [if_neg b2]
              have : ¬ Good n := fun h => b2 fun i x hx => by
                have h4 := h.2.2.2.1 i x.Name (by rw [List.getElem?_map, hx]; rfl)
                exact ⟨⟨h4.1, h.2.2.2.2 i x hx⟩, h4.2⟩
              simp [this]
          · rw [if_neg (show ¬ ∀ (i : Nat) x, n.Stops[i]? = some x → NameOK x ∧ fixI (fun e => x.toList == e.toList) n.Stops = (i : Int) from b1)]
            have : ¬ Good n := fun h => b1 h.2.2.1
            simp [this]
        · have hi := (List.getElem?_eq_some_iff.1 hx).1
          obtain ⟨g1, g2⟩ := h3 x (List.mem_of_getElem? hx)
          unfold s_l2Good_L2
          have hlt : decide ((i : Int) < (n.Lines.length : Int)) = true := by simp; omega
          simp only [hlt, if_true, idx_nat, hx, Option.bind_some, l2Line_eq x n.Stops.length h1 g1 g2, l2LineNamed_eq n (by omega), w64_succ (n := i) (by omega)]
          by_cases b1 : NameOK x.Name ∧ LineP n.Stops.length x
          · by_cases b2 : fixI (fun e => x.Name.toList == e.toList) (n.Lines.map (·.Name)) = (i : Int)
            · left; simp [b1, b2]
            · right; simp [b1, b2]
          · right; simp [b1]
      · have hi := (List.getElem?_eq_some_iff.1 hx).1
        unfold s_l2Good_L1
        have hlt : decide ((i : Int) < (n.Stops.length : Int)) = true := by simp; omega
        simp only [hlt, if_true, idx_nat, hx, Option.bind_some, l2Name_eq, l2Find_eq n.Stops (by omega), w64_succ (n := i) (by omega)]
        by_cases b1 : NameOK x
        · by_cases b2 : fixI (fun e => x.toList == e.toList) n.Stops = (i : Int)
          · left; simp [b1, b2]
          · right; simp [b1, b2]
        · right; simp [b1]
    · have d2 : decide ((1 : Int) ≤ (n.Lines.length : Int) ∧ (n.Lines.length : Int) ≤ 5) = false := by simp; omega
      have : ¬ Good n := fun h => a2 h.2.1
      simp [d2, this]
  · have d1 : decide ((2 : Int) ≤ (n.Stops.length : Int) ∧ (n.Stops.length : Int) ≤ 8) = false := by simp; omega
    have : ¬ Good n := fun h => a1 h.1
    simp [d1, this]
/-! Copies, reversed lists, the reversed line. -/
theorem l1Own_eq (l : List Int) (h : l.length ≤ 1000) : s_l1Own_f l = some l := by
  unfold s_l1Own_f
  rw [chk_of (by simp; omega)]; rfl
theorem l2Own_eq (n : Network) (h : Bd n) : s_l2Own n = some n := by
  obtain ⟨h1, h2, h3⟩ := h
  unfold s_l2Own
  rw [chk_of (by simp; omega)]
  simp only [Option.bind_some]
  rw [app_loop (fun x : Line => x) n.Lines (fun i a x ha hx => ?_) (fun a ha => ?_)]
  · simp only [Option.bind_some, List.map_id', List.nil_append]
  · have hi := (List.getElem?_eq_some_iff.1 hx).1
    obtain ⟨g1, g2⟩ := h3 x (List.mem_of_getElem? hx)
    unfold s_l2Own_L1
    have hlt : decide ((i : Int) < (n.Lines.length : Int)) = true := by simp; omega
    have hch : ∀ y : Line, chk (a.length + ([y] : List Line).length ≤ 4294967296) = some () := fun y => chk_of (by simp; omega)
    simp only [hlt, if_true, idx_nat, hx, Option.bind_some, l1Own_eq _ g1, l1Own_eq _ g2, hch, w64_succ (n := i) (by omega)]
  · unfold s_l2Own_L1; simp
theorem l2Own_t_eq (n : Network) (h : Bd n) : s_l2Own_t n = some n := by
  have : s_l2Own_t n = s_l2Own n := rfl
  rw [this]; exact l2Own_eq n h

theorem l2Back_eq (s : List Int) (hs : s.length ≤ 1000) : s_l2Back s = some s.reverse := by
  unfold s_l2Back
  have e0 : w64 ((s.length : Int) - 1) = (s.length : Int) - 1 := w64_id (by omega)
  rw [e0]
  have h := iter_rule (step := s_l2Back_L1 s) (fun m a => ∃ j : Nat, a.1 = (s.length : Int) - 1 - j ∧ m + j = s.length ∧ a.2 = s.reverse.take j) (fun b => b = s.reverse) ?_ (k := s.length) (a := ((s.length : Int) - 1, [])) ⟨0, by simp, by omega, by simp⟩
  · obtain ⟨b, hb, rfl⟩ := h
    rw [hb]; rfl
  rintro m ⟨v, i⟩ ⟨j, hv, hm, hi⟩
  simp only at hv hi
  subst hv
  by_cases hlt : j < s.length
  · left
    have ev : (s.length : Int) - 1 - j = ((s.length - 1 - j : Nat) : Int) := by omega
    rw [ev]
    obtain ⟨e, he⟩ := get_ex (l := s) (i := s.length - 1 - j) (by omega)
    have hd : decide ((0 : Int) ≤ ((s.length - 1 - j : Nat) : Int)) = true := by simp
    have hlen : i.length = j := by rw [hi]; simp; omega
    have hch : chk (i.length + ([e] : List Int).length ≤ 4294967296) = some () := chk_of (by simp; omega)
    have ev2 : w64 (((s.length - 1 - j : Nat) : Int) - 1) = (s.length : Int) - 1 - ((j + 1 : Nat) : Int) := by rw [w64_id (by omega)]; omega
    refine ⟨((s.length : Int) - 1 - ((j + 1 : Nat) : Int), i ++ [e]), m - 1, ?_, by omega, j + 1, rfl, by omega, ?_⟩
    · unfold s_l2Back_L1
      simp only [hd, if_true, idx_nat, he, hch, Option.bind_some, ev2]
    · show i ++ [e] = _
      rw [take_succ (x := e) (by rw [List.getElem?_reverse hlt]; exact he), hi]
  · right
    have ej : j = s.length := by omega
    subst ej
    have hd : decide ((0 : Int) ≤ (s.length : Int) - 1 - (s.length : Int)) = false := by simp; omega
    refine ⟨i, by unfold s_l2Back_L1; simp only [hd, Bool.false_eq_true, if_false], ?_⟩
    rw [hi, List.take_of_length_le (by simp)]
theorem l2BackF_eq (s : List Int) (hs : s.length ≤ 1000) : s_l2Back_f s = some s.reverse := l2Back_eq s hs

/-- The network with the reversed line. -/
def Rev (n : Network) (e : Line) (name : ByteArray) : Network := ⟨n.Stops, n.Lines ++ [⟨name, e.Stops.reverse, e.Runs.reverse⟩]⟩
def Asked (n : Network) (line : Int) (name : ByteArray) : Prop := Good n ∧ 0 ≤ line ∧ ∃ e, n.Lines[line.toNat]? = some e ∧ Good (Rev n e name)
theorem good_lines {n : Network} (h : Good n) : n.Lines.length ≤ 5 := h.2.1.2
theorem rev_bd {n : Network} {e : Line} {name : ByteArray} (h : Bd n) (hg : Good n) (he : e ∈ n.Lines) : Bd (Rev n e name) := by
  obtain ⟨h1, h2, h3⟩ := h
  have := good_lines hg
  refine ⟨h1, by simp [Rev]; omega, fun x hx => ?_⟩
  rcases List.mem_append.1 hx with hx | hx
  · exact h3 x hx
  · simp at hx
    subst hx
    obtain ⟨g1, g2⟩ := h3 e he
    exact ⟨by simpa using g1, by simpa using g2⟩

/-! The draws: they answer, with bounds. -/
/-- A drawn line. -/
def LB (x : Line) : Prop := (2 ≤ x.Stops.length ∧ x.Stops.length ≤ 10) ∧ 1 ≤ x.Runs.length ∧ x.Runs.length ≤ 10
def NB (n : Network) : Prop := (2 ≤ n.Stops.length ∧ n.Stops.length ≤ 6) ∧ (1 ≤ n.Lines.length ∧ n.Lines.length ≤ 8) ∧ ∀ x ∈ n.Lines, LB x
theorem NB.bd {n : Network} (h : NB n) : Bd n := ⟨by have := h.1; omega, by have := h.2.1; omega, fun x hx => by have := h.2.2 x hx; unfold LB at this; omega⟩
theorem l1Num_ok (n : Int) (h0 : 0 ≤ n) (h1 : n < 10) : ∃ r, s_l1Num n = some r ∧ r.size ≤ 10 := by
  have e : s_l1Num n = s_l1Num_F (s_l1Num_k 4294967295) n := rfl
  rw [e]
  unfold s_l1Num_F
  have d1 : decide (n < 0) = false := by simp; omega
  have d2 : decide (n < 10) = true := by simp; omega
  have e1 : w64 (n + 1) = n + 1 := w64_id (by omega)
  have hs : (str [48, 49, 50, 51, 52, 53, 54, 55, 56, 57]).size = 10 := rfl
  simp only [d1, d2, Bool.false_eq_true, if_false, if_true, e1, hs]
  rw [chk_of (by omega)]
  refine ⟨_, rfl, ?_⟩
  rw [ByteArray.size_extract, hs]
  omega

theorem line_ok {k : Nat} {c : l1Cur} (name : ByteArray) (stops : Int) (hs : 2 ≤ stops ∧ stops ≤ 1000) (h : Cur k c) (hk : k ≤ 1000000000) : ∃ r, s_l1Cur_line c name stops = some r ∧ Cur (k + 40) r.2 ∧ LB r.1 := by
  unfold s_l1Cur_line
  obtain ⟨r, hr, hc, h0, h1⟩ := pick_ok stops h (by omega)
  obtain ⟨r1, hr1, hc1, h10, h11⟩ := pick_ok 3 hc (by omega)
  simp only [hr, hr1, Option.bind_some]
  have e1 : w64 (2 + r1.1) = ((2 + r1.1.toNat : Nat) : Int) := by rw [w64_id (by omega)]; omega
  rw [e1]
  have loop : ∃ b, iter (s_l1Cur_line_L1 name stops) (r.1, ((2 + r1.1.toNat : Nat) : Int), r1.2.code_, r1.2.at_, r1.2.seed_.v, []) = some b ∧ (Cur (k + 4 + 2 * 4) ⟨b.1, b.2.1, ⟨b.2.2.1⟩⟩ ∧ 1 ≤ b.2.2.2.length ∧ b.2.2.2.length ≤ 4) := by
    refine iter_rule (fun m a => (0 ≤ a.1 ∧ a.1 < stops) ∧ a.2.1 = (m : Int) ∧ m + a.2.2.2.2.2.length ≤ 4 ∧ (1 ≤ m ∨ 1 ≤ a.2.2.2.2.2.length) ∧ Cur (k + 4 + 2 * (4 - m)) ⟨a.2.2.1, a.2.2.2.1, ⟨a.2.2.2.2.1⟩⟩) _ ?_ (k := 2 + r1.1.toNat) ⟨⟨h0, by show r.1 < stops; omega⟩, rfl, by simp; omega, .inl (by omega), hc1.mono (by omega)⟩
    rintro m ⟨v, v1, v2, v3, v4, v5⟩ ⟨hv, hv1, hl, hne, hcur⟩
    simp only at hv hv1 hl hne hcur
    subst hv1
    unfold s_l1Cur_line_L1
    cases m with
    | zero => right; exact ⟨_, by simp; rfl, hcur, by show 1 ≤ v5.length; omega, by show v5.length ≤ 4; omega⟩
    | succ m =>
      left
      have hpos : decide ((0 : Int) < ((m + 1 : Nat) : Int)) = true := by simp
      obtain ⟨r3, hr3, hc3, h30, h31⟩ := pick_ok 2 hcur (by omega)
      have hpl := l2Place_eq (⟨name, v5, []⟩ : Line) (by show v5.length ≤ _; omega) v
      have hch : chk (v5.length + ([v] : List Int).length ≤ 4294967296) = some () := chk_of (by simp; omega)
      have hne0 : chk (stops ≠ 0) = some () := chk_of (by omega)
      have w1 : w64 (v + 1) = v + 1 := w64_id (by omega)
      have w2 : w64 (v + 1 + r3.1) = v + 1 + r3.1 := w64_id (by omega)
      have ht := tmod_rng (a := v + 1 + r3.1) (b := stops) (by omega) (by omega)
      simp only [hpos, if_true, hpl, hch, hr3, hne0, w1, w2, Option.bind_some]
      have w3 : w64 (((m + 1 : Nat) : Int) - 1) = (m : Int) := w64_pred (by omega)
      split
      · refine ⟨_, m, by simp only [Option.bind_some]; rfl, by omega, ht, w3, ?_, .inr ?_, ?_⟩
        · simp; omega
        · simp
        · exact hc3.mono (by omega)
      · rename_i hn
        refine ⟨_, m, by simp only [Option.bind_some]; rfl, by omega, ht, w3, ?_, .inr ?_, ?_⟩
        · show m + v5.length ≤ 4; omega
        · show 1 ≤ v5.length
          cases v5 with
          | nil => simp [fixI] at hn
          | cons a l => simp
        · exact hc3.mono (by omega)
  obtain ⟨⟨v7, v8, v9, v10⟩, hb, hcb, hlb⟩ := loop
  simp only at hcb hlb
  rw [hb]
  simp only [Option.bind_some]
  -- at least two stops
  have two : ∃ v11 : List Int, (if decide ((v10.length : Int) < 2) = true then (idx v10 0).bind fun e1 => (chk ((stops : Int) ≠ 0)).bind fun u4 => (chk (v10.length + ([((w64 (e1 + 1)).tmod stops)] : List Int).length ≤ 4294967296)).bind fun u5 => some (v10 ++ ([((w64 (e1 + 1)).tmod stops)] : List Int)) else some v10) = some v11 ∧ 2 ≤ v11.length ∧ v11.length ≤ 5 := by
    by_cases h2 : (v10.length : Int) < 2
    · obtain ⟨e, he, _⟩ := idx_lt (l := v10) (i := 0) (by omega) (by omega)
      have hch : ∀ y : Int, chk (v10.length + ([y] : List Int).length ≤ 4294967296) = some () := fun y => chk_of (by simp; omega)
      have hne0 : chk (stops ≠ 0) = some () := chk_of (by omega)
      refine ⟨v10 ++ [(w64 (e + 1)).tmod stops], by simp only [h2, decide_true, if_true, he, hne0, hch, Option.bind_some], ?_, ?_⟩
      · simp; omega
      · simp; omega
    · exact ⟨v10, by simp [h2], by omega, by omega⟩
  obtain ⟨v11, hv11, l1, l2⟩ := two
  rw [hv11]
  simp only [Option.bind_some]
  have loop2 : ∃ b, iter (s_l1Cur_line_L2 v11) (1, v7, v8, v9, []) = some b ∧ (Cur (k + 40) ⟨b.1, b.2.1, ⟨b.2.2.1⟩⟩ ∧ b.2.2.2.length + 1 = v11.length) := by
    refine iter_rule (fun m a => ∃ i : Nat, a.1 = (i : Int) ∧ m + i = v11.length ∧ a.2.2.2.2.length + 1 = i ∧ Cur (k + 12 + 2 * i) ⟨a.2.1, a.2.2.1, ⟨a.2.2.2.1⟩⟩) _ ?_ (k := v11.length - 1) ⟨1, rfl, by omega, rfl, hcb.mono (by omega)⟩
    rintro m ⟨v12, v13, v14, v15, v16⟩ ⟨i, hi, hm, hl, hcur⟩
    simp only at hi hl hcur
    subst hi
    unfold s_l1Cur_line_L2
    by_cases hlt : i < v11.length
    · left
      have hd : decide ((i : Int) < (v11.length : Int)) = true := by simp; omega
      obtain ⟨r5, hr5, hc5, _⟩ := pick_ok 12 hcur (by omega)
      have hch : ∀ y : Int, chk (v16.length + ([y] : List Int).length ≤ 4294967296) = some () := fun y => chk_of (by simp; omega)
      refine ⟨_, m - 1, by simp only [hd, if_true, hr5, hch, Option.bind_some, w64_succ (n := i) (by omega)]; rfl, by omega, i + 1, rfl, by omega, ?_, ?_⟩
      · simp; omega
      · exact hc5.mono (by omega)
    · right
      have hd : decide ((i : Int) < (v11.length : Int)) = false := by simp; omega
      refine ⟨_, by simp only [hd, Bool.false_eq_true, if_false]; rfl, ?_, ?_⟩
      · exact hcur.mono (by omega)
      · show v16.length + 1 = _; omega
  obtain ⟨⟨v17, v18, v19, v20⟩, hb2, hcb2, hl2⟩ := loop2
  simp only at hcb2 hl2
  rw [hb2]
  simp only [Option.bind_some]
  exact ⟨_, rfl, hcb2, ⟨l1, by show v11.length ≤ 10; omega⟩, by show 1 ≤ v20.length; omega, by show v20.length ≤ 10; omega⟩
theorem lineF_ok {k : Nat} {c : l1Cur} (name : ByteArray) (stops : Int) (hs : 2 ≤ stops ∧ stops ≤ 1000) (h : Cur k c) (hk : k ≤ 1000000000) : ∃ r, s_l1Cur_line_f c name stops = some r ∧ Cur (k + 40) r.2 ∧ LB r.1 := line_ok name stops hs h hk

theorem six_len (i : Nat) (h2 : 2 ≤ i) (h6 : i ≤ 6) (l : List ByteArray) (hl : l.length = 6) : 2 ≤ ((l.take i).drop (0 : Int).toNat).length ∧ ((l.take i).drop (0 : Int).toNat).length ≤ 6 := by
  simp; omega

theorem networkT_ok {k : Nat} {c : l1Cur} (h : Cur k c) (hk : k ≤ 500000000) : ∃ r, s_l1Cur_network_t c = some r ∧ Cur (k + 300) r.2 ∧ NB r.1 := by
  unfold s_l1Cur_network_t
  obtain ⟨r, hr, hc, h0, h1⟩ := pick_ok 5 h (by omega)
  have e1 : w64 (2 + r.1) = 2 + r.1 := w64_id (by omega)
  have hsix : ([(str [112, 111, 114, 116]), (str [109, 105, 108, 108]), (str [112, 97, 114, 107]), (str [104, 97, 108, 108]), (str [100, 111, 99, 107]), (str [102, 97, 105, 114])] : List ByteArray).length = 6 := rfl
  simp only [hr, Option.bind_some, e1, hsix]
  rw [chk_of (by omega)]
  obtain ⟨r1, hr1, hc1, h10, h11⟩ := pick_ok 3 hc (by omega)
  have e2 : w64 (1 + r1.1) = ((1 + r1.1.toNat : Nat) : Int) := by rw [w64_id (by omega)]; omega
  simp only [hr1, Option.bind_some, e2]
  have loop : ∃ b, iter (s_l1Cur_network_t_L1 r) (((1 + r1.1.toNat : Nat) : Int), r1.2.code_, r1.2.at_, r1.2.seed_.v, []) = some b ∧ (Cur (k + 4 + 40 * 3) ⟨b.1, b.2.1, ⟨b.2.2.1⟩⟩ ∧ (1 ≤ b.2.2.2.length ∧ b.2.2.2.length ≤ 3) ∧ ∀ x ∈ b.2.2.2, LB x) := by
    refine iter_rule (fun m a => a.1 = (m : Int) ∧ m + a.2.2.2.2.length ≤ 3 ∧ 1 ≤ m + a.2.2.2.2.length ∧ (∀ x ∈ a.2.2.2.2, LB x) ∧ Cur (k + 4 + 40 * (3 - m)) ⟨a.2.1, a.2.2.1, ⟨a.2.2.2.1⟩⟩) _ ?_ (k := 1 + r1.1.toNat) ⟨rfl, by simp; omega, by simp, by simp, hc1.mono (by omega)⟩
    rintro m ⟨x, v, v1, v2, v3⟩ ⟨hx, hl, hl1, hlb, hcur⟩
    simp only at hx hl hl1 hlb hcur
    subst hx
    unfold s_l1Cur_network_t_L1
    cases m with
    | zero => right; exact ⟨_, by simp; rfl, hcur, ⟨by show 1 ≤ v3.length; omega, by show v3.length ≤ 3; omega⟩, hlb⟩
    | succ m =>
      left
      have hpos : decide ((0 : Int) < ((m + 1 : Nat) : Int)) = true := by simp
      obtain ⟨r4, hr4, hs4⟩ := l1Num_ok ((m + 1 : Nat) : Int) (by omega) (by omega)
      have hs : (str [108]).size = 1 := rfl
      have hch : chk ((str [108]).size + r4.size ≤ 4294967296) = some () := chk_of (by omega)
      obtain ⟨r5, hr5, hc5, hb5⟩ := lineF_ok (str [108] ++ r4) (2 + r.1) (by omega) hcur (by omega)
      have hch2 : ∀ y : Line, chk (v3.length + ([y] : List Line).length ≤ 4294967296) = some () := fun y => chk_of (by simp; omega)
      refine ⟨_, m, by simp only [hpos, if_true, hr4, hch, e1, hr5, hch2, Option.bind_some]; rfl, by omega, ?_, ?_, ?_, ?_, ?_⟩
      · exact w64_pred (by omega)
      · simp; omega
      · simp; omega
      · intro y hy
        rcases List.mem_append.1 hy with hy | hy
        · exact hlb y hy
        · simp at hy; subst hy; exact hb5
      · exact hc5.mono (by omega)
  obtain ⟨⟨v4, v5, v6, v7⟩, hb, hcb, hlb, hall⟩ := loop
  simp only at hcb hlb hall
  rw [hb]
  simp only [Option.bind_some]
  obtain ⟨r6, hr6, hc6⟩ := one_ok 2 hcb (by omega)
  simp only [hr6, Option.bind_some]
  have fin : ∀ (v8 : List UInt8) (v9 v10 : Int) (v11 : List Line), Cur (k + 200) ⟨v8, v9, ⟨v10⟩⟩ → (1 ≤ v11.length ∧ v11.length ≤ 8) → (∀ x ∈ v11, LB x) →
      ∃ r', ((s_l2Own_t (⟨((([(str [112, 111, 114, 116]), (str [109, 105, 108, 108]), (str [112, 97, 114, 107]), (str [104, 97, 108, 108]), (str [100, 111, 99, 107]), (str [102, 97, 105, 114])] : List ByteArray).take (2 + r.1).toNat).drop (0 : Int).toNat), v11⟩ : Network)).bind fun r11 => some ((⟨r11.Stops, r11.Lines⟩ : Network), (⟨v8, v9, (⟨v10⟩ : IK .u64)⟩ : l1Cur))) = some r' ∧ Cur (k + 300) r'.2 ∧ NB r'.1 := by
    intro v8 v9 v10 v11 g1 g2 g3
    have hst := six_len (2 + r.1).toNat (by omega) (by omega) _ hsix
    have hnb : NB (⟨((([(str [112, 111, 114, 116]), (str [109, 105, 108, 108]), (str [112, 97, 114, 107]), (str [104, 97, 108, 108]), (str [100, 111, 99, 107]), (str [102, 97, 105, 114])] : List ByteArray).take (2 + r.1).toNat).drop (0 : Int).toNat), v11⟩ : Network) := ⟨hst, g2, g3⟩
    rw [l2Own_t_eq _ hnb.bd]
    exact ⟨_, rfl, g1.mono (by omega), hnb⟩
  split
  · obtain ⟨e, he, _, hem⟩ := idx_lt (l := v7) (i := 0) (by omega) (by omega)
    obtain ⟨g1, g2⟩ := hall e hem
    have hch2 : ∀ y : Line, chk (v7.length + ([y] : List Line).length ≤ 4294967296) = some () := fun y => chk_of (by simp; omega)
    simp only [he, l2BackF_eq e.Stops (by omega), l2BackF_eq e.Runs (by omega), hch2, Option.bind_some]
    refine fin _ _ _ _ (hc6.mono (by omega)) (by simp; omega) fun y hy => ?_
    rcases List.mem_append.1 hy with hy | hy
    · exact hall y hy
    · simp at hy; subst hy
      exact ⟨by simpa using g1, by simpa using g2⟩
  · simp only [Option.bind_some]
    exact fin _ _ _ _ (hc6.mono (by omega)) (by omega) hall

theorem anyNetwork_ok {k : Nat} {c : l1Cur} (h : Cur k c) (hk : k ≤ 200000000) : ∃ r, s_l1Cur_anyNetwork c = some r ∧ Cur (k + 1000) r.2 ∧ Bd r.1 := by
  unfold s_l1Cur_anyNetwork
  obtain ⟨r, hr, hc, hnb⟩ := networkT_ok h (by omega)
  obtain ⟨n1, n2, n3⟩ := hnb
  obtain ⟨r1, hr1, hc1, h10, h11⟩ := pick_ok (r.1.Lines.length : Int) hc (by omega)
  obtain ⟨e, he, he2, hem⟩ := idx_lt (l := r.1.Lines) (i := r1.1) h10 (by omega)
  obtain ⟨g1, g2⟩ := n3 e hem
  obtain ⟨r2, hr2, hc2, _⟩ := pick_ok 24 hc1 (by omega)
  simp only [hr, hr1, he, hr2, Option.bind_some]
  have fin : ∀ (v : List UInt8) (v1 v2 : Int) (v3 : ByteArray) (v4 : List ByteArray) (v5 : List Line) (v6 : List Int), Cur (k + 900) ⟨v, v1, ⟨v2⟩⟩ → v4.length ≤ 6 → v5.length = r.1.Lines.length → (∀ x ∈ v5, LB x) → v6.length ≤ 11 →
      ∃ r', ((idx v5 r1.1).bind fun e9 => some ((⟨v4, (v5.set r1.1.toNat (⟨v3, e9.Stops, v6⟩ : Line))⟩ : Network), (⟨v, v1, (⟨v2⟩ : IK .u64)⟩ : l1Cur))) = some r' ∧ Cur (k + 1000) r'.2 ∧ Bd r'.1 := by
    intro v v1 v2 v3 v4 v5 v6 q1 q2 q3 q4 q5
    obtain ⟨e9, he9, _, hm9⟩ := idx_lt (l := v5) (i := r1.1) h10 (by omega)
    rw [he9]
    refine ⟨_, rfl, q1.mono (by omega), by show v4.length ≤ _; omega, by simp; omega, fun x hx => ?_⟩
    rcases List.mem_or_eq_of_mem_set hx with hx | hx
    · have := q4 x hx
      unfold LB at this; omega
    · subst hx
      have := q4 e9 hm9
      unfold LB at this
      exact ⟨by show e9.Stops.length ≤ _; omega, by show v6.length ≤ _; omega⟩
  split
  · obtain ⟨r4, hr4, hc4, _⟩ := ofw_ok ([(str [109, 105, 108, 108]), (str []), (str [65]), (str [97, 98, 99, 100, 101, 102, 103, 104]), (str [97, 98, 99, 100, 101, 102, 103, 104, 105])] : List ByteArray) (by simp) hc2 (by omega)
    obtain ⟨e2, he2', _⟩ := idx_lt (l := r.1.Stops) (i := 0) (by omega) (by omega)
    simp only [hr4, he2', Option.bind_some, flb_go]
    exact fin _ _ _ _ _ _ _ (hc4.mono (by omega)) (by simp; omega) rfl n3 (by omega)
  split
  · obtain ⟨r5, hr5, hc5, _⟩ := ofw_ok ([(str [114, 49]), (str [108, 49]), (str []), (str [88])] : List ByteArray) (by simp) hc2 (by omega)
    simp only [hr5, Option.bind_some, flb_go]
    exact fin _ _ _ _ _ _ _ (hc5.mono (by omega)) (by omega) rfl n3 (by omega)
  split
  · obtain ⟨r8, hr8, hc8, h80, h81⟩ := pick_ok (e.Stops.length : Int) hc2 (by omega)
    obtain ⟨r9, hr9, hc9, _⟩ := pick_ok 10 hc8 (by omega)
    obtain ⟨e4, he4, _⟩ := idx_lt (l := e.Stops) (i := r8.1) h80 (by omega)
    simp only [hr8, hr9, he4, Option.bind_some, flb_go]
    refine fin _ _ _ _ _ _ _ (hc9.mono (by omega)) (by omega) (by simp) (fun x hx => ?_) (by show e.Runs.length ≤ 11; omega)
    rcases List.mem_or_eq_of_mem_set hx with hx | hx
    · exact n3 x hx
    · subst hx; exact ⟨by simpa using g1, g2⟩
  split
  · obtain ⟨r12, hr12, hc12, h120, h121⟩ := pick_ok (e.Runs.length : Int) hc2 (by omega)
    obtain ⟨r13, hr13, hc13, _⟩ := amongw_ok ([0, 60, 61, (-1)] : List Int) (by simp) hc12 (by omega)
    obtain ⟨e6, he6, _⟩ := idx_lt (l := e.Runs) (i := r12.1) h120 (by omega)
    simp only [hr12, hr13, he6, Option.bind_some, flb_go]
    refine fin _ _ _ _ _ _ _ (hc13.mono (by omega)) (by omega) (by simp) (fun x hx => ?_) (by simp; omega)
    rcases List.mem_or_eq_of_mem_set hx with hx | hx
    · exact n3 x hx
    · subst hx; exact ⟨g1, by simpa using g2⟩
  split
  · have hch : chk (e.Runs.length + ([3] : List Int).length ≤ 4294967296) = some () := chk_of (by simp; omega)
    simp only [hch, Option.bind_some, flb_go]
    exact fin _ _ _ _ _ _ _ (hc2.mono (by omega)) (by omega) rfl n3 (by simp; omega)
  split
  · simp only [flb_ret]
    exact ⟨_, rfl, hc2.mono (by omega), by show r.1.Stops.length ≤ _; omega, by simp, by simp⟩
  split
  · have loop : ∃ b, iter (s_l1Cur_anyNetwork_L1 r) (0, r2.2.code_, r2.2.at_, r2.2.seed_.v, r.1.Lines) = some b ∧ (Cur (k + 900) ⟨b.1, b.2.1, ⟨b.2.2.1⟩⟩ ∧ b.2.2.2.length ≤ 20 ∧ ∀ x ∈ b.2.2.2, LB x) := by
      refine iter_rule (fun m a => ∃ i : Nat, a.1 = (i : Int) ∧ m + i = 8 ∧ i ≤ 7 ∧ a.2.2.2.2.length ≤ 8 + i ∧ (∀ x ∈ a.2.2.2.2, LB x) ∧ Cur (k + 310 + 50 * i) ⟨a.2.1, a.2.2.1, ⟨a.2.2.2.1⟩⟩) _ ?_ (k := 8) ⟨0, rfl, rfl, by omega, by simpa using n2.2, n3, hc2.mono (by omega)⟩
      rintro m ⟨v7, v8, v9, v10, v11⟩ ⟨i, hi, hm, hi7, hl, hlb, hcur⟩
      simp only at hi hl hlb hcur
      subst hi
      unfold s_l1Cur_anyNetwork_L1
      obtain ⟨r16, hr16, hc16, h160, h161⟩ := pick_ok 2 hcur (by omega)
      have w1 : w64 (5 + r16.1) = 5 + r16.1 := w64_id (by omega)
      simp only [hr16, w1, Option.bind_some]
      by_cases a1 : (v11.length : Int) < 5 + r16.1 ∧ (i : Int) < 7
      · left
        have d1 : decide ((v11.length : Int) < 5 + r16.1) = true := by simp; omega
        have d2 : decide ((i : Int) < 7) = true := by simp; omega
        obtain ⟨r19, hr19, hs19⟩ := l1Num_ok (i : Int) (by omega) (by omega)
        have hs : (str [120]).size = 1 := rfl
        have hch : chk ((str [120]).size + r19.size ≤ 4294967296) = some () := chk_of (by omega)
        obtain ⟨r20, hr20, hc20, hb20⟩ := line_ok (str [120] ++ r19) (r.1.Stops.length : Int) (by omega) hc16 (by omega)
        have hch2 : ∀ y : Line, chk (v11.length + ([y] : List Line).length ≤ 4294967296) = some () := fun y => chk_of (by simp; omega)
        refine ⟨_, m - 1, by simp only [d1, d2, if_true, hr19, hch, hr20, hch2, Option.bind_some, w64_succ (n := i) (by omega)]; rfl, by omega, i + 1, rfl, by omega, by omega, ?_, fun x hx => ?_, ?_⟩
        · simp; omega
        · rcases List.mem_append.1 hx with hx | hx
          · exact hlb x hx
          · simp at hx; subst hx; exact hb20
        · exact hc20.mono (by omega)
      · right
        have hcond : (if decide ((v11.length : Int) < 5 + r16.1) = true then some (decide ((i : Int) < 7)) else some false) = some false := by
          by_cases b1 : (v11.length : Int) < 5 + r16.1
          · have : decide ((i : Int) < 7) = false := by simp; omega
            simp [b1, this]
          · simp [b1]
        refine ⟨_, by simp only [hcond, Option.bind_some, Bool.false_eq_true, if_false]; rfl, ?_, ?_, hlb⟩
        · exact hc16.mono (by omega)
        · show v11.length ≤ 20; omega
    obtain ⟨⟨v13, v14, v15, v16⟩, hb, hcb, hlb, hall⟩ := loop
    simp only at hcb hlb hall
    rw [hb]
    simp only [Option.bind_some, flb_ret]
    refine ⟨_, rfl, hcb.mono (by omega), by show r.1.Stops.length ≤ _; omega, by show v16.length ≤ _; omega, fun x hx => ?_⟩
    have := hall x hx
    unfold LB at this; omega
  · simp only [flb_go]
    exact fin _ _ _ _ _ _ _ (hc2.mono (by omega)) (by omega) rfl n3 (by omega)

/-! Timetables: when they are valid. -/
def TB (t : Timetable) : Prop := Bd t.Network ∧ t.Trips.length ≤ 1000
def TripP (n : Network) (x : Trip) : Prop := (1 ≤ x.Id ∧ x.Id ≤ 999) ∧ ∃ l, idx n.Lines x.Line = some l ∧ (0 ≤ x.Start ∧ x.Start ≤ 1799) ∧ 0 ≤ x.Start + l.Runs.sum ∧ x.Start + l.Runs.sum ≤ 1799
def GoodT (t : Timetable) : Prop := Good t.Network ∧ t.Trips.length ≤ 12 ∧ (∀ (i : Nat) x, t.Trips[i]? = some x → TripP t.Network x) ∧ ∀ (i : Nat) a b, t.Trips[i]? = some a → t.Trips[i + 1]? = some b → a.Id < b.Id
noncomputable instance (t : Timetable) : Decidable (GoodT t) := Classical.propDecidable _
noncomputable instance (n : Network) (x : Trip) : Decidable (TripP n x) := Classical.propDecidable _
theorem time_eq (t : Int) : i_IsValidTime t = some (decide (0 ≤ t ∧ t ≤ 1799)) := by
  unfold i_IsValidTime; rw [within_eq]; rfl
theorem l4Time_eq (t : Int) : s_l4Time t = some (decide (0 ≤ t ∧ t ≤ 1799)) := by
  unfold s_l4Time; rw [l1In_eq]; rfl
theorem total_eq (l : List Int) (h1 : l.length ≤ 1000000) (h2 : ∀ x ∈ l, 0 ≤ x ∧ x ≤ 1000000) : i_total l = some l.sum := by
  unfold i_total
  rw [sum_loop (fun x : Int => x) l h1 h2 (fun i s x hx => ?_) (fun s => ?_)]
  · simp
  · have := get_lt hx
    unfold i_total_L1
    simp (disch := omega) only [if_pos, if_neg, decide_eq_true_eq, decide_true, decide_false, Bool.not_true, Bool.not_false, Bool.false_eq_true, Bool.not_eq_true', decide_eq_false_iff_not, if_true, if_false, w64_id, chk_of, idx_nat, Option.bind_some, Option.map_some, Int.toNat_natCast, not_true_eq_false, not_false_eq_true, true_and, and_true, and_self, false_and, and_false, reduceIte, flb_go, flb_ret, beq_self_eq_true, ne_eq, bne_self_eq_false, Int.ofNat_lt.2 this, hx]
  · unfold i_total_L1; simp
theorem l2Run_eq (x : Line) (a b : Nat) (hab : a ≤ b) (hb : b ≤ x.Runs.length) (hl : x.Runs.length ≤ 1000) (h2 : ∀ r ∈ x.Runs, 0 ≤ r ∧ r ≤ 1000000) : s_l2Run x (a : Int) (b : Int) = some (((x.Runs.take b).drop a).sum) := by
  unfold s_l2Run
  refine Tot.val (.call (P := fun v => v = ((x.Runs.take b).drop a).sum) ?_ fun v h => .ok h)
  refine .iter (fun m s => ∃ k : Nat, s.2 = ((a + k : Nat) : Int) ∧ m + k = b - a ∧ s.1 = (((x.Runs.take b).drop a).take k).sum) (n := b - a) ⟨0, by simp, by omega, by simp⟩ ?_
  rintro m ⟨s, v⟩ ⟨k, hk, hm, hs⟩
  simp only at hk hs
  subst hk
  unfold s_l2Run_L1
  refine .iteP (fun hc => ?_) (fun hc => .dn ?_)
  · obtain ⟨r, hr⟩ := get_ex (l := x.Runs) (i := a + k) (by omega)
    have hr2 : ((x.Runs.take b).drop a)[k]? = some r := by
      rw [List.getElem?_drop, List.getElem?_take_of_lt (by omega)]; exact hr
    have hb1 := h2 r (List.mem_of_getElem? hr)
    have hb2 := sum_bd (l := ((x.Runs.take b).drop a).take k) (M := 1000000) fun y hy => h2 y (List.mem_of_mem_take (List.mem_of_mem_drop (List.mem_of_mem_take hy)))
    have hlen : ((((x.Runs.take b).drop a).take k).length : Int) ≤ 1000 := by simp; omega
    rw [← hs] at hb2
    refine .eq (by rw [idx_nat]; exact hr) (.nx ⟨m - 1, by omega, k + 1, ?_, by omega, ?_⟩)
    · show w64 (((a + k : Nat) : Int) + 1) = _
      rw [w64_id (by omega)]; omega
    · show w64 (s + r) = _
      rw [w64_id (by omega), sum_take_succ hr2, hs]
  · rw [hs, List.take_of_length_le (by rw [List.length_drop, List.length_take]; omega)]
theorem good_line {n : Network} (h : Good n) {k : Int} {l : Line} (hl : idx n.Lines k = some l) : LineP n.Stops.length l := h.2.2.2.2 _ l (idx_some hl).2.2
theorem line_stop {st : Nat} {l : Line} (h : LineP st l) {j : Nat} {s : Int} (hs : l.Stops[j]? = some s) : 0 ≤ s ∧ s < (st : Int) := (h.2.2.1 j s hs).1
theorem line_runs {st : Nat} {l : Line} (h : LineP st l) : (l.Runs.length + 1 = l.Stops.length ∧ 1 ≤ l.Runs.length ∧ l.Runs.length ≤ 5) ∧ ∀ r ∈ l.Runs, 1 ≤ r ∧ r ≤ 60 := by
  obtain ⟨h1, h2, h3, h4⟩ := h
  refine ⟨by omega, fun r hr => ?_⟩
  obtain ⟨i, hi⟩ := List.getElem?_of_mem hr
  exact h4 i r hi
theorem runs_sum {st : Nat} {l : Line} (h : LineP st l) (k : Nat) : 0 ≤ (l.Runs.take k).sum ∧ (l.Runs.take k).sum ≤ 300 := by
  obtain ⟨⟨h1, h2, h3⟩, h4⟩ := line_runs h
  have := sum_bd (l := l.Runs.take k) (M := 60) fun x hx => by have := h4 x (List.mem_of_mem_take hx); omega
  have hl : ((l.Runs.take k).length : Int) ≤ 5 := by simp; omega
  omega
theorem runs_sum' {st : Nat} {l : Line} (h : LineP st l) : 0 ≤ l.Runs.sum ∧ l.Runs.sum ≤ 300 := by
  have := runs_sum h l.Runs.length
  rwa [List.take_length] at this
theorem endOf_eq {t : Timetable} (hg : Good t.Network) {x : Trip} {l : Line} (hl : idx t.Network.Lines x.Line = some l) (hs : 0 ≤ x.Start ∧ x.Start ≤ 1799) : i_endOf t x = some (x.Start + l.Runs.sum) := by
  have h := good_line hg hl
  obtain ⟨⟨h1, h2, h3⟩, h4⟩ := line_runs h
  have h5 := runs_sum' h
  unfold i_endOf
  rw [hl]
  simp only [Option.bind_some]
  rw [total_eq l.Runs (by omega) (fun x hx => by have := h4 x hx; omega)]
  simp (disch := omega) only [if_pos, if_neg, decide_eq_true_eq, decide_true, decide_false, Bool.not_true, Bool.not_false, Bool.false_eq_true, Bool.not_eq_true', decide_eq_false_iff_not, if_true, if_false, w64_id, chk_of, idx_nat, Option.bind_some, Option.map_some, Int.toNat_natCast, not_true_eq_false, not_false_eq_true, true_and, and_true, and_self, false_and, and_false, reduceIte, flb_go, flb_ret, beq_self_eq_true, ne_eq, bne_self_eq_false]
theorem l5Line_eq {t : Timetable} {i : Nat} {x : Trip} {l : Line} (hx : t.Trips[i]? = some x) (hl : idx t.Network.Lines x.Line = some l) : s_l5Line t (i : Int) = some l := by
  unfold s_l5Line
  simp (disch := omega) only [if_pos, if_neg, decide_eq_true_eq, decide_true, decide_false, Bool.not_true, Bool.not_false, Bool.false_eq_true, Bool.not_eq_true', decide_eq_false_iff_not, if_true, if_false, w64_id, chk_of, idx_nat, Option.bind_some, Option.map_some, Int.toNat_natCast, not_true_eq_false, not_false_eq_true, true_and, and_true, and_self, false_and, and_false, reduceIte, flb_go, flb_ret, beq_self_eq_true, ne_eq, bne_self_eq_false, hx, hl]
theorem l5Stops_eq {t : Timetable} {i : Nat} {x : Trip} {l : Line} (hx : t.Trips[i]? = some x) (hl : idx t.Network.Lines x.Line = some l) : s_l5Stops t (i : Int) = some l.Stops := by
  unfold s_l5Stops
  rw [l5Line_eq hx hl]; rfl
theorem l5At_eq {t : Timetable} (hg : Good t.Network) {i : Nat} {x : Trip} {l : Line} (hx : t.Trips[i]? = some x) (hl : idx t.Network.Lines x.Line = some l) (hs : 0 ≤ x.Start ∧ x.Start ≤ 1799) {k : Nat} (hk : k ≤ l.Runs.length) : s_l5At t (i : Int) (k : Int) = some (x.Start + (l.Runs.take k).sum) := by
  have h := good_line hg hl
  obtain ⟨⟨h1, h2, h3⟩, h4⟩ := line_runs h
  have h5 := runs_sum h k
  have e := l2Run_eq l 0 k (by omega) hk (by omega) (fun x hx => by have := h4 x hx; omega)
  rw [List.drop_zero] at e
  have e' : s_l2Run l 0 (k : Int) = some (l.Runs.take k).sum := e
  unfold s_l5At
  simp (disch := omega) only [if_pos, if_neg, decide_eq_true_eq, decide_true, decide_false, Bool.not_true, Bool.not_false, Bool.false_eq_true, Bool.not_eq_true', decide_eq_false_iff_not, if_true, if_false, w64_id, chk_of, idx_nat, Option.bind_some, Option.map_some, Int.toNat_natCast, not_true_eq_false, not_false_eq_true, true_and, and_true, and_self, false_and, and_false, reduceIte, flb_go, flb_ret, beq_self_eq_true, ne_eq, bne_self_eq_false, hx, l5Line_eq hx hl, e']
theorem l5End_eq {t : Timetable} (hg : Good t.Network) {i : Nat} {x : Trip} {l : Line} (hx : t.Trips[i]? = some x) (hl : idx t.Network.Lines x.Line = some l) (hs : 0 ≤ x.Start ∧ x.Start ≤ 1799) : s_l5End t (i : Int) = some (x.Start + l.Runs.sum) := by
  have h := good_line hg hl
  obtain ⟨⟨h1, h2, h3⟩, h4⟩ := line_runs h
  have e : w64 ((l.Stops.length : Int) - 1) = (l.Runs.length : Int) := by rw [w64_id (by omega)]; omega
  unfold s_l5End
  rw [l5Stops_eq hx hl]
  simp only [Option.bind_some, e, l5At_eq hg hx hl hs (Nat.le_refl _), List.take_length]
def TripsP (t : Timetable) : Prop := (∀ (i : Nat) x, t.Trips[i]? = some x → TripP t.Network x) ∧ ∀ (i : Nat) a b, t.Trips[i]? = some a → t.Trips[i + 1]? = some b → a.Id < b.Id
noncomputable instance (t : Timetable) : Decidable (TripsP t) := Classical.propDecidable _
/-- One trip's check in the program. -/
theorem trip_i {t : Timetable} (hb : TB t) (hg : Good t.Network) (x : Trip) (last : Int) (hlast : 0 ≤ last) : ((if (decide (x.Id ≤ last)) = true then some true else if (decide (999 < x.Id)) = true then some true else (i_isLine t.Network x.Line).bind fun r =>
      if (!r) = true then some true else (i_IsValidTime x.Start).bind fun r1 =>
      if (!r1) = true then some true else (i_endOf t x).bind fun r2 =>
      (i_IsValidTime r2).bind fun r3 =>
      some (!r3))) = some (!decide (last < x.Id ∧ TripP t.Network x)) := by
  by_cases c1 : x.Id ≤ last
  · have : ¬ (last < x.Id ∧ TripP t.Network x) := fun h => by omega
    simp [c1, this]
  · by_cases c2 : 999 < x.Id
    · have : ¬ (last < x.Id ∧ TripP t.Network x) := fun h => by have := h.2.1; omega
      simp [c1, c2, this]
    · simp only [isLine_eq, time_eq, Option.bind_some, c1, c2, decide_false, Bool.false_eq_true, if_false]
      by_cases c3 : 0 ≤ x.Line ∧ x.Line < (t.Network.Lines.length : Int)
      · obtain ⟨l, hl, _⟩ := idx_lt (l := t.Network.Lines) c3.1 c3.2
        by_cases c4 : 0 ≤ x.Start ∧ x.Start ≤ 1799
        · have hT : (last < x.Id ∧ TripP t.Network x) ↔ (0 ≤ x.Start + l.Runs.sum ∧ x.Start + l.Runs.sum ≤ 1799) := by
            constructor
            · rintro ⟨_, _, l', hl', _, h⟩
              rw [hl] at hl'; cases hl'; exact h
            · intro h; exact ⟨by omega, ⟨by omega, by omega⟩, l, hl, c4, h⟩
          simp only [c3, c4, and_self, decide_true, Bool.not_true, Bool.false_eq_true, if_false, endOf_eq hg hl c4, time_eq, Option.bind_some, hT]
        · have : ¬ (last < x.Id ∧ TripP t.Network x) := fun h => by
            obtain ⟨_, _, l', _, h4, _⟩ := h
            exact c4 h4
          simp only [c3, c4, this, and_self, decide_true, decide_false, Bool.not_true, Bool.not_false, Bool.false_eq_true, if_false, if_true]
      · have : ¬ (last < x.Id ∧ TripP t.Network x) := fun h => by
          obtain ⟨_, _, l', hl', _⟩ := h
          have := idx_some hl'
          exact c3 ⟨this.1, this.2.1⟩
        simp only [c3, this, decide_false, Bool.not_false, if_true]
theorem areTrips_eq {t : Timetable} (hb : TB t) (hg : Good t.Network) : i_areTrips t = some (decide (t.Trips.length ≤ 12 ∧ TripsP t)) := by
  unfold i_areTrips
  by_cases h12 : t.Trips.length ≤ 12
  · have d : decide ((12 : Int) < (t.Trips.length : Int)) = false := by simp; omega
    have e : decide (t.Trips.length ≤ 12 ∧ TripsP t) = decide (TripsP t) := by simp [h12]
    rw [d, e]
    simp only [Bool.false_eq_true, if_false]
    refine flb_dec (.iter (fun m a => ∃ i : Nat, a.2 = (i : Int) ∧ m + i = t.Trips.length ∧ 0 ≤ a.1 ∧ (∀ y, 0 < i → t.Trips[i - 1]? = some y → a.1 = y.Id) ∧ (i = 0 → a.1 = 0) ∧ (∀ (j : Nat) x, j < i → t.Trips[j]? = some x → TripP t.Network x) ∧ ∀ (j : Nat) a b, j + 1 < i → t.Trips[j]? = some a → t.Trips[j + 1]? = some b → a.Id < b.Id)
      (n := t.Trips.length) ⟨0, rfl, rfl, by simp, by simp, by simp, fun j x h => by omega, fun j a b h => by omega⟩ ?_)
    rintro m ⟨last, v⟩ ⟨i, hv, hm, h0, h1, h2, h3, h4⟩
    simp only at hv h0 h1 h2
    subst hv
    unfold i_areTrips_L1
    refine .iteP (fun hc => ?_) (fun hc => .dn (.inl ⟨rfl, fun j x hx => h3 j x (by have := get_lt hx; omega) hx, fun j a b ha hb' => h4 j a b (by have := get_lt hb'; omega) ha hb'⟩))
    obtain ⟨x, hx⟩ := get_ex (l := t.Trips) (i := i) (by omega)
    refine .eq (by rw [idx_nat]; exact hx) (.eq (trip_i hb hg x last h0) (.iteN (fun hn => .dn (.inr ⟨rfl, fun hp => hn ⟨?_, hp.1 i x hx⟩⟩)) (fun hp => .nx ⟨m - 1, by omega, i + 1, w64_succ (by omega), by omega, ?_, ?_, by simp, ?_, ?_⟩)))
    · by_cases hi : i = 0
      · rw [h2 hi]; have := (hp.1 i x hx).1; omega
      · obtain ⟨y, hy⟩ := get_ex (l := t.Trips) (i := i - 1) (by omega)
        rw [h1 y (by omega) hy]
        exact hp.2 (i - 1) y x hy (by rw [show i - 1 + 1 = i by omega]; exact hx)
    · show 0 ≤ x.Id
      have := hp.2.1; omega
    · intro y _ hy
      rw [show i + 1 - 1 = i by omega, hx] at hy; cases hy; rfl
    · intro j y hj hy
      by_cases hji : j = i
      · subst hji; rw [hx] at hy; cases hy; exact hp.2
      · exact h3 j y (by omega) hy
    · intro j a b hj ha hb'
      by_cases hji : j + 1 = i
      · subst hji; rw [hx] at hb'; cases hb'
        have := h1 a (by omega) (by simpa using ha)
        omega
      · exact h4 j a b (by omega) ha hb'
  · have d : decide ((12 : Int) < (t.Trips.length : Int)) = true := by simp; omega
    simp [d, h12]
/-- A trip is as it should be, and behind the one before it. -/
def TripQ (t : Timetable) (i : Nat) (x : Trip) : Prop := TripP t.Network x ∧ ∀ y, 0 < i → t.Trips[i - 1]? = some y → y.Id < x.Id
noncomputable instance (t : Timetable) (i : Nat) (x : Trip) : Decidable (TripQ t i x) := Classical.propDecidable _
theorem goodT_iff (t : Timetable) : GoodT t ↔ Good t.Network ∧ t.Trips.length ≤ 12 ∧ TripsP t := Iff.rfl
theorem validT_eq {t : Timetable} (hb : TB t) : i_IsValidTimetable t = some (decide (GoodT t)) := by
  unfold i_IsValidTimetable
  rw [valid_eq _ hb.1]
  by_cases hg : Good t.Network
  · simp only [hg, decide_true, if_true, Option.bind_some, areTrips_eq hb hg, goodT_iff, true_and]
  · have : ¬ GoodT t := fun h => hg h.1
    simp [hg, this]
theorem goodT_eq {t : Timetable} (hb : TB t) : s_l5Good t = some (decide (GoodT t)) := by
  unfold s_l5Good
  rw [good_eq _ hb.1]
  by_cases hg : Good t.Network
  · by_cases h12 : t.Trips.length ≤ 12
    · have d : decide ((12 : Int) < (t.Trips.length : Int)) = false := by simp; omega
      have e : decide (GoodT t) = decide (TripsP t) := by rw [decide_eq_decide, goodT_iff]; simp [hg, h12]
      simp only [hg, decide_true, Bool.not_true, Bool.false_eq_true, if_false, Option.bind_some, d, e]
      refine flb_dec (.iter (fun m a => ∃ i : Nat, a = (i : Int) ∧ m + i = t.Trips.length ∧ (∀ (j : Nat) x, j < i → t.Trips[j]? = some x → TripP t.Network x) ∧ ∀ (j : Nat) a b, j + 1 < i → t.Trips[j]? = some a → t.Trips[j + 1]? = some b → a.Id < b.Id)
        (n := t.Trips.length) ⟨0, rfl, rfl, fun j x h => by omega, fun j a b h => by omega⟩ ?_)
      rintro m v ⟨i, hv, hm, h3, h4⟩
      subst hv
      unfold s_l5Good_L1
      refine .iteP (fun hc => ?_) (fun hc => .dn (.inl ⟨rfl, fun j x hx => h3 j x (by have := get_lt hx; omega) hx, fun j a b ha hb' => h4 j a b (by have := get_lt hb'; omega) ha hb'⟩))
      obtain ⟨x, hx⟩ := get_ex (l := t.Trips) (i := i) (by omega)
      refine .eq (by rw [idx_nat]; exact hx) ?_
      have hll := hg.2.1
      have ew : w64 ((t.Network.Lines.length : Int) - 1) = (t.Network.Lines.length : Int) - 1 := w64_id (by omega)
      have key : ((s_l1In x.Id 1 999).bind fun r6 =>
      (if (!r6) = true then some true else (s_l1In x.Line 0 (w64 ((t.Network.Lines.length : Int) - 1))).bind fun r7 =>
      if (!r7) = true then some true else (s_l4Time x.Start).bind fun r8 =>
      if (!r8) = true then some true else (s_l5End t (i : Int)).bind fun r9 =>
      (s_l4Time r9).bind fun r10 =>
      if (!r10) = true then some true else if (decide (0 < (i : Int))) = true then (idx t.Trips (w64 ((i : Int) - 1))).bind fun e2 =>
      some (decide (x.Id ≤ e2.Id)) else some false)) = some (!decide (TripQ t i x)) := by
        have no : ¬ TripP t.Network x → (!decide (TripQ t i x)) = true := fun h => (by simp [show ¬ TripQ t i x from fun q => h q.1])
        simp only [l1In_eq, l4Time_eq, ew, Option.bind_some]
        by_cases c1 : 1 ≤ x.Id ∧ x.Id ≤ 999
        · by_cases c3 : 0 ≤ x.Line ∧ x.Line ≤ (t.Network.Lines.length : Int) - 1
          · obtain ⟨l, hl, _⟩ := idx_lt (l := t.Network.Lines) c3.1 (by omega)
            by_cases c4 : 0 ≤ x.Start ∧ x.Start ≤ 1799
            · simp only [c1, c3, c4, and_self, decide_true, Bool.not_true, Bool.false_eq_true, if_false, l5End_eq hg hx hl c4, l4Time_eq, Option.bind_some]
              by_cases c5 : 0 ≤ x.Start + l.Runs.sum ∧ x.Start + l.Runs.sum ≤ 1799
              · have hT : TripP t.Network x := ⟨c1, l, hl, c4, c5⟩
                simp only [c5, and_self, decide_true, Bool.not_true, Bool.false_eq_true, if_false, ]
                by_cases c6 : 0 < i
                · obtain ⟨y, hy⟩ := get_ex (l := t.Trips) (i := i - 1) (by omega)
                  have e1 : w64 ((i : Int) - 1) = ((i - 1 : Nat) : Int) := by rw [w64_id (by omega)]; omega
                  have c6' : (0 : Int) < (i : Int) := by omega
                  simp only [c6', decide_true, if_true, e1, idx_nat, hy, Option.bind_some, Option.some.injEq]
                  by_cases c7 : x.Id ≤ y.Id
                  · have : ¬ TripQ t i x := fun h => by have := h.2 y c6 hy; omega
                    simp only [c7, decide_true, this, decide_false, Bool.not_false]
                  · have : TripQ t i x := ⟨hT, fun z _ hz => by rw [hy] at hz; cases hz; omega⟩
                    simp only [c7, decide_false, this, decide_true, Bool.not_true]
                · have c6' : ¬ (0 : Int) < (i : Int) := by omega
                  have : TripQ t i x := ⟨hT, fun z h0 _ => absurd h0 c6⟩
                  simp only [c6', decide_false, Bool.false_eq_true, if_false, this, decide_true, Bool.not_true]
              · rw [no (fun hT => by
                  obtain ⟨_, l', hl', _, h⟩ := hT
                  rw [hl] at hl'; cases hl'; exact c5 h)]
                simp only [c5, decide_false, Bool.not_false, if_true]
            · rw [no (fun hT => by obtain ⟨_, l', _, h, _⟩ := hT; exact c4 h)]
              simp only [c1, c3, c4, and_self, decide_true, decide_false, Bool.not_true, Bool.not_false, Bool.false_eq_true, if_false, if_true]
          · rw [no (fun hT => by
              obtain ⟨_, l', hl', _⟩ := hT
              have := idx_some hl'
              exact c3 ⟨this.1, by omega⟩)]
            simp only [c1, c3, and_self, decide_true, decide_false, Bool.not_true, Bool.not_false, Bool.false_eq_true, if_false, if_true]
        · rw [no (fun hT => c1 hT.1)]
          simp only [c1, decide_false, Bool.not_false, if_true]
      rw [bind_assoc', key]
      refine .iteN (fun hn => .dn (.inr ⟨rfl, fun hp => hn ⟨hp.1 i x hx, fun y hi hy => hp.2 (i - 1) y x hy (by rw [show i - 1 + 1 = i by omega]; exact hx)⟩⟩)) (fun hp => .nx ⟨m - 1, by omega, i + 1, w64_succ (by omega), by omega, ?_, ?_⟩)
      · intro j y hj hy
        by_cases hji : j = i
        · subst hji; rw [hx] at hy; cases hy; exact hp.1
        · exact h3 j y (by omega) hy
      · intro j a b hj ha hb'
        by_cases hji : j + 1 = i
        · subst hji; rw [hx] at hb'; cases hb'
          exact hp.2 a (by omega) (by simpa using ha)
        · exact h4 j a b (by omega) ha hb'
    · have d : decide ((12 : Int) < (t.Trips.length : Int)) = true := by simp; omega
      have : ¬ GoodT t := fun h => h12 h.2.1
      simp [hg, d, this]
  · have : ¬ GoodT t := fun h => hg h.1
    simp [hg, this]
/-! Timetables: what is looked up; stop times; draws. -/
theorem tripIndex_eq (t : Timetable) (h : t.Trips.length ≤ 1000) (id : Int) : i_tripIndex t id = some (fixI (fun x => x.Id == id) t.Trips) := by
  unfold i_tripIndex slices_IndexFunc_Trip__i_tripIndex_1 slices_IndexFunc_Trip
  rw [find_val t.Trips (fun x => x.Id == id) (fun i x hx => ?_) (by unfold slices_IndexFunc_Trip_L1; simp)]
  · rfl
  · have := get_lt hx
    unfold slices_IndexFunc_Trip_L1 i_tripIndex_1
    simp (disch := omega) only [if_pos, if_neg, decide_eq_true_eq, decide_true, decide_false, Bool.not_true, Bool.not_false, Bool.false_eq_true, Bool.not_eq_true', decide_eq_false_iff_not, if_true, if_false, w64_id, chk_of, idx_nat, Option.bind_some, Option.map_some, Int.toNat_natCast, not_true_eq_false, not_false_eq_true, true_and, and_true, and_self, false_and, and_false, reduceIte, flb_go, flb_ret, beq_self_eq_true, ne_eq, bne_self_eq_false, hx, Int.ofNat_lt.2 this]
    split <;> simp [*] <;> omega
theorem l5Find_eq (t : Timetable) (h : t.Trips.length ≤ 1000) (id : Int) : s_l5Find t id = some (fixI (fun x => x.Id == id) t.Trips) := by
  unfold s_l5Find
  rw [find_val t.Trips (fun x => x.Id == id) (fun i x hx => ?_) (by unfold s_l5Find_L1; simp)]
  have := get_lt hx
  unfold s_l5Find_L1
  simp (disch := omega) only [if_pos, if_neg, decide_eq_true_eq, decide_true, decide_false, Bool.not_true, Bool.not_false, Bool.false_eq_true, Bool.not_eq_true', decide_eq_false_iff_not, if_true, if_false, w64_id, chk_of, idx_nat, Option.bind_some, Option.map_some, Int.toNat_natCast, not_true_eq_false, not_false_eq_true, true_and, and_true, and_self, false_and, and_false, reduceIte, flb_go, flb_ret, beq_self_eq_true, ne_eq, bne_self_eq_false, hx, Int.ofNat_lt.2 this]
  split <;> simp [*] <;> omega
/-- A valid timetable's trip, with its line. -/
theorem trip_line {t : Timetable} (h : GoodT t) {i : Nat} {x : Trip} (hx : t.Trips[i]? = some x) : ∃ l, idx t.Network.Lines x.Line = some l ∧ LineP t.Network.Stops.length l ∧ (1 ≤ x.Id ∧ x.Id ≤ 999) ∧ (0 ≤ x.Start ∧ x.Start ≤ 1799) ∧ 0 ≤ x.Start + l.Runs.sum ∧ x.Start + l.Runs.sum ≤ 1799 := by
  obtain ⟨h1, l, hl, h2, h3⟩ := h.2.2.1 i x hx
  exact ⟨l, hl, good_line h.1 hl, h1, h2, h3⟩
theorem ids_lt {t : Timetable} (h : GoodT t) {i j : Nat} {a b : Trip} (hij : i < j) (ha : t.Trips[i]? = some a) (hb : t.Trips[j]? = some b) : a.Id < b.Id := by
  induction j generalizing b with
  | zero => omega
  | succ j ih =>
    obtain ⟨c, hc⟩ := get_ex (l := t.Trips) (i := j) (by have := get_lt hb; omega)
    have h1 := h.2.2.2 j c b hc hb
    by_cases hji : i = j
    · subst hji; rw [ha] at hc; cases hc; exact h1
    · have := ih (by omega) hc; omega
/-- A trip is found by its Id. -/
theorem trip_fix {t : Timetable} (h : GoodT t) {i : Nat} {x : Trip} (hx : t.Trips[i]? = some x) : fixI (fun y => y.Id == x.Id) t.Trips = (i : Int) := by
  refine fixI_of hx (by simp) fun j y hj hy => ?_
  have := ids_lt h hj hy hx
  simp; omega
/-- The stop times. -/
def ST (l : Line) (s : Int) : List Int := (List.range (l.Runs.length + 1)).map fun k => s + (l.Runs.take k).sum
theorem ST_len (l : Line) (s : Int) : (ST l s).length = l.Runs.length + 1 := by simp [ST]
theorem ST_at {l : Line} {s : Int} {k : Nat} (hk : k ≤ l.Runs.length) : (ST l s)[k]? = some (s + (l.Runs.take k).sum) := by
  unfold ST; rw [List.getElem?_map, List.getElem?_range (by omega)]; rfl
/-- A trip that is there, found by its Id. -/
theorem find_trip {t : Timetable} (hb : TB t) (hT : GoodT t) {k : Nat} {y : Trip} (hy : t.Trips[k]? = some y) : i_tripIndex t y.Id = some (k : Int) ∧ s_l5Find t y.Id = some (k : Int) := by
  rw [tripIndex_eq t hb.2, l5Find_eq t hb.2, trip_fix hT hy]
  exact ⟨rfl, rfl⟩
theorem found_or {t : Timetable} (id : Int) : (fixI (fun x => x.Id == id) t.Trips < 0 ∧ ∀ (k : Nat) y, t.Trips[k]? = some y → y.Id ≠ id) ∨ ∃ (k : Nat) (y : Trip), t.Trips[k]? = some y ∧ y.Id = id := by
  by_cases h : fixI (fun x => x.Id == id) t.Trips < 0
  · refine .inl ⟨h, fun k y hy => ?_⟩
    have := fixI_neg h y (List.mem_of_getElem? hy)
    simpa using this
  · obtain ⟨k, y, _, h2, h3, _⟩ := idx_fix h
    exact .inr ⟨k, y, h2, by simpa using h3⟩
/-! Draws -/
theorem network_ok {k : Nat} {c : l1Cur} (h : Cur k c) (hk : k ≤ 500000000) : ∃ r, s_l1Cur_network c = some r ∧ Cur (k + 300) r.2 ∧ NB r.1 := networkT_ok h hk
theorem network_t_ok {k : Nat} {c : l1Cur} (h : Cur k c) (hk : k ≤ 500000000) : ∃ r, s_l1Cur_network_t c = some r ∧ Cur (k + 300) r.2 ∧ NB r.1 := networkT_ok h hk
theorem anyNet_ok {k : Nat} {c : l1Cur} (h : Cur k c) (hk : k ≤ 200000000) : Tot (s_l1Cur_anyNetwork c) fun r => Cur (k + 1000) r.2 ∧ Bd r.1 := anyNetwork_ok h hk
def DT (t : Timetable) : Prop := Bd t.Network ∧ t.Trips.length ≤ 30
theorem DT.tb {t : Timetable} (h : DT t) : TB t := ⟨h.1, by have := h.2; omega⟩
theorem timetable_ok {k : Nat} {c : l1Cur} (h : Cur k c) (hk : k ≤ 100000000) : Tot (s_l1Cur_timetable c) fun r => Cur (k + 400) r.2 ∧ DT r.1 ∧ NB r.1.Network ∧ r.1.Trips.length ≤ 8 := by
  unfold s_l1Cur_timetable
  refine .call (networkT_ok h (by omega)) fun r ⟨hc, hn⟩ => .call (pick_ok 8 hc (by omega)) fun r1 ⟨hc1, h0, h1⟩ => ?_
  refine .call (P := fun o => Cur (k + 400) ⟨o.1, o.2.1, ⟨o.2.2.1⟩⟩ ∧ o.2.2.2.length ≤ 8) ?_ fun o ⟨ho1, ho2⟩ => .ok ⟨ho1, ⟨hn.bd, by show o.2.2.2.length ≤ 30; omega⟩, hn, ho2⟩
  refine .iter (fun m s => s.2.1 = (m : Int) ∧ m + s.2.2.2.2.2.length ≤ 8 ∧ Cur (k + 302 + 6 * (8 - m)) ⟨s.2.2.1, s.2.2.2.1, ⟨s.2.2.2.2.1⟩⟩) (n := r1.1.toNat) ⟨by show r1.1 = _; omega, by show r1.1.toNat + 0 ≤ 8; omega, hc1.mono (by omega)⟩ ?_
  rintro m ⟨n, v, v1, v2, v3, v4⟩ ⟨hv, hl, hcur⟩
  simp only at hv hl hcur
  subst hv
  unfold s_l1Cur_timetable_L1
  refine .iteP (fun hc => ?_) (fun hc => .dn ⟨hcur.mono (by omega), by show v4.length ≤ 8; omega⟩)
  refine .call (pick_ok 3 hcur (by omega)) fun r2 ⟨hc2, _⟩ => .call (pick_ok _ hc2 (by omega)) fun r5 ⟨hc5, _⟩ => .call (pick_ok 24 hc5 (by omega)) fun r6 ⟨hc6, _⟩ => .chk (by simp; omega) (.nx ⟨m - 1, by omega, ?_, ?_, ?_⟩)
  · show w64 ((m : Int) - 1) = _; rw [w64_id (by omega)]; omega
  · show m - 1 + (v4 ++ [_]).length ≤ 8; simp; omega
  · exact hc6.mono (by omega)
theorem anyTimetable_ok {k : Nat} {c : l1Cur} (h : Cur k c) (hk : k ≤ 50000000) : Tot (s_l1Cur_anyTimetable c) fun r => Cur (k + 2000) r.2 ∧ DT r.1 := by
  unfold s_l1Cur_anyTimetable
  refine .call (timetable_ok h (by omega)) fun r ⟨hc, hd, hn, hl⟩ => ?_
  refine .ite (fun _ => .ok ⟨hc.mono (by omega), hd⟩) fun he => ?_
  have hpos : 0 < r.1.Trips.length := by
    have : (r.1.Trips.length : Int) ≠ 0 := by simpa using he
    omega
  refine .call (pick_ok _ hc (by omega)) fun r1 ⟨hc1, h10, h11⟩ => ?_
  have h12 : r1.1 < (r.1.Trips.length : Int) := by omega
  refine .idx h10 h12 fun e _ => ?_
  have fin : ∀ (v : List UInt8) (v1 v2 : Int) (v3 : List Line) (v4 v5 v6 : Int) (v7 : List ByteArray), Cur (k + 2000) ⟨v, v1, ⟨v2⟩⟩ → Bd ⟨v7, v3⟩ → Tot ((idx r.1.Trips r1.1).bind fun e2 => some ((⟨(⟨v7, v3⟩ : Network), (r.1.Trips.set r1.1.toNat (⟨v4, v5, v6⟩ : Trip))⟩ : Timetable), (⟨v, v1, (⟨v2⟩ : IK .u64)⟩ : l1Cur))) fun r => Cur (k + 2000) r.2 ∧ DT r.1 := fun v v1 v2 v3 v4 v5 v6 v7 q1 q2 =>
    .idx h10 h12 fun e2 _ => .ok ⟨q1, q2, by show (r.1.Trips.set _ _).length ≤ 30; rw [List.length_set]; omega⟩
  refine .flb (.call (pick_ok 24 hc1 (by omega)) fun r2 ⟨hc2, _⟩ => ?_)
  refine .ite (fun _ => .call (among_ok _ (by simp) hc2 (by omega)) fun r3 ⟨hc3, _⟩ => .go (fin _ _ _ _ _ _ _ _ (hc3.mono (by omega)) hd.1)) fun _ => ?_
  refine .ite (fun _ => .call (pick_ok 7 hc2 (by omega)) fun r3 ⟨hc3, _⟩ => .go (fin _ _ _ _ _ _ _ _ (hc3.mono (by omega)) hd.1)) fun _ => ?_
  refine .ite (fun _ => .call (among_ok _ (by simp) hc2 (by omega)) fun r3 ⟨hc3, _⟩ => .go (fin _ _ _ _ _ _ _ _ (hc3.mono (by omega)) hd.1)) fun _ => ?_
  refine .ite (fun _ => .call (anyNet_ok hc2 (by omega)) fun r3 ⟨hc3, hb⟩ => .go (fin _ _ _ _ _ _ _ _ (hc3.mono (by omega)) hb)) fun _ => ?_
  refine .ite (fun _ => ?_) fun _ => .go (fin _ _ _ _ _ _ _ _ (hc2.mono (by omega)) hd.1)
  refine .call (P := fun o => Cur (k + 2000) ⟨o.1, o.2.1, ⟨o.2.2.1⟩⟩ ∧ o.2.2.2.length ≤ 30) ?_ fun o ⟨ho1, ho2⟩ => .ret ⟨ho1, hd.1, ho2⟩
  refine .iter (fun m s => ∃ i : Nat, s.1 = (i : Int) ∧ m + i = 14 ∧ s.2.2.2.2.length ≤ 8 + i ∧ Cur (k + 500 + 2 * i) ⟨s.2.1, s.2.2.1, ⟨s.2.2.2.1⟩⟩) (n := 14) ⟨0, rfl, rfl, by simpa using hl, hc2.mono (by omega)⟩ ?_
  rintro m ⟨v8, v9, v10, v11, v12⟩ ⟨i, hv, hm, hl12, hcur⟩
  simp only at hv hl12 hcur
  subst hv
  unfold s_l1Cur_anyTimetable_L1
  refine .call (pick_ok 2 hcur (by omega)) fun r8 ⟨hc8, _⟩ => ?_
  refine .call (P := fun b => b = true → i < 14) (.ite (fun _ => .ok fun hb => by simp at hb; omega) fun _ => .ok fun hb => by cases hb) fun b hb => ?_
  refine .ite (fun ht => .chk (by simp; omega) (.nx ⟨m - 1, by have := hb ht; omega, i + 1, w64_succ (by omega), by have := hb ht; omega, ?_, hc8.mono (by omega)⟩)) (fun _ => .dn ⟨hc8.mono (by omega), by show v12.length ≤ 30; omega⟩)
  show (v12 ++ [_]).length ≤ 8 + (i + 1); simp; omega
/-! What many laws lean on: draws in the style of Tot, lists held against themselves, comparisons. -/
theorem t_pick {k : Nat} {c : l1Cur} (n : Int) (h : Cur k c) (hk : k ≤ 3000000000) : Tot (s_l1Cur_pick c n) fun r => Cur (k + 2) r.2 ∧ 0 ≤ r.1 ∧ (r.1 < n ∨ r.1 = 0) := pick_ok n h hk
theorem t_one {k : Nat} {c : l1Cur} (n : Int) (h : Cur k c) (hk : k ≤ 3000000000) : Tot (s_l1Cur_one c n) fun r => Cur (k + 2) r.2 := one_ok n h hk
theorem t_among {k : Nat} {c : l1Cur} (l : List Int) (hl : l ≠ []) (h : Cur k c) (hk : k ≤ 3000000000) : Tot (s_l1Cur_among c l) fun r => Cur (k + 2) r.2 ∧ r.1 ∈ l := among_ok l hl h hk
theorem t_amongw {k : Nat} {c : l1Cur} (l : List Int) (hl : l ≠ []) (h : Cur k c) (hk : k ≤ 3000000000) : Tot (s_l1Cur_among_w c l) fun r => Cur (k + 2) r.2 ∧ r.1 ∈ l := amongw_ok l hl h hk
theorem rBig_eq (code : List UInt8) : v_rBig code = some (decide (65536 < (code.length : Int))) := rfl
theorem idx0 {α : Type} (l : List α) : idx l 0 = l[0]? := idx_nat l 0
/-! Lists held against themselves (the second half's helpers). -/
theorem rInts_refl (a : List Int) (h : a.length ≤ 100000) : v_rInts a a = some true := by
  unfold v_rInts
  simp only [bne_self_eq_false, Bool.false_eq_true, if_false]
  rw [all_val (hd := Classical.propDecidable _) a (fun _ _ => True) (fun i x hx => ?_) (by unfold v_rInts_L1; simp)]
  · rw [if_pos (fun _ _ _ => trivial)]
  · have hi := get_lt hx
    unfold v_rInts_L1
    have hlt : decide ((i : Int) < (a.length : Int)) = true := by simp; omega
    left
    simp only [hlt, if_true, idx_nat, hx, Option.bind_some, bne_self_eq_false, Bool.false_eq_true, if_false, w64_succ (n := i) (by omega), and_self]
/-! Sorting: the helpers of the library's quicksort. -/
theorem fdivp {x : Int} (h : 0 ≤ x) (k : Nat) : x.fdiv (2 ^ k) = x / (2 ^ k : Nat) := by
  rw [Int.fdiv_eq_ediv_of_nonneg _ (by exact_mod_cast Nat.zero_le (2 ^ k))]
  simp
theorem pow_step {x y : Int} {v k : Nat} (h : y * (2 ^ v : Nat) ≤ x) (hy : 0 ≤ y) : y / (2 ^ k : Nat) * (2 ^ (v + k) : Nat) ≤ x := by
  have h1 : y / (2 ^ k : Nat) * (2 ^ k : Nat) ≤ y := Int.ediv_mul_le _ (by have := Nat.two_pow_pos k; omega)
  have h2 : y / (2 ^ k : Nat) * (2 ^ k : Nat) * (2 ^ v : Nat) ≤ y * (2 ^ v : Nat) := Int.mul_le_mul_of_nonneg_right h1 (Int.natCast_nonneg _)
  rw [Nat.add_comm, Nat.pow_add, Int.natCast_mul, ← Int.mul_assoc]
  omega
theorem u64_id' {n : Int} (h0 : 0 ≤ n) (h1 : n < 18446744073709551616) : IntKind.u64.wrap n = n := by
  show n % 18446744073709551616 = n
  exact Int.emod_eq_of_lt h0 h1
/-! Sorting pairs of numbers. -/
/-! Delays of trips: when they are valid; what is looked up; one more delay. -/
def DelP (t : Timetable) (d : TripDelay) : Prop := (∃ (k : Nat) (y : Trip), t.Trips[k]? = some y ∧ y.Id = d.Id) ∧ 0 ≤ d.Minutes ∧ d.Minutes ≤ 600
def GoodD (t : Timetable) (l : List TripDelay) : Prop := ∀ (i : Nat) d, l[i]? = some d → DelP t d ∧ ∀ z, 0 < i → l[i - 1]? = some z → z.Id < d.Id
noncomputable instance (t : Timetable) (l : List TripDelay) : Decidable (GoodD t l) := Classical.propDecidable _
noncomputable instance (t : Timetable) (d : TripDelay) : Decidable (DelP t d) := Classical.propDecidable _
theorem goodD_lt {t : Timetable} {l : List TripDelay} (h : GoodD t l) {i j : Nat} {a b : TripDelay} (hij : i < j) (ha : l[i]? = some a) (hb : l[j]? = some b) : a.Id < b.Id := by
  induction j generalizing b with
  | zero => omega
  | succ j ih =>
    obtain ⟨c, hc⟩ := get_ex (l := l) (i := j) (by have := get_lt hb; omega)
    have h1 := (h (j + 1) b hb).2 c (by omega) (by simpa using hc)
    by_cases hji : i = j
    · subst hji; rw [ha] at hc; cases hc; exact h1
    · have := ih (by omega) hc; omega
theorem goodD_iff {t : Timetable} {l : List TripDelay} : GoodD t l ↔ (∀ d ∈ l, DelP t d) ∧ l.Pairwise fun a b => a.Id < b.Id := by
  constructor
  · intro h
    refine ⟨fun d hd => ?_, List.pairwise_iff_getElem.2 fun i j hi hj hij => goodD_lt h hij (List.getElem?_eq_getElem hi) (List.getElem?_eq_getElem hj)⟩
    obtain ⟨i, hi⟩ := List.getElem?_of_mem hd
    exact (h i d hi).1
  · rintro ⟨h1, h2⟩ i d hd
    refine ⟨h1 d (List.mem_of_getElem? hd), fun z h0 hz => ?_⟩
    have := List.pairwise_iff_getElem.1 h2 (i - 1) i (get_lt hz) (get_lt hd) (by omega)
    rwa [(List.getElem?_eq_some_iff.1 hz).2, (List.getElem?_eq_some_iff.1 hd).2] at this
theorem tripIx_neg {t : Timetable} (id : Int) : fixI (fun x => x.Id == id) t.Trips < 0 ↔ ¬ ∃ (k : Nat) (y : Trip), t.Trips[k]? = some y ∧ y.Id = id := by
  constructor
  · rintro h ⟨k, y, h1, h2⟩
    have := fixI_neg h y (List.mem_of_getElem? h1)
    simp at this; exact this h2
  · intro h
    rcases found_or (t := t) id with h1 | ⟨k, y, h1, h2⟩
    · exact h1.1
    · exact absurd ⟨k, y, h1, h2⟩ h
theorem areDelays_eq {t : Timetable} (hb : TB t) (hT : GoodT t) (l : List TripDelay) (hl : l.length ≤ 100000) : i_areTripDelays t l = some (decide (GoodD t l)) := by
  unfold i_areTripDelays
  refine flb_dec (.iter (fun m s => ∃ i : Nat, s.2 = (i : Int) ∧ m + i = l.length ∧ (i = 0 → s.1 = 0) ∧ (∀ x, 0 < i → l[i - 1]? = some x → s.1 = x.Id) ∧ ∀ (j : Nat) d, j < i → l[j]? = some d → DelP t d ∧ ∀ z, 0 < j → l[j - 1]? = some z → z.Id < d.Id) (n := l.length) ⟨0, rfl, by omega, fun _ => rfl, fun x h => by omega, fun j d h => by omega⟩ ?_)
  rintro m ⟨d, v⟩ ⟨i, hv, hm, h0, h1, h2⟩
  simp only at hv h0 h1
  subst hv
  unfold i_areTripDelays_L1
  refine .iteP (fun hc => ?_) (fun hc => .dn (.inl ⟨rfl, fun j e he => h2 j e (by have := get_lt he; omega) he⟩))
  obtain ⟨e, he⟩ := get_ex (l := l) (i := i) (by omega)
  have hd : d < e.Id ∧ DelP t e ↔ DelP t e ∧ ∀ z, 0 < i → l[i - 1]? = some z → z.Id < e.Id := by
    constructor
    · rintro ⟨g1, g2⟩
      exact ⟨g2, fun z hz hz2 => by rw [← h1 z hz hz2]; exact g1⟩
    · rintro ⟨g1, g2⟩
      refine ⟨?_, g1⟩
      by_cases hi : i = 0
      · rw [h0 hi]
        obtain ⟨⟨k, y, hy, hy2⟩, _⟩ := g1
        obtain ⟨_, _, _, hid, _⟩ := trip_line hT hy
        omega
      · obtain ⟨z, hz⟩ := get_ex (l := l) (i := i - 1) (by omega)
        rw [h1 z (by omega) hz]; exact g2 z (by omega) hz
  refine .eq (ixs he) (.call (P := fun b => b = !decide (d < e.Id ∧ DelP t e)) ?_ fun b hb' => ?_)
  · refine .iteP (fun c => .ok ?_) (fun c => .eq (tripIndex_eq t hb.2 _) (.iteP (fun c2 => .ok ?_) (fun c2 => .eq (within_eq _ _ _) (.ok ?_))))
    · have : ¬ (d < e.Id ∧ DelP t e) := fun h => by omega
      simp [this]
    · have : ¬ (d < e.Id ∧ DelP t e) := fun h => (tripIx_neg e.Id).1 c2 h.2.1
      simp [this]
    · have hex : ∃ (k : Nat) (y : Trip), t.Trips[k]? = some y ∧ y.Id = e.Id   := Classical.byContradiction fun h => c2 ((tripIx_neg e.Id).2 h)
      congr 1
      rw [decide_eq_decide]
      unfold DelP
      constructor
      · intro h; exact ⟨by omega, hex, h⟩
      · intro h; exact h.2.2
  · subst hb'
    refine .iteN (fun hn => .dn (.inr ⟨rfl, fun hg => hn (hd.2 (hg i e he))⟩)) (fun hp => .nx ⟨m - 1, by omega, i + 1, w64_succ (by omega), by omega, fun h => by omega, fun x _ hx => ?_, fun j e' hj he' => ?_⟩)
    · rw [Nat.add_sub_cancel, he] at hx; cases hx; rfl
    · by_cases hji : j = i
      · subst hji; rw [he] at he'; cases he'; exact hd.1 hp
      · exact h2 j e' (by omega) he'
theorem l23Good_eq {t : Timetable} (hb : TB t) (l : List TripDelay) (hl : l.length ≤ 100000) : s_l23Good t l = some (decide (GoodT t ∧ GoodD t l)) := by
  unfold s_l23Good
  rw [goodT_eq hb]
  by_cases hT : GoodT t
  · simp only [hT, decide_true, Bool.not_true, Bool.false_eq_true, if_false, Option.bind_some, true_and]
    rw [all_val (hd := Classical.propDecidable _) l (fun i e => DelP t e ∧ ∀ z, 0 < i → l[i - 1]? = some z → z.Id < e.Id) (fun i e he => ?_) (by unfold s_l23Good_L1; simp)]
    · by_cases h : GoodD t l
      · rw [if_pos (fun i x hx => h i x hx)]; simp [h]
      · rw [if_neg (fun hc => h fun i x hx => hc i x hx)]; simp [h]
    have hi := get_lt he
    unfold s_l23Good_L1
    simp only [Int.ofNat_lt.2 hi, decide_true, if_true, idx_nat, he, Option.bind_some, l5Find_eq t hb.2, l1In_eq]
    by_cases c1 : ∃ (k : Nat) (y : Trip), t.Trips[k]? = some y ∧ y.Id = e.Id
    · have n1 : ¬ fixI (fun x => x.Id == e.Id) t.Trips < 0 := fun h => (tripIx_neg e.Id).1 h c1
      by_cases c2 : 0 ≤ e.Minutes ∧ e.Minutes ≤ 600
      · simp only [n1, c2, and_self, decide_true, decide_false, Bool.not_true, Bool.false_eq_true, if_false, Option.bind_some]
        by_cases h0 : 0 < (i : Int)
        · obtain ⟨z, hz⟩ := get_ex (l := l) (i := i - 1) (by omega)
          have ew : w64 ((i : Int) - 1) = ((i - 1 : Nat) : Int) := by rw [w64_id (by omega)]; omega
          simp only [h0, decide_true, if_true, ew, idx_nat, hz, Option.bind_some]
          by_cases c3 : e.Id ≤ z.Id
          · right
            refine ⟨by simp [c3], fun h => ?_⟩
            have := h.2 z (by omega) rfl; omega
          · left
            refine ⟨by rw [w64_succ (by omega)]; simp [c3], ⟨c1, c2⟩, fun z' _ hz' => by cases hz'; omega⟩
        · simp only [h0, decide_false, Bool.false_eq_true, if_false, Option.bind_some]
          left
          exact ⟨by rw [w64_succ (by omega)], ⟨c1, c2⟩, fun z hz => by omega⟩
      · right
        simp only [n1, c2, decide_false, Bool.not_false, Bool.false_eq_true, if_false, if_true, Option.bind_some]
        exact ⟨trivial, fun h => c2 h.1.2⟩
    · right
      have n1 : fixI (fun x => x.Id == e.Id) t.Trips < 0 := (tripIx_neg e.Id).2 c1
      simp only [n1, decide_true, if_true, Option.bind_some]
      exact ⟨trivial, fun h => c1 h.1.1⟩
  · simp [hT]
theorem validD_eq {t : Timetable} (hb : TB t) (l : List TripDelay) (hl : l.length ≤ 100000) : i_IsValidTripDelays t l = some (decide (GoodT t ∧ GoodD t l)) := by
  unfold i_IsValidTripDelays
  rw [validT_eq hb]
  by_cases hT : GoodT t
  · simp only [hT, decide_true, if_true, Option.bind_some, areDelays_eq hb hT l hl, true_and]
  · simp [hT]
def dOf (l : List TripDelay) (id : Int) : Int := ((l.find? fun e => e.Id == id).map (·.Minutes)).getD 0
theorem drop_at {α : Type} {l : List α} {k : Nat} {x : α} (h : l[k]? = some x) : l.drop k = x :: l.drop (k + 1) := by
  rw [List.drop_eq_getElem_cons (get_lt h)]
  congr 1
  exact (List.getElem?_eq_some_iff.1 h).2
theorem delayOf_eq (l : List TripDelay) (hl : l.length ≤ 100000) (id : Int) : i_delayOf l id = some (dOf l id) := by
  unfold i_delayOf
  refine Tot.val (.flb ((Tot.iter (fun m (v : Int) => ∃ k : Nat, v = (k : Int) ∧ m + k = l.length ∧ (l.drop k).find? (fun e => e.Id == id) = l.find? fun e => e.Id == id) (Q := fun b => (b = .go () ∧ dOf l id = 0) ∨ b = .ret (dOf l id)) (n := l.length) ⟨0, rfl, by omega, rfl⟩ ?_).mono fun b hb => ?_))
  · rintro m v ⟨k, rfl, hm, hf⟩
    unfold i_delayOf_L1
    refine .iteP (fun hc => ?_) (fun hc => .dn (.inl ⟨rfl, ?_⟩))
    · obtain ⟨e, he⟩ := get_ex (l := l) (i := k) (by omega)
      rw [drop_at he, List.find?_cons] at hf
      refine .eq (ixs he) (.ite (fun h => .dn (.inr ?_)) (fun h => .nx ⟨m - 1, by omega, k + 1, w64_succ (by omega), by omega, ?_⟩))
      · rw [h] at hf
        unfold dOf; rw [← hf]; rfl
      · rw [h] at hf; exact hf
    · rw [List.drop_of_length_le (by omega)] at hf
      unfold dOf; rw [← hf]; rfl
  · rcases hb with ⟨rfl, h⟩ | rfl
    · exact ⟨fun r e => (by cases e), fun u _ => .ok h.symm⟩
    · exact ⟨fun r e => (by cases e; rfl), fun u e => by cases e⟩
theorem l23Delay_eq (l : List TripDelay) (hl : l.length ≤ 100000) (id : Int) : s_l23Delay l id = some (dOf l id) := by
  unfold s_l23Delay
  refine Tot.val (.flb ((Tot.iter (fun m (v : Int) => ∃ k : Nat, v = (k : Int) ∧ m + k = l.length ∧ (l.drop k).find? (fun e => e.Id == id) = l.find? fun e => e.Id == id) (Q := fun b => (b = .go () ∧ dOf l id = 0) ∨ b = .ret (dOf l id)) (n := l.length) ⟨0, rfl, by omega, rfl⟩ ?_).mono fun b hb => ?_))
  · rintro m v ⟨k, rfl, hm, hf⟩
    unfold s_l23Delay_L1
    refine .iteP (fun hc => ?_) (fun hc => .dn (.inl ⟨rfl, ?_⟩))
    · obtain ⟨e, he⟩ := get_ex (l := l) (i := k) (by omega)
      rw [drop_at he, List.find?_cons] at hf
      refine .eq (ixs he) (.ite (fun h => .eq (ixs he) (.dn (.inr ?_))) (fun h => .nx ⟨m - 1, by omega, k + 1, w64_succ (by omega), by omega, ?_⟩))
      · rw [h] at hf
        unfold dOf; rw [← hf]; rfl
      · rw [h] at hf; exact hf
    · rw [List.drop_of_length_le (by omega)] at hf
      unfold dOf; rw [← hf]; rfl
  · rcases hb with ⟨rfl, h⟩ | rfl
    · exact ⟨fun r e => (by cases e), fun u _ => .ok h.symm⟩
    · exact ⟨fun r e => (by cases e; rfl), fun u e => by cases e⟩
theorem dOf_rng {t : Timetable} {l : List TripDelay} (h : GoodD t l) (id : Int) : 0 ≤ dOf l id ∧ dOf l id ≤ 600 := by
  unfold dOf
  cases hf : l.find? fun e => e.Id == id with
  | none => simp
  | some e =>
    obtain ⟨i, hi⟩ := List.getElem?_of_mem (List.mem_of_find?_eq_some hf)
    exact (h i e hi).1.2
def loD (l : List TripDelay) (id : Int) : List TripDelay := l.filter fun e => decide (e.Id < id)
def hiD (l : List TripDelay) (id : Int) : List TripDelay := l.filter fun e => decide (id < e.Id)
def midD (id w : Int) : List TripDelay := if w ≠ 0 then [⟨id, w⟩] else []
def putD (l : List TripDelay) (id w : Int) : List TripDelay := loD l id ++ midD id w ++ hiD l id
theorem flt_succ {α : Type} {l : List α} {i : Nat} {x : α} (p : α → Bool) (h : l[i]? = some x) : (l.take (i + 1)).filter p = (l.take i).filter p ++ (if p x = true then [x] else []) := by
  rw [take_succ h, List.filter_append]
  by_cases hp : p x = true <;> simp [hp]
theorem putD_len (l : List TripDelay) (id w : Int) : (putD l id w).length ≤ 2 * l.length + 1 := by
  unfold putD loD hiD midD
  have h1 := List.length_filter_le (fun e : TripDelay => decide (e.Id < id)) l
  have h2 := List.length_filter_le (fun e : TripDelay => decide (id < e.Id)) l
  rw [List.length_append, List.length_append]
  split <;> simp <;> omega
/-! Draws; FnTripDelays. -/
theorem delays23_ok {k : Nat} {c : l1Cur} {t : Timetable} (h : Cur k c) (hk : k ≤ 1000000) (hd : DT t) : Tot (s_l1Cur_delays23 c t) fun r => Cur (k + 200) r.2 ∧ r.1.length ≤ 40 := by
  have h30 := hd.2
  unfold s_l1Cur_delays23
  refine .call (P := fun o => Cur (k + 150) ⟨o.1, o.2.1, ⟨o.2.2.1⟩⟩ ∧ o.2.2.2.length ≤ 30) ?_ fun ⟨v9, v10, v11, v12⟩ ⟨hc, hl⟩ => ?_
  · refine Tot.iter (fun m s => ∃ j : Nat, s.1 = (j : Int) ∧ m + j = t.Trips.length ∧ s.2.2.2.2.length ≤ j ∧ Cur (k + 4 * j) ⟨s.2.1, s.2.2.1, ⟨s.2.2.2.1⟩⟩) (n := t.Trips.length) ⟨0, rfl, by omega, by simp, h⟩ ?_
    rintro m ⟨v, v1, v2, v3, v4⟩ ⟨j, hv, hm, hl, hcur⟩
    simp only at hv hl hcur
    subst hv
    unfold s_l1Cur_delays23_L1
    refine .iteP (fun hc => ?_) (fun hc => .dn ⟨hcur.mono (by omega), by dsimp only; omega⟩)
    refine .call (P := fun o => Cur (k + 4 * (j + 1)) ⟨o.1, o.2.1, ⟨o.2.2.1⟩⟩ ∧ o.2.2.2.length ≤ j + 1) ?_ fun ⟨v5, v6, v7, v8⟩ ⟨q1, q2⟩ => .nx ⟨m - 1, by omega, j + 1, w64_succ (by omega), by omega, q2, q1⟩
    refine .call (t_one 3 hcur (by omega)) fun r hr => .ite (fun _ => .idx (by omega) hc fun e _ => .call (t_amongw _ (by simp) hr (by omega)) fun r2 ⟨hr2, _⟩ => .chk (by simp; omega) (.ok ⟨hr2.mono (by omega), by simp; omega⟩)) (fun _ => .ok ⟨hr.mono (by omega), by dsimp only; omega⟩)
  · dsimp only at hc hl
    refine .call (P := fun o => Cur (k + 200) ⟨o.1, o.2.1, ⟨o.2.2.1⟩⟩ ∧ o.2.2.2.length ≤ 40) ?_ fun ⟨v13, v14, v15, v16⟩ ⟨q1, q2⟩ => .ok ⟨q1, q2⟩
    refine .call (t_pick 40 hc (by omega)) fun r3 ⟨hc3, _⟩ => .ite (fun _ => .call (t_amongw _ (by simp) hc3 (by omega)) fun r4 ⟨hc4, _⟩ => .chk (by simp; omega) (.ok ⟨hc4.mono (by omega), by simp; omega⟩)) (fun _ => .ite (fun _ => .iteP (fun hp => ?_) (fun _ => .ok ⟨hc3.mono (by omega), by dsimp only; omega⟩)) (fun _ => .ok ⟨hc3.mono (by omega), by dsimp only; omega⟩))
    have ew : w64 ((v12.length : Int) - 1) = (v12.length : Int) - 1 := w64_id (by omega)
    rw [ew]
    refine .idx (by omega) (by omega) fun e4 _ => .call (t_amongw _ (by simp) hc3 (by omega)) fun r6 ⟨hc6, _⟩ => .idx (by omega) (by omega) fun e5 _ => .ok ⟨hc6.mono (by omega), by dsimp only; rw [List.length_set]; omega⟩
/-! Items of other law texts, picked (pick.py). -/
theorem bsize (x : ByteArray) : x.data.toList.length = x.size := rfl
theorem tl_eq (x : ByteArray) : x.toList = x.data.toList := by
  have h : ∀ (n i : Nat) (r : List UInt8), x.size - i = n → ByteArray.toList.loop x i r = r.reverse ++ x.data.toList.drop i := by
    intro n
    induction n with
    | zero =>
      intro i r hn
      rw [ByteArray.toList.loop, if_neg (by omega), List.drop_of_length_le (by rw [bsize]; omega), List.append_nil]
    | succ n ih =>
      intro i r hn
      have hi : i < x.data.toList.length := by rw [bsize]; omega
      rw [ByteArray.toList.loop, if_pos (by omega), ih (i + 1) _ (by omega), List.drop_eq_getElem_cons hi]
      have : x.get! i = x.data.toList[i] := by
        have h2 : i < x.data.size := by simpa using hi
        show x.data[i]! = _
        rw [getElem!_pos x.data i h2]
        simp
      rw [this]
      simp
  show ByteArray.toList.loop x 0 [] = _
  rw [h _ 0 [] rfl]
  simp
theorem str_of (x : ByteArray) : x = str x.data.toList := rfl
theorem str_l (l : List UInt8) : (str l).data.toList = l := rfl
theorem str_t (l : List UInt8) : (str l).toList = l := tl_eq _
theorem str_s (l : List UInt8) : (str l).size = l.length := rfl
theorem str_empty : ByteArray.empty = str [] := rfl
theorem str_inj {a b : List UInt8} : str a = str b ↔ a = b := ⟨fun h => congrArg (fun x : ByteArray => x.data.toList) h, fun h => by rw [h]⟩
theorem beq_str (a b : List UInt8) : ((str a).toList == (str b).toList) = decide (a = b) := by
  rw [str_t, str_t]
  by_cases h : a = b <;> simp [h]
theorem lin_eq (x a b : Int) : s_l1In x a b = some (decide (a ≤ x ∧ x ≤ b)) := by
  unfold s_l1In
  by_cases h1 : a ≤ x <;> by_cases h2 : x ≤ b <;> simp [h1, h2]
theorem time24_eq (t : Int) : s_l4Time t = some (decide (0 ≤ t ∧ t ≤ 1799)) := by
  unfold s_l4Time
  rw [lin_eq]; rfl
theorem itime24_eq (t : Int) : i_IsValidTime t = some (decide (0 ≤ t ∧ t ≤ 1799)) := by
  unfold i_IsValidTime
  rw [within_eq]; rfl
def TmOK (t : Int) : Prop := 0 ≤ t ∧ t ≤ 1799
instance (t : Int) : Decidable (TmOK t) := by unfold TmOK; infer_instance
def MOK (m : Message) : Prop :=
  (m.Kind = 1 ∧ NameOK m.Line ∧ (1 ≤ m.Minutes ∧ m.Minutes ≤ 600) ∧ m.Stop = str [] ∧ m.From = 0 ∧ m.To = 0) ∨
  ((m.Kind = 2 ∨ m.Kind = 5) ∧ NameOK m.Line ∧ TmOK m.From ∧ m.Stop = str [] ∧ m.To = 0 ∧ m.Minutes = 0) ∨
  (m.Kind = 3 ∧ NameOK m.Stop ∧ TmOK m.From ∧ TmOK m.To ∧ m.From ≤ m.To ∧ m.Line = str [] ∧ m.Minutes = 0) ∨
  (m.Kind = 4 ∧ NameOK m.Line ∧ NameOK m.Stop ∧ TmOK m.From ∧ TmOK m.To ∧ m.From ≤ m.To ∧ m.Minutes = 0)
theorem beq_e (x : ByteArray) : (x.toList == (str []).toList) = decide (x = str []) := by
  have h := beq_str x.data.toList []
  rw [← str_of x] at h
  rw [h]
  congr 1
  apply propext
  constructor
  · intro h2; rw [str_of x, h2]
  · intro h2; rw [h2]; rfl
theorem lgood_ok (m : Message) : Tot (s_l24Good m) fun b => b = true ↔ MOK m := by
  unfold s_l24Good
  rw [str_empty]
  simp only [l2Name_eq, l1In_eq, time24_eq, beq_e, Option.bind_some, beq_self_eq_true, Bool.true_and, Bool.and_true]
  obtain ⟨k, L, S, f, t, n⟩ := m
  dsimp only
  by_cases h1 : k = 1
  · by_cases a : NameOK L <;> by_cases b : 1 ≤ n ∧ n ≤ 600 <;> by_cases c : S = str [] <;> by_cases d : f = 0 <;> by_cases e : t = 0 <;> simp [h1, a, b, c, d, e, Tot, MOK]
  by_cases h2 : k = 2 ∨ k = 5
  · have e2 : (if (k == 2) = true then some (k == 2) else some (k == 5)) = some true := by rcases h2 with rfl | rfl <;> rfl
    rw [e2]
    have h3 : ¬ k = 3 := by omega
    have h4 : ¬ k = 4 := by omega
    by_cases a : NameOK L <;> by_cases b : 0 ≤ f ∧ f ≤ 1799 <;> by_cases c : S = str [] <;> by_cases d : n = 0 <;> by_cases e : t = 0 <;> simp [h1, h2, h3, h4, a, b, c, d, e, Tot, MOK, TmOK]
  have e2 : (if (k == 2) = true then some (k == 2) else some (k == 5)) = some false := by
    have h5 : ¬ k = 2 := fun h => h2 (.inl h)
    have h6 : ¬ k = 5 := fun h => h2 (.inr h)
    simp [h5, h6]
  rw [e2]
  by_cases h3 : k = 3
  · by_cases a : NameOK S <;> by_cases b : 0 ≤ f ∧ f ≤ 1799 <;> by_cases c : L = str [] <;> by_cases d : n = 0 <;> by_cases e : 0 ≤ t ∧ t ≤ 1799 <;> by_cases g : f ≤ t <;> simp [h3, a, b, c, d, e, g, Tot, MOK, TmOK]
  by_cases h4 : k = 4
  · by_cases a : NameOK S <;> by_cases b : 0 ≤ f ∧ f ≤ 1799 <;> by_cases c : NameOK L <;> by_cases d : n = 0 <;> by_cases e : 0 ≤ t ∧ t ≤ 1799 <;> by_cases g : f ≤ t <;> simp [h4, a, b, c, d, e, g, Tot, MOK, TmOK]
  · simp [h1, h2, h3, h4, Tot, MOK]
theorem iperiod_eq (m : Message) : i_isPeriod m = some (decide (TmOK m.From ∧ TmOK m.To ∧ m.From ≤ m.To)) := by
  unfold i_isPeriod
  simp only [itime24_eq, Option.bind_some]
  by_cases b : 0 ≤ m.From ∧ m.From ≤ 1799 <;> by_cases e : 0 ≤ m.To ∧ m.To ≤ 1799 <;> simp [b, e, TmOK]
theorem ivalid_ok (m : Message) : Tot (i_IsValidMessage m) fun b => b = true ↔ MOK m := by
  unfold i_IsValidMessage
  rw [str_empty]
  simp only [isName_eq, within_eq, itime24_eq, iperiod_eq, beq_e, Option.bind_some, beq_self_eq_true, Bool.true_and, Bool.and_true]
  obtain ⟨k, L, S, f, t, n⟩ := m
  dsimp only
  by_cases h1 : k = 1
  · by_cases a : NameOK L <;> by_cases b : 1 ≤ n ∧ n ≤ 600 <;> by_cases c : S = str [] <;> by_cases d : f = 0 <;> by_cases e : t = 0 <;> simp [h1, a, b, c, d, e, Tot, MOK, flb]
  by_cases h2 : k = 2 ∨ k = 5
  · have e2 : (if (k == 2) = true then some (k == 2) else some (k == 5)) = some true := by rcases h2 with rfl | rfl <;> rfl
    rw [e2]
    have h3 : ¬ k = 3 := by omega
    have h4 : ¬ k = 4 := by omega
    by_cases a : NameOK L <;> by_cases b : 0 ≤ f ∧ f ≤ 1799 <;> by_cases c : S = str [] <;> by_cases d : n = 0 <;> by_cases e : t = 0 <;> simp [h1, h2, h3, h4, a, b, c, d, e, Tot, MOK, TmOK, flb]
  have e2 : (if (k == 2) = true then some (k == 2) else some (k == 5)) = some false := by
    have h5 : ¬ k = 2 := fun h => h2 (.inl h)
    have h6 : ¬ k = 5 := fun h => h2 (.inr h)
    simp [h5, h6]
  rw [e2]
  by_cases h3 : k = 3
  · by_cases a : NameOK S <;> by_cases b : TmOK f <;> by_cases c : L = str [] <;> by_cases d : n = 0 <;> by_cases e : TmOK t <;> by_cases g : f ≤ t <;> simp [h3, a, b, c, d, e, g, Tot, MOK, flb]
  by_cases h4 : k = 4
  · by_cases a : NameOK S <;> by_cases b : TmOK f <;> by_cases c : NameOK L <;> by_cases d : n = 0 <;> by_cases e : TmOK t <;> by_cases g : f ≤ t <;> simp [h4, a, b, c, d, e, g, Tot, MOK, flb]
  · simp [h1, h2, h3, h4, Tot, MOK, flb]
theorem amo_ok {k : Nat} {c : l1Cur} (l : List Int) (hl : l ≠ []) (h : Cur k c) (hk : k ≤ 3000000000) : ∃ r, s_l1Cur_among c l = some r ∧ Cur (k + 2) r.2 ∧ r.1 ∈ l := by
  unfold s_l1Cur_among
  obtain ⟨r, hr, hc, h0, h1⟩ := pick_ok (l.length : Int) h hk
  have hpos : 0 < l.length := List.length_pos_iff.2 hl
  obtain ⟨x, hx, _, hm⟩ := idx_lt (l := l) h0 (by omega)
  simp only [hr, Option.bind_some, hx]
  exact ⟨_, rfl, hc, hm⟩
theorem least24 (a b : Int) : Tot (s_l1Least a b) fun _ => True := by
  unfold s_l1Least
  exact .iteP (fun _ => .ok trivial) (fun _ => .ok trivial)
theorem drawm_ok {k : Nat} {c : l1Cur} (h : Cur k c) (hk : k ≤ 1000000) : Tot (s_l1Cur_message c) fun r => Cur (k + 14) r.2 := by
  unfold s_l1Cur_message
  refine .call (pick_ok 5 h (by omega)) fun r ⟨h1, _, _⟩ => .call (of_ok _ (by simp) h1 (by omega)) fun r1 ⟨h2, _⟩ => .call (of_ok _ (by simp) h2 (by omega)) fun r2 ⟨h3, _⟩ => .call (amo_ok _ (by simp) h3 (by omega)) fun r3 ⟨h4, _⟩ => ?_
  refine .call (P := fun o => Cur (k + 10) ⟨o.1, o.2.1, ⟨o.2.2.1⟩⟩) (.ite (fun _ => .call (amo_ok _ (by simp) h4 (by omega)) fun r4 ⟨h5, _⟩ => .ok h5) (fun _ => .call (P := fun _ => True) (.ite (fun _ => .ok trivial) (fun _ => .ok trivial)) fun v8 _ => .ite (fun _ => .ok (h4.mono (by omega))) (fun _ => .ite (fun _ => .call (amo_ok _ (by simp) h4 (by omega)) fun r5 ⟨h5, _⟩ => .call (least24 _ _) fun r6 _ => .ok h5) (fun _ => .call (amo_ok _ (by simp) h4 (by omega)) fun r5 ⟨h5, _⟩ => .call (least24 _ _) fun r6 _ => .ok h5)))) fun ⟨v, v1, v2, v3, v4, v5, v6, v7⟩ h5 => ?_
  dsimp only at h5 ⊢
  refine .call (P := fun o => Cur (k + 14) ⟨o.1, o.2.1, ⟨o.2.2.1⟩⟩) (.call (pick_ok 60 h5 (by omega)) fun r9 ⟨h6, _, _⟩ => .ite (fun _ => .call (amo_ok _ (by simp) h6 (by omega)) fun r10 ⟨h7, _⟩ => .ok h7) (fun _ => .ite (fun _ => .call (amo_ok _ (by simp) h6 (by omega)) fun r10 ⟨h7, _⟩ => .ok h7) (fun _ => .ite (fun _ => .call (amo_ok _ (by simp) h6 (by omega)) fun r10 ⟨h7, _⟩ => .ok h7) (fun _ => .ite (fun _ => .call (of_ok _ (by simp) h6 (by omega)) fun r10 ⟨h7, _⟩ => .ok h7) (fun _ => .ok (h6.mono (by omega))))))) fun ⟨v9, v10, v11, v12, v13, v14, v15⟩ h7 => ?_
  exact .ok h7
theorem drawn_ok {k : Nat} {c : l1Cur} (h : Cur k c) (hk : k ≤ 100000) : Tot (s_l1Cur_notice c) fun r => r.1.length ≤ 11 ∧ Cur (k + 200) r.2 := by
  unfold s_l1Cur_notice
  refine .call (pick_ok 5 h (by omega)) fun r ⟨h1, a0, a1⟩ => ?_
  refine .call (P := fun o => o.2.2.2.length ≤ 5 ∧ Cur (k + 100) ⟨o.1, o.2.1, ⟨o.2.2.1⟩⟩) (Tot.iter (fun (n : Nat) (s : Int × List UInt8 × Int × Int × List Message) => s.1 = (n : Int) ∧ s.2.2.2.2.length + n ≤ 5 ∧ Cur (k + 2 + 14 * (5 - n)) ⟨s.2.1, s.2.2.1, ⟨s.2.2.2.1⟩⟩) (n := r.1.toNat) ⟨by show r.1 = _; omega, by show 0 + r.1.toNat ≤ 5; omega, h1.mono (by omega)⟩ ?_) fun ⟨v4, v5, v6, n1⟩ ⟨g1, g2⟩ => ?_
  · rintro n ⟨v, v1, v2, v3, w⟩ ⟨e, hl, hc⟩
    dsimp only at e hl hc
    subst e
    unfold s_l1Cur_notice_L1
    dsimp only
    refine .iteP (fun hlt => .call (drawm_ok hc (by omega)) fun r1 h2 => .chk (by simp; omega) (.nx ⟨n - 1, by omega, ?_, ?_, ?_⟩)) (fun hge => .dn ⟨by show w.length ≤ 5; omega, hc.mono (by omega)⟩)
    · show w64 ((n : Int) - 1) = _
      rw [w64_id (by omega)]; omega
    · show (w ++ [r1.1]).length + (n - 1) ≤ 5
      simp; omega
    · exact h2.mono (by omega)
  · dsimp only at g1 g2 ⊢
    refine .call (P := fun o => o.2.2.2.length ≤ 11 ∧ Cur (k + 200) ⟨o.1, o.2.1, ⟨o.2.2.1⟩⟩) (.call (one_ok 40 g2 (by omega)) fun r2 h3 => .ite (fun _ => .call (P := fun o => o.2.2.2.length ≤ 11 ∧ Cur (k + 200) ⟨o.1, o.2.1, ⟨o.2.2.1⟩⟩) (Tot.iter (fun (n : Nat) (s : List UInt8 × Int × Int × List Message) => s.2.2.2.length + n = 11 ∧ Cur (k + 102 + 2 * (11 - n)) ⟨s.1, s.2.1, ⟨s.2.2.1⟩⟩) (n := 11 - n1.length) ⟨by show n1.length + _ = 11; omega, h3.mono (by omega)⟩ ?_) fun ⟨v13, v14, v15, n4⟩ hq => .ok hq) (fun _ => .ok ⟨by show n1.length ≤ 11; omega, h3.mono (by omega)⟩)) fun ⟨v7, v8, v9, n2⟩ hq => .ok hq
    rintro n ⟨v10, v11, v12, n3⟩ ⟨hl, hc⟩
    dsimp only at hl hc
    unfold s_l1Cur_notice_L2
    dsimp only
    refine .call (pick_ok 2 hc (by omega)) fun r3 ⟨h4, b0, b1⟩ => ?_
    have ew : w64 (10 + r3.1) = 10 + r3.1 := w64_id (by omega)
    rw [ew]
    refine .iteP (fun hlt => .chk (by simp; omega) (.nx ⟨n - 1, by omega, ?_, h4.mono (by omega)⟩)) (fun hge => .dn ⟨by show n3.length ≤ 11; omega, h4.mono (by omega)⟩)
    show (n3 ++ [_]).length + (n - 1) = 11
    simp; omega
def NOK (ms : List Message) : Prop := ms.length ≤ 10 ∧ ∀ m ∈ ms, MOK m
theorem get_nat {α : Type} {l : List α} {i : Nat} {x : α} (h : l[(i : Int).toNat]? = some x) : l[i]? = some x := by rwa [Int.toNat_natCast] at h
theorem mem_take_succ {α : Type} {P : α → Prop} {l : List α} {i : Nat} {x : α} (hx : l[i]? = some x) (h : ∀ m ∈ l.take i, P m) (hp : P x) : ∀ m ∈ l.take (i + 1), P m := by
  intro m hm
  rw [take_succ hx] at hm
  rcases List.mem_append.1 hm with hm | hm
  · exact h m hm
  · simp at hm; subst hm; exact hp
theorem lnotice_ok (l : List Message) (hl : l.length ≤ 1000000) : Tot (s_l24Notice l) fun b => b = true ↔ NOK l := by
  unfold s_l24Notice
  refine Tot.flb (Tot.iter (fun n (v : Int) => ∃ i : Nat, n + i = l.length ∧ v = (i : Int) ∧ ∀ m ∈ l.take i, MOK m) (n := l.length) ⟨0, by omega, rfl, by simp⟩ ?_)
  rintro n _ ⟨i, hn, rfl, hi⟩
  unfold s_l24Notice_L1
  dsimp only
  refine .iteP (fun hlt => .idx (by omega) hlt fun x hx => .call (lgood_ok x) fun b hb => .ite (fun h => .dn ⟨fun r hr => ?_, fun u hu => (by cases hu)⟩) (fun h => .nx ⟨n - 1, by omega, i + 1, by omega, w64_succ (by omega), ?_⟩)) (fun hge => .dn ⟨fun r hr => (by cases hr), fun u _ => .ok ?_⟩)
  · cases hr
    refine ⟨fun h2 => (by cases h2), fun h2 => ?_⟩
    have := hb.2 (h2.2 x (List.mem_of_getElem? (get_nat hx)))
    rw [this] at h; cases h
  · exact mem_take_succ (get_nat hx) hi (hb.1 (by simpa using h))
  · have : i = l.length := by omega
    subst this
    rw [List.take_length] at hi
    rw [decide_eq_true_eq]
    exact ⟨fun h => ⟨by omega, hi⟩, fun h => by have := h.1; omega⟩
theorem inotice_ok (l : List Message) (hl : l.length ≤ 1000000) : Tot (i_isNotice l) fun b => b = true ↔ NOK l := by
  have hf : Tot (slices_IndexFunc_Message l (fun z => i_isNotice_1 z)) fun r => (0 ≤ r ↔ ∃ m ∈ l, ¬ MOK m) := by
    unfold slices_IndexFunc_Message
    refine Tot.flb (Tot.iter (fun n (v : Int) => ∃ i : Nat, n + i = l.length ∧ v = (i : Int) ∧ ∀ m ∈ l.take i, MOK m) (n := l.length) ⟨0, by omega, rfl, by simp⟩ ?_)
    rintro n _ ⟨i, hn, rfl, hi⟩
    unfold slices_IndexFunc_Message_L1 i_isNotice_1
    dsimp only
    refine .iteP (fun hlt => .idx (by omega) hlt fun x hx => .call (P := fun b => b = true ↔ ¬ MOK x) (.call (ivalid_ok x) fun b hb => .ok ?_) fun b hb => .ite (fun h => .dn ⟨fun r hr => ?_, fun u hu => (by cases hu)⟩) (fun h => .nx ⟨n - 1, by omega, i + 1, by omega, w64_succ (by omega), ?_⟩)) (fun hge => .dn ⟨fun r hr => (by cases hr), fun u _ => .ok ?_⟩)
    · cases b
      · simpa using hb
      · simpa using hb
    · cases hr
      exact ⟨fun _ => ⟨x, List.mem_of_getElem? (get_nat hx), hb.1 h⟩, fun _ => by omega⟩
    · refine mem_take_succ (get_nat hx) hi (Classical.byContradiction fun hno => ?_)
      have := hb.2 hno
      rw [h] at this; cases this
    · have : i = l.length := by omega
      subst this
      rw [List.take_length] at hi
      exact ⟨fun h => absurd h (by omega), fun ⟨m, hm, hno⟩ => absurd (hi m hm) hno⟩
  unfold i_isNotice slices_ContainsFunc_Message__i_isNotice_1 slices_ContainsFunc_Message
  refine .call (P := fun b => b = true ↔ NOK l) (.iteP (fun h10 => .call (P := fun b => b = true ↔ ∃ m ∈ l, ¬ MOK m) (.call hf fun r hr => .ok (by rw [decide_eq_true_eq]; exact hr)) fun b hb => .ok ?_) (fun h10 => .ok ?_)) fun b hb => .ok hb
  · cases b with
    | true =>
      obtain ⟨m, hm, hno⟩ := hb.1 rfl
      exact ⟨fun h => (by cases h), fun h => absurd (h.2 m hm) hno⟩
    | false =>
      exact ⟨fun _ => ⟨by omega, fun m hm => Classical.byContradiction fun hno => by have := hb.2 ⟨m, hm, hno⟩; cases this⟩, fun _ => rfl⟩
  · exact ⟨fun h => (by cases h), fun h => absurd h.1 (by omega)⟩
/-! Merging notices. -/
theorem drop_cons {α : Type} {l : List α} {i : Nat} {e : α} (h : l[i]? = some e) : l.drop i = e :: l.drop (i + 1) := by
  obtain ⟨h1, h2⟩ := List.getElem?_eq_some_iff.1 h
  rw [List.drop_eq_getElem_cons h1, h2]
theorem beq_ba (x y : ByteArray) : (x.toList == y.toList) = decide (x = y) := by
  have h := beq_str x.data.toList y.data.toList
  rw [← str_of x, ← str_of y] at h
  rw [h]
  congr 1
  apply propext
  constructor
  · intro h2; rw [str_of x, h2, ← str_of y]
  · intro h2; rw [h2]
noncomputable instance instDecMsg : DecidableEq Message := fun _ _ => Classical.propDecidable _
theorem meq (a b : Message) : ((a.Kind == b.Kind) && ((a.Line.toList == b.Line.toList) && ((a.Stop.toList == b.Stop.toList) && ((a.From == b.From) && ((a.To == b.To) && ((a.Minutes == b.Minutes) && true)))))) = decide (a = b) := by
  rw [beq_ba, beq_ba]
  obtain ⟨k, L, S, f, t, n⟩ := a
  obtain ⟨k2, L2, S2, f2, t2, n2⟩ := b
  rw [Bool.eq_iff_iff]
  simp [Message.mk.injEq]
theorem hasM (s : List Message) (hs : s.length ≤ 1000000) (v : Message) : Tot (slices_Contains_Message s v) fun b => b = true ↔ v ∈ s := by
  unfold slices_Contains_Message slices_Index_Message
  refine .call (P := fun r => 0 ≤ r ↔ v ∈ s) (Tot.flb (Tot.iter (fun n (j : Int) => ∃ i : Nat, n + i = s.length ∧ j = (i : Int) ∧ v ∉ s.take i) (n := s.length) ⟨0, by omega, rfl, by simp⟩ ?_)) fun r hr => .ok (by rw [decide_eq_true_eq]; exact hr)
  rintro n _ ⟨i, hn, rfl, hi⟩
  unfold slices_Index_Message_L1
  dsimp only
  refine .iteP (fun hlt => .idx (by omega) hlt fun x hx => ?_) (fun hge => .dn ⟨fun r hr => (by cases hr), fun u _ => .ok ?_⟩)
  · rw [meq]
    refine .iteP (fun he => .dn ⟨fun r hr => ?_, fun u hu => (by cases hu)⟩) (fun he => .nx ⟨n - 1, by omega, i + 1, by omega, w64_succ (by omega), ?_⟩)
    · cases hr
      subst he
      exact ⟨fun _ => List.mem_of_getElem? (get_nat hx), fun _ => by omega⟩
    · have hx := get_nat hx
      rw [take_succ hx]
      simp [hi, he]
  · have : i = s.length := by omega
    subst this
    rw [List.take_length] at hi
    exact ⟨fun h => absurd h (by omega), fun h => absurd h hi⟩
theorem hasF (s : List Message) (hs : s.length ≤ 1000000) (e : Message) : Tot (slices_ContainsFunc_Message__i_MergeNotices_1 s e) fun b => b = true ↔ ∃ n ∈ s, n.Kind = 1 ∧ n.Line = e.Line := by
  have hf : ∀ n : Message, i_MergeNotices_1 n e = some (decide (n.Kind = 1 ∧ n.Line = e.Line)) := by
    intro n
    unfold i_MergeNotices_1
    rw [beq_ba]
    by_cases h1 : n.Kind = 1
    · rw [if_pos (by simp [h1]), Option.bind_some]; simp [h1]
    · rw [if_neg (by simp [h1]), Option.bind_some]; simp [h1]
  unfold slices_ContainsFunc_Message__i_MergeNotices_1 slices_ContainsFunc_Message slices_IndexFunc_Message
  refine .call (P := fun r => 0 ≤ r ↔ ∃ n ∈ s, n.Kind = 1 ∧ n.Line = e.Line) (Tot.flb (Tot.iter (fun n (j : Int) => ∃ i : Nat, n + i = s.length ∧ j = (i : Int) ∧ ∀ m ∈ s.take i, ¬ (m.Kind = 1 ∧ m.Line = e.Line)) (n := s.length) ⟨0, by omega, rfl, by simp⟩ ?_)) fun r hr => .ok (by rw [decide_eq_true_eq]; exact hr)
  rintro n _ ⟨i, hn, rfl, hi⟩
  unfold slices_IndexFunc_Message_L1
  dsimp only
  refine .iteP (fun hlt => .idx (by omega) hlt fun x hx => .eq (hf x) (.iteP (fun he => .dn ⟨fun r hr => ?_, fun u hu => (by cases hu)⟩) (fun he => .nx ⟨n - 1, by omega, i + 1, by omega, w64_succ (by omega), ?_⟩))) (fun hge => .dn ⟨fun r hr => (by cases hr), fun u _ => .ok ?_⟩)
  · cases hr
    exact ⟨fun _ => ⟨x, List.mem_of_getElem? (get_nat hx), he⟩, fun _ => by omega⟩
  · exact mem_take_succ (get_nat hx) hi he
  · have : i = s.length := by omega
    subst this
    rw [List.take_length] at hi
    exact ⟨fun h => absurd h (by omega), fun ⟨m, h1, h2⟩ => absurd h2 (hi m h1)⟩
/-- The message at i is kept. -/
def Dr (i : Nat) (e : Message) (q : Nat) (x : Message) : Prop := if e.Kind = 1 then i < q ∧ x.Kind = 1 ∧ x.Line = e.Line else q < i ∧ x = e
def Kp (l : List Message) (i : Nat) (e : Message) : Prop := ∀ q x, l[q]? = some x → ¬ Dr i e q x
open Classical in
noncomputable def mg (l : List Message) : Nat → List Message
  | 0 => []
  | i + 1 => match l[i]? with
    | some e => if Kp l i e then mg l i ++ [e] else mg l i
    | none => mg l i
theorem mg_len (l : List Message) : ∀ i, (mg l i).length ≤ i
  | 0 => by simp [mg]
  | i + 1 => by
    have ih := mg_len l i
    rw [mg]
    split
    · split
      · simp; omega
      · omega
    · omega
theorem mg_yes {l : List Message} {i : Nat} {e : Message} (he : l[i]? = some e) (hk : Kp l i e) : mg l (i + 1) = mg l i ++ [e] := by
  rw [mg, he]
  dsimp only
  rw [if_pos hk]
theorem mg_no {l : List Message} {i : Nat} {e : Message} (he : l[i]? = some e) (hk : ¬ Kp l i e) : mg l (i + 1) = mg l i := by
  rw [mg, he]
  dsimp only
  rw [if_neg hk]
theorem kp_1 {l : List Message} {i : Nat} {e : Message} (h1 : e.Kind = 1) : Kp l i e ↔ ¬ ∃ n ∈ l.drop (i + 1), n.Kind = 1 ∧ n.Line = e.Line := by
  unfold Kp Dr
  constructor
  · rintro h ⟨n, hn, h2⟩
    obtain ⟨j, hj⟩ := List.mem_iff_getElem?.1 hn
    rw [List.getElem?_drop] at hj
    have := h _ n hj
    rw [if_pos h1] at this
    exact this ⟨by omega, h2⟩
  · intro h q x hx hd
    rw [if_pos h1] at hd
    refine h ⟨x, List.mem_iff_getElem?.2 ⟨q - (i + 1), ?_⟩, hd.2⟩
    rw [List.getElem?_drop, show i + 1 + (q - (i + 1)) = q by omega]
    exact hx
theorem kp_2 {l : List Message} {i : Nat} {e : Message} (h1 : ¬ e.Kind = 1) : Kp l i e ↔ e ∉ l.take i := by
  unfold Kp Dr
  constructor
  · intro h hm
    obtain ⟨j, hj⟩ := List.mem_iff_getElem?.1 hm
    rw [List.getElem?_take] at hj
    split at hj
    · have := h _ e hj
      rw [if_neg h1] at this
      exact this ⟨by omega, rfl⟩
    · cases hj
  · intro h q x hx hd
    rw [if_neg h1] at hd
    obtain ⟨h2, rfl⟩ := hd
    refine h (List.mem_iff_getElem?.2 ⟨q, ?_⟩)
    rw [List.getElem?_take, if_pos h2]
    exact hx
theorem imerge_loop (l : List Message) (hl : l.length ≤ 1000000) : Tot (iter (i_MergeNotices_L1 l) ((0 : Int), ([] : List Message))) fun r => r = mg l l.length := by
  refine Tot.iter (fun n (s : Int × List Message) => ∃ i : Nat, n + i = l.length ∧ s = ((i : Int), mg l i)) (n := l.length) ⟨0, by omega, rfl⟩ ?_
  rintro n _ ⟨i, hn, rfl⟩
  have hml := mg_len l i
  unfold i_MergeNotices_L1
  dsimp only
  refine .iteP (fun hlt => ?_) (fun hge => .dn (by rw [show i = l.length by omega]))
  have ew : w64 ((i : Int) + 1) = ((i + 1 : Nat) : Int) := w64_succ (by omega)
  rw [ew]
  refine .call (P := fun o => o = mg l (i + 1)) (.idx (by omega) hlt fun e he => .chk (by omega) (.call (hasM _ (by simp; omega) e) fun r4 h4 => ?_)) fun o ho => .nx ⟨n - 1, by omega, i + 1, by omega, by rw [ho]⟩
  have he := get_nat he
  have e4 : (l.take (i : Int).toNat).drop (0 : Int).toNat = l.take i := by simp
  rw [e4] at h4
  refine .call (P := fun b => b = true ↔ ¬ Kp l i e) (.ite (fun h1 => .chk (by omega) (.call (hasF _ (by simp; omega) e) fun r5 h5 => .ok ?_)) (fun h1 => .ok ?_)) fun b hb => .ite (fun h => .chk (by simp; omega) (.ok ?_)) (fun h => .ok ?_)
  · have h1 : e.Kind = 1 := eq_of_beq h1
    rw [Int.toNat_natCast] at h5
    rw [kp_1 h1, Classical.not_not]
    exact h5
  · have h1 : ¬ e.Kind = 1 := fun h => by rw [h] at h1; simp at h1
    rw [kp_2 h1, Classical.not_not]
    exact h4
  · rw [mg_yes he]
    exact Classical.byContradiction fun hk => by have := hb.2 hk; rw [this] at h; cases h
  · rw [mg_no he]
    exact hb.1 (by simpa using h)
theorem smerge_in {a b l : List Message} (hab : a ++ b = l) (hl : l.length ≤ 1000000) {k : Nat} {e : Message} (he : l[k]? = some e) : Tot (iter (s_MergeNotices_L1 a b (k : Int)) (true, (0 : Int))) fun r => r = true ↔ Kp l k e := by
  refine Tot.iter (fun n (s : Bool × Int) => ∃ i : Nat, n + i = l.length ∧ s.2 = (i : Int) ∧ (s.1 = true ↔ ∀ q x, q < i → l[q]? = some x → ¬ Dr k e q x)) (n := l.length) ⟨0, by omega, rfl, by simp⟩ ?_
  rintro n ⟨v1, v2⟩ ⟨i, hn, h2, h1⟩
  dsimp only at h2 h1
  subst h2
  unfold s_MergeNotices_L1
  simp only [List.nil_append, hab]
  refine .iteP (fun hlt => ?_) (fun hge => .dn ?_)
  · obtain ⟨x, hx⟩ := get_ex (l := l) (i := i) (by omega)
    refine .call (P := fun r => r = true ↔ (v1 = true ∧ ¬ Dr k e i x)) (.eq (ixs he) (.ite (fun e1 => .ite (fun hv => .iteP (fun hki => .eq (ixs hx) (.ite (fun x1 => .eq (ixs hx) (.eq (ixs he) (.ok ?_))) (fun x1 => .ok ?_))) (fun hki => .ok ?_)) (fun hv => .ok (by simp [hv]))) (fun e1 => .ite (fun hv => .iteP (fun hki => .eq (ixs hx) (.eq (ixs he) (.ok ?_))) (fun hki => .ok ?_)) (fun hv => .ok (by simp [hv]))))) fun r hr => .nx ⟨n - 1, by omega, i + 1, by omega, w64_succ (by omega), ?_⟩
    · have e1 : e.Kind = 1 := eq_of_beq e1
      have x1 : x.Kind = 1 := eq_of_beq x1
      rw [beq_ba]
      unfold Dr
      rw [if_pos e1]
      have : k < i := by omega
      simp [hv, x1, this]
    · have e1 : e.Kind = 1 := eq_of_beq e1
      have x1 : ¬ x.Kind = 1 := fun h => by rw [h] at x1; simp at x1
      unfold Dr
      rw [if_pos e1]
      simp [hv, x1]
    · have e1 : e.Kind = 1 := eq_of_beq e1
      unfold Dr
      rw [if_pos e1]
      have : ¬ k < i := by omega
      simp [hv, this]
    · have e1 : ¬ e.Kind = 1 := fun h => by rw [h] at e1; simp at e1
      rw [meq]
      unfold Dr
      rw [if_neg e1]
      have : i < k := by omega
      simp [hv, this]
    · have e1 : ¬ e.Kind = 1 := fun h => by rw [h] at e1; simp at e1
      unfold Dr
      rw [if_neg e1]
      have : ¬ i < k := by omega
      simp [hv, this]
    · show r = true ↔ _
      rw [hr, h1]
      constructor
      · rintro ⟨a1, a2⟩ q y hq hy
        by_cases h : q = i
        · subst h
          rw [hx] at hy; cases hy; exact a2
        · exact a1 q y (by omega) hy
      · intro h
        exact ⟨fun q y hq hy => h q y (by omega) hy, h i x (by omega) hx⟩
  · rw [h1]
    unfold Kp
    constructor
    · intro h q x hx
      exact h q x (by have := get_lt hx; omega) hx
    · intro h q x _ hx
      exact h q x hx
theorem smerge_loop {a b l : List Message} (hab : a ++ b = l) (hl : l.length ≤ 1000000) : Tot (iter (s_MergeNotices_L2 a b) ((0 : Int), ([] : List Message))) fun r => r = mg l l.length := by
  refine Tot.iter (fun n (s : Int × List Message) => ∃ i : Nat, n + i = l.length ∧ s = ((i : Int), mg l i)) (n := l.length) ⟨0, by omega, rfl⟩ ?_
  rintro n _ ⟨i, hn, rfl⟩
  have hml := mg_len l i
  unfold s_MergeNotices_L2
  simp only [List.nil_append, hab]
  refine .iteP (fun hlt => ?_) (fun hge => .dn (by rw [show i = l.length by omega]))
  have ew : w64 ((i : Int) + 1) = ((i + 1 : Nat) : Int) := w64_succ (by omega)
  rw [ew]
  obtain ⟨e, he⟩ := get_ex (l := l) (i := i) (by omega)
  refine .call (P := fun o => o = mg l (i + 1)) (.call (smerge_in hab hl he) fun r hr => .ite (fun h => .eq (ixs he) (.chk (by simp; omega) (.ok ?_))) (fun h => .ok ?_)) fun o ho => .nx ⟨n - 1, by omega, i + 1, by omega, by rw [ho]⟩
  · rw [mg_yes he (hr.1 h)]
  · rw [mg_no he fun hk => by have := hr.2 hk; rw [h] at this; cases this]
theorem concat2 (a b : List Message) (ha : a.length ≤ 1000) (hb : b.length ≤ 1000) : slices_Concat_Message [a, b] = some (a ++ b) := by
  unfold slices_Concat_Message
  have s0 : slices_Concat_Message_L1 [a, b] ((0 : Int), (0 : Int)) = some (.nx ((a.length : Int), (1 : Int))) := by
    unfold slices_Concat_Message_L1
    dsimp only
    rw [if_pos (by simp), show idx [a, b] 0 = some a from rfl, Option.bind_some, w64_id (by omega), if_neg (by simp only [decide_eq_true_eq]; omega)]
    congr 2
    rw [show (0 : Int) + a.length = a.length by omega]; rfl
  have s1 : slices_Concat_Message_L1 [a, b] ((a.length : Int), (1 : Int)) = some (.nx ((a.length : Int) + b.length, (2 : Int))) := by
    unfold slices_Concat_Message_L1
    dsimp only
    rw [if_pos (by simp), show idx [a, b] 1 = some b from rfl, Option.bind_some, w64_id (by omega), if_neg (by simp only [decide_eq_true_eq]; omega)]
    rfl
  have s2 : slices_Concat_Message_L1 [a, b] ((a.length : Int) + b.length, (2 : Int)) = some (.dn ((a.length : Int) + b.length)) := rfl
  rw [iter_nx s0, iter_nx s1, iter_dn s2, Option.bind_some]
  unfold slices_Grow_Message_z groZM
  rw [if_pos (by omega), Option.bind_some]
  have t0 : slices_Concat_Message_L2 [a, b] ((0 : Int), ([] : List Message)) = some (.nx ((1 : Int), a)) := by
    unfold slices_Concat_Message_L2
    dsimp only
    rw [if_pos (by simp), show idx [a, b] 0 = some a from rfl, Option.bind_some, chk_of (by simp; omega), Option.bind_some]
    rfl
  have t1 : slices_Concat_Message_L2 [a, b] ((1 : Int), a) = some (.nx ((2 : Int), a ++ b)) := by
    unfold slices_Concat_Message_L2
    dsimp only
    rw [if_pos (by simp), show idx [a, b] 1 = some b from rfl, Option.bind_some, chk_of (by omega), Option.bind_some]
    rfl
  have t2 : slices_Concat_Message_L2 [a, b] ((2 : Int), a ++ b) = some (.dn (a ++ b)) := rfl
  rw [iter_nx t0, iter_nx t1, iter_dn t2, Option.bind_some]
/-- What both answer. -/
def MG (a b : List Message) (r : List Message × Bool) : Prop := (NOK a ∧ NOK b ∧ NOK (mg (a ++ b) (a ++ b).length) ∧ r = (mg (a ++ b) (a ++ b).length, true)) ∨ (¬ (NOK a ∧ NOK b ∧ NOK (mg (a ++ b) (a ++ b).length)) ∧ r = ([], false))
theorem mg_same {a b : List Message} {r s : List Message × Bool} (h1 : MG a b r) (h2 : MG a b s) : r = s := by
  rcases h1 with ⟨x, y, z, rfl⟩ | ⟨x, rfl⟩ <;> rcases h2 with ⟨x', y', z', rfl⟩ | ⟨x', rfl⟩
  · rfl
  · exact absurd ⟨x, y, z⟩ x'
  · exact absurd ⟨x', y', z'⟩ x
  · rfl
theorem imerge_ok (a b : List Message) (ha : a.length ≤ 1000) (hb : b.length ≤ 1000) : Tot (i_MergeNotices a b) (MG a b) := by
  unfold i_MergeNotices
  have hml := mg_len (a ++ b) (a ++ b).length
  rw [List.length_append] at hml
  refine .call (inotice_ok a (by omega)) fun r hr => .call (P := fun v => v = false ↔ (NOK a ∧ NOK b)) (.ite (fun h => .ok ?_) (fun h => .call (inotice_ok b (by omega)) fun r1 h1 => .ok ?_)) fun v hv => .ite (fun h => .ok (.inr ⟨fun ⟨x, y, _⟩ => ?_, rfl⟩)) (fun h => ?_)
  · have : ¬ NOK a := fun hn => by rw [hr.2 hn] at h; cases h
    simp [this]
  · have : NOK a := hr.1 (by simpa using h)
    cases r1
    · have : ¬ NOK b := fun hn => by have := h1.2 hn; cases this
      simp [this]
    · simp [this, h1.1 rfl]
  · have := hv.2 ⟨x, y⟩
    rw [h] at this; cases this
  · obtain ⟨x, y⟩ := hv.1 h
    refine .eq (concat2 a b ha hb) (.call (imerge_loop _ (by simp; omega)) fun m2 hm => ?_)
    subst hm
    refine .call (inotice_ok _ (by simp at hml ⊢; omega)) fun r6 h6 => .ite (fun h => .ok (.inr ⟨fun ⟨_, _, z⟩ => ?_, rfl⟩)) (fun h => .ok (.inl ⟨x, y, h6.1 (by simpa using h), rfl⟩))
    rw [h6.2 z] at h; cases h
theorem smerge_ok (a b : List Message) (ha : a.length ≤ 1000) (hb : b.length ≤ 1000) : Tot (s_MergeNotices a b) (MG a b) := by
  unfold s_MergeNotices
  have hml := mg_len (a ++ b) (a ++ b).length
  rw [List.length_append] at hml
  refine .call (lnotice_ok a (by omega)) fun r hr => .call (P := fun v => v = false ↔ (NOK a ∧ NOK b)) (.ite (fun h => .ok ?_) (fun h => .call (lnotice_ok b (by omega)) fun r1 h1 => .ok ?_)) fun v hv => .ite (fun h => .ok (.inr ⟨fun ⟨x, y, _⟩ => ?_, rfl⟩)) (fun h => ?_)
  · have : ¬ NOK a := fun hn => by rw [hr.2 hn] at h; cases h
    simp [this]
  · have : NOK a := hr.1 (by simpa using h)
    cases r1
    · have : ¬ NOK b := fun hn => by have := h1.2 hn; cases this
      simp [this]
    · simp [this, h1.1 rfl]
  · have := hv.2 ⟨x, y⟩
    rw [h] at this; cases this
  · obtain ⟨x, y⟩ := hv.1 h
    refine .chk (by simp; omega) (.chk (by simp; omega) (.call (smerge_loop rfl (by simp; omega)) fun m2 hm => ?_))
    subst hm
    refine .call (lnotice_ok _ (by simp at hml ⊢; omega)) fun r6 h6 => .ite (fun h => .ok (.inr ⟨fun ⟨_, _, z⟩ => ?_, rfl⟩)) (fun h => .ok (.inl ⟨x, y, h6.1 (by simpa using h), rfl⟩))
    rw [h6.2 z] at h; cases h
/-- Merged once more with nothing. -/
def RM (x y : Message) : Prop := (x.Kind = 1 → ¬ (y.Kind = 1 ∧ y.Line = x.Line)) ∧ (¬ y.Kind = 1 → x ≠ y)
theorem mg_mem {l : List Message} : ∀ {i : Nat}, ∀ x ∈ mg l i, x ∈ l.take i
  | 0, x, h => by simp [mg] at h
  | i + 1, x, h => by
    have sub : ∀ y ∈ l.take i, y ∈ l.take (i + 1) := fun y hy => by
      have e : l.take i = (l.take (i + 1)).take i := by rw [List.take_take]; congr 1; omega
      rw [e] at hy
      exact List.mem_of_mem_take hy
    rw [mg] at h
    split at h
    · rename_i e he
      split at h
      · rcases List.mem_append.1 h with h | h
        · exact sub x (mg_mem x h)
        · simp at h; subst h
          rw [take_succ he]; simp
      · exact sub x (mg_mem x h)
    · exact sub x (mg_mem x h)
theorem mg_pair {l : List Message} : ∀ i : Nat, i ≤ l.length → (mg l i).Pairwise RM ∧ ∀ x ∈ mg l i, x.Kind = 1 → ∀ n ∈ l.drop i, ¬ (n.Kind = 1 ∧ n.Line = x.Line)
  | 0, _ => by simp [mg]
  | i + 1, h => by
    obtain ⟨h1, h2⟩ := mg_pair (l := l) i (by omega)
    obtain ⟨e, he⟩ := get_ex (l := l) (i := i) (by omega)
    have hd : l.drop i = e :: l.drop (i + 1) := drop_cons he
    have h2' : ∀ x ∈ mg l i, x.Kind = 1 → ∀ n ∈ l.drop (i + 1), ¬ (n.Kind = 1 ∧ n.Line = x.Line) := fun x hx hk n hn => h2 x hx hk n (by rw [hd]; simp [hn])
    by_cases hk : Kp l i e
    · rw [mg_yes he hk]
      refine ⟨List.pairwise_append.2 ⟨h1, List.pairwise_singleton _ _, fun x hx y hy => ?_⟩, fun x hx => ?_⟩
      · simp at hy; subst hy
        refine ⟨fun k1 => h2 x hx k1 y (by rw [hd]; simp), fun k1 k2 => ?_⟩
        subst k2
        exact (kp_2 k1).1 hk (mg_mem x hx)
      · rcases List.mem_append.1 hx with hx | hx
        · exact h2' x hx
        · simp at hx; subst hx
          intro k1 n hn hc
          exact (kp_1 k1).1 hk ⟨n, hn, hc⟩
    · rw [mg_no he hk]
      exact ⟨h1, h2'⟩
theorem mg_all {l : List Message} (h : l.Pairwise RM) : ∀ i, i ≤ l.length → mg l i = l.take i
  | 0, _ => by simp [mg]
  | i + 1, hi => by
    have ih := mg_all h i (by omega)
    obtain ⟨e, he⟩ := get_ex (l := l) (i := i) (by omega)
    rw [mg_yes he, ih, take_succ he]
    have hd : l.drop i = e :: l.drop (i + 1) := drop_cons he
    have h2 : l = l.take i ++ e :: l.drop (i + 1) := by rw [← hd, List.take_append_drop]
    rw [h2] at h
    obtain ⟨_, h3, h4⟩ := List.pairwise_append.1 h
    by_cases k1 : e.Kind = 1
    · rw [kp_1 k1]
      rintro ⟨n, hn, hc⟩
      exact ((List.pairwise_cons.1 h3).1 n hn).1 k1 hc
    · rw [kp_2 k1]
      intro hm
      exact (h4 e hm e (by simp)).2 k1 rfl
theorem mg_idem (l : List Message) : mg (mg l l.length) (mg l l.length).length = mg l l.length := by
  rw [mg_all (mg_pair (l := l) l.length (Nat.le_refl _)).1 _ (Nat.le_refl _), List.take_length]
/-! Notices: what is active, what concerns a line, what delays tell; the law. -/
theorem rBigN (code : List UInt8) : v_rBig code = some (decide (65536 < (code.length : Int))) := rfl
theorem rmsN (l : List Message) (hl : l.length ≤ 1000000) : v_rMessages l l = some true := by
  unfold v_rMessages
  rw [if_neg (by simp)]
  refine Tot.val (Tot.flb (Tot.iter (fun n (v : Int) => ∃ i : Nat, n + i = l.length ∧ v = (i : Int)) (n := l.length) ⟨0, by omega, rfl⟩ ?_))
  rintro n _ ⟨i, hn, rfl⟩
  unfold v_rMessages_L1
  dsimp only
  refine .iteP (fun hlt => .idx (by omega) hlt fun x hx => ?_) (fun hge => .dn ⟨fun r hr => (by cases hr), fun u _ => .ok rfl⟩)
  obtain ⟨y, hy, hye⟩ : ∃ y, idx l (i : Int) = some y ∧ y = x := ⟨x, ixs (get_nat hx), rfl⟩
  subst hye
  refine .eq hy ?_
  rw [if_neg (by simp)]
  exact .nx ⟨n - 1, by omega, i + 1, by omega, w64_succ (by omega)⟩
theorem rinN (l : List Int) (hl : l.length ≤ 1000000) : v_rInts l l = some true := by
  unfold v_rInts
  rw [if_neg (by simp)]
  refine Tot.val (Tot.flb (Tot.iter (fun n (v : Int) => ∃ i : Nat, n + i = l.length ∧ v = (i : Int)) (n := l.length) ⟨0, by omega, rfl⟩ ?_))
  rintro n _ ⟨i, hn, rfl⟩
  unfold v_rInts_L1
  dsimp only
  refine .iteP (fun hlt => .idx (by omega) hlt fun x hx => ?_) (fun hge => .dn ⟨fun r hr => (by cases hr), fun u _ => .ok rfl⟩)
  obtain ⟨y, hy, hye⟩ : ∃ y, idx l (i : Int) = some y ∧ y = x := ⟨x, ixs (get_nat hx), rfl⟩
  subst hye
  refine .eq hy ?_
  rw [if_neg (by simp)]
  exact .nx ⟨n - 1, by omega, i + 1, by omega, w64_succ (by omega)⟩
/-- Two answers that are the same, with at most so many places. -/
def Two {α : Type} (m n : Option (List α × Bool)) (k : Nat) : Prop := ∃ r : List α × Bool, m = some r ∧ n = some r ∧ r.1.length ≤ k
theorem actL (list : List Message) (now : Int) : s_ActiveMessages_L1 list now = i_ActiveMessages_L1 list now := by
  funext ⟨v, m⟩
  unfold s_ActiveMessages_L1 i_ActiveMessages_L1
  simp only [within_eq, l1In_eq]
theorem act_two (l : List Message) (hl : l.length ≤ 1000) (now : Int) : Two (i_ActiveMessages l now) (s_ActiveMessages l now) l.length := by
  have hq0 : Tot (iter (i_ActiveMessages_L1 l now) ((0 : Int), ([] : List Int))) fun r => r.length ≤ l.length := by
    refine Tot.iter (fun n (s : Int × List Int) => ∃ i : Nat, n + i = l.length ∧ s.1 = (i : Int) ∧ s.2.length ≤ i) (n := l.length) ⟨0, by omega, rfl, by simp⟩ ?_
    rintro n ⟨v, m⟩ ⟨i, hn, hv, hm⟩
    dsimp only at hv hm
    subst hv
    unfold i_ActiveMessages_L1
    dsimp only
    refine .iteP (fun hlt => ?_) (fun hge => .dn (by omega))
    refine .call (P := fun o => o.length ≤ i + 1) (.idx (by omega) hlt fun e he => .call (P := fun _ => True) (.call (P := fun _ => True) (.ite (fun _ => .ok trivial) (fun _ => .ok trivial)) fun v3 _ => .ite (fun _ => .ok trivial) (fun _ => .call (P := fun _ => True) (.ite (fun _ => .ok trivial) (fun _ => .ok trivial)) fun v4 _ => .ite (fun _ => .eq (within_eq _ _ _) (.ok trivial)) (fun _ => .ok trivial))) fun v2 _ => .ite (fun _ => .chk (by simp; omega) (.ok (by simp; omega))) (fun _ => .ok (by omega))) fun o ho => .nx ⟨n - 1, by omega, i + 1, by omega, w64_succ (by omega), ho⟩
  obtain ⟨r, hr, hrl⟩ := hq0
  obtain ⟨b1, hb1, hb2⟩ := inotice_ok l (by omega)
  obtain ⟨c1, hc1, hc2⟩ := lnotice_ok l (by omega)
  have hbc : b1 = c1 := bool_eq hb2 hc2
  unfold i_ActiveMessages s_ActiveMessages
  rw [hb1, hc1, ← hbc, actL, hr, itime24_eq, time24_eq]
  simp only [Option.bind_some]
  cases b1
  · exact ⟨_, rfl, rfl, by simp⟩
  · by_cases h : 0 ≤ now ∧ now ≤ 1799
    · rw [decide_eq_true h]
      exact ⟨(r, true), rfl, rfl, hrl⟩
    · rw [decide_eq_false h]
      exact ⟨_, rfl, rfl, by simp⟩
theorem for_two (l : List Message) (hl : l.length ≤ 1000) (line stop : ByteArray) : Two (i_MessagesFor l line stop) (s_MessagesFor l line stop) l.length := by
  have hq0 : Tot (iter (i_MessagesFor_L1 l line stop) ((0 : Int), ([] : List Int))) fun r => r.length ≤ l.length ∧ iter (s_MessagesFor_L1 l line stop) ((0 : Int), ([] : List Int)) = some r := by
    have key : ∃ x x', iter (i_MessagesFor_L1 l line stop) ((0 : Int), ([] : List Int)) = some x ∧ iter (s_MessagesFor_L1 l line stop) ((0 : Int), ([] : List Int)) = some x' ∧ x = x' ∧ x.length ≤ l.length := by
      refine iter2 (step := i_MessagesFor_L1 l line stop) (step' := s_MessagesFor_L1 l line stop) (fun n (s s' : Int × List Int) => s = s' ∧ ∃ i : Nat, n + i = l.length ∧ s.1 = (i : Int) ∧ s.2.length ≤ i) (fun b b' => b = b' ∧ b.length ≤ l.length) ?_ (k := l.length) ⟨rfl, 0, by omega, rfl, by simp⟩
      rintro n ⟨v, m⟩ _ ⟨rfl, i, hn, hv, hm⟩
      dsimp only at hv hm
      subst hv
      by_cases hlt : i < l.length
      · left
        obtain ⟨e, he⟩ := get_ex hlt
        have hix := ixs he
        obtain ⟨o, ho, hol⟩ : ∃ o : List Int, (i_MessagesFor_L1 l line stop ((i : Int), m) = some (.nx (((i + 1 : Nat) : Int), o)) ∧ s_MessagesFor_L1 l line stop ((i : Int), m) = some (.nx (((i + 1 : Nat) : Int), o))) ∧ o.length ≤ i + 1 := by
          unfold i_MessagesFor_L1 s_MessagesFor_L1
          dsimp only
          have hd : decide ((i : Int) < (l.length : Int)) = true := decide_eq_true (by omega)
          have hc : chk (m.length + ([(i : Int)] : List Int).length ≤ 4294967296) = some () := chk_of (by simp; omega)
          have hw : w64 ((i : Int) + 1) = ((i + 1 : Nat) : Int) := w64_succ (by omega)
          cases a : (e.Line.toList == line.toList) with
          | true =>
            simp only [hd, if_true, hix, Option.bind_some, hw, hc, a]
            exact ⟨m ++ [(i : Int)], ⟨rfl, rfl⟩, by simp; omega⟩
          | false =>
            cases b : (e.Stop.toList == stop.toList) with
            | true =>
              simp only [hd, if_true, hix, Option.bind_some, hw, hc, a, b, if_false, Bool.false_eq_true]
              exact ⟨m ++ [(i : Int)], ⟨rfl, rfl⟩, by simp; omega⟩
            | false =>
              simp only [hd, if_true, hix, Option.bind_some, hw, hc, a, b, if_false, Bool.false_eq_true]
              exact ⟨m, ⟨rfl, rfl⟩, by omega⟩
        exact ⟨_, _, n - 1, ho.1, ho.2, by omega, rfl, i + 1, by omega, rfl, hol⟩
      · right
        refine ⟨m, m, ?_, ?_, rfl, by omega⟩
        · unfold i_MessagesFor_L1
          dsimp only
          rw [if_neg (by simp only [decide_eq_true_eq]; omega)]
        · unfold s_MessagesFor_L1
          dsimp only
          rw [if_neg (by simp only [decide_eq_true_eq]; omega)]
    obtain ⟨x, x', h1, h2, h3, h4⟩ := key
    subst h3
    exact ⟨x, h1, h4, h2⟩
  obtain ⟨r, hr, hrl, hr2⟩ := hq0
  obtain ⟨b1, hb1, hb2⟩ := inotice_ok l (by omega)
  obtain ⟨c1, hc1, hc2⟩ := lnotice_ok l (by omega)
  have hbc : b1 = c1 := bool_eq hb2 hc2
  unfold i_MessagesFor s_MessagesFor
  rw [hb1, hc1, ← hbc, hr, hr2, isName_eq, isName_eq, l2Name_eq, l2Name_eq]
  simp only [Option.bind_some]
  cases b1
  · exact ⟨_, rfl, rfl, by simp⟩
  · by_cases h : NameOK line
    · rw [decide_eq_true h]
      by_cases h2 : NameOK stop
      · rw [decide_eq_true h2]
        exact ⟨(r, true), rfl, rfl, hrl⟩
      · rw [decide_eq_false h2]
        exact ⟨_, rfl, rfl, by simp⟩
    · rw [decide_eq_false h]
      exact ⟨_, rfl, rfl, by simp⟩
theorem dl_in (t : Timetable) (d : List TripDelay) (hd : d.length ≤ 100000) (hT : t.Trips.length ≤ 100000) (v : Int) : ∃ m, iter (i_DelayMessages_L1 t d v) ((0 : Int), (0 : Int)) = some m ∧ iter (s_DelayMessages_L1 t d v) ((0 : Int), (0 : Int)) = some m := by
  have e : i_DelayMessages_L1 t d v = s_DelayMessages_L1 t d v := by
    funext ⟨a, b⟩
    unfold i_DelayMessages_L1 s_DelayMessages_L1 s_l1Most
    simp only [delayOf_eq d hd, l23Delay_eq d hd, Option.bind_some]
    cases hx : idx t.Trips b with
    | none => rfl
    | some x =>
      simp only [Option.bind_some]
      congr 2
      split
      · by_cases h : dOf d x.Id < a
        · have h2 : ¬ dOf d x.Id > a := by omega
          simp [h, h2]
        · by_cases h2 : dOf d x.Id > a
          · simp [h, h2]
          · have : dOf d x.Id = a := by omega
            simp [this]
      · rfl
  have h : Tot (iter (i_DelayMessages_L1 t d v) ((0 : Int), (0 : Int))) fun _ => True := by
    refine Tot.iter (fun n (s : Int × Int) => ∃ i : Nat, n + i = t.Trips.length ∧ s.2 = (i : Int)) (n := t.Trips.length) ⟨0, by omega, rfl⟩ ?_
    rintro n ⟨a, b⟩ ⟨i, hn, hv⟩
    dsimp only at hv
    subst hv
    unfold i_DelayMessages_L1
    dsimp only
    exact .iteP (fun hlt => .call (P := fun _ => True) (.idx (by omega) hlt fun e he => .ite (fun _ => .eq (delayOf_eq d hd _) (.ok trivial)) (fun _ => .ok trivial)) fun o _ => .nx ⟨n - 1, by omega, i + 1, by omega, w64_succ (by omega)⟩) (fun hge => .dn trivial)
  obtain ⟨m, hm, _⟩ := h
  exact ⟨m, hm, by rw [← e]; exact hm⟩
theorem del_two (t : Timetable) (d : List TripDelay) (hb : TB t) (hd : d.length ≤ 100000) (hL : t.Network.Lines.length ≤ 100000) (limit : Int) : Two (i_DelayMessages t d limit) (s_DelayMessages t d limit) t.Network.Lines.length := by
  have hT : t.Trips.length ≤ 100000 := by have := hb.2; omega
  have hq0 : Tot (iter (i_DelayMessages_L2 t d limit) ((0 : Int), ([] : List Message))) fun r => r.length ≤ t.Network.Lines.length ∧ iter (s_DelayMessages_L2 t d limit) ((0 : Int), ([] : List Message)) = some r := by
    have key : ∃ x x', iter (i_DelayMessages_L2 t d limit) ((0 : Int), ([] : List Message)) = some x ∧ iter (s_DelayMessages_L2 t d limit) ((0 : Int), ([] : List Message)) = some x' ∧ x = x' ∧ x.length ≤ t.Network.Lines.length := by
      refine iter2 (step := i_DelayMessages_L2 t d limit) (step' := s_DelayMessages_L2 t d limit) (fun n (s s' : Int × List Message) => s = s' ∧ ∃ i : Nat, n + i = t.Network.Lines.length ∧ s.1 = (i : Int) ∧ s.2.length ≤ i) (fun b b' => b = b' ∧ b.length ≤ t.Network.Lines.length) ?_ (k := t.Network.Lines.length) ⟨rfl, 0, by omega, rfl, by simp⟩
      rintro n ⟨v, m⟩ _ ⟨rfl, i, hn, hv, hm⟩
      dsimp only at hv hm
      subst hv
      by_cases hlt : i < t.Network.Lines.length
      · left
        obtain ⟨e, he⟩ := get_ex hlt
        have hix := ixs he
        obtain ⟨mo, hmo1, hmo2⟩ := dl_in t d hd hT (i : Int)
        obtain ⟨o, ho, hol⟩ : ∃ o : List Message, (i_DelayMessages_L2 t d limit ((i : Int), m) = some (.nx (((i + 1 : Nat) : Int), o)) ∧ s_DelayMessages_L2 t d limit ((i : Int), m) = some (.nx (((i + 1 : Nat) : Int), o))) ∧ o.length ≤ i + 1 := by
          unfold i_DelayMessages_L2 s_DelayMessages_L2
          dsimp only
          have hd : decide ((i : Int) < (t.Network.Lines.length : Int)) = true := decide_eq_true (by omega)
          have hc : chk (m.length + ([(⟨1, e.Name, ByteArray.empty, 0, 0, mo⟩ : Message)] : List Message).length ≤ 4294967296) = some () := chk_of (by simp; omega)
          have hw : w64 ((i : Int) + 1) = ((i + 1 : Nat) : Int) := w64_succ (by omega)
          cases a : decide (limit ≤ mo) with
          | true =>
            simp only [hd, if_true, hix, hmo1, hmo2, Option.bind_some, hw, hc, a]
            exact ⟨m ++ [⟨1, e.Name, ByteArray.empty, 0, 0, mo⟩], ⟨rfl, rfl⟩, by simp; omega⟩
          | false =>
            simp only [hd, if_true, hix, hmo1, hmo2, Option.bind_some, hw, hc, a, if_false, Bool.false_eq_true]
            exact ⟨m, ⟨rfl, rfl⟩, by omega⟩
        exact ⟨_, _, n - 1, ho.1, ho.2, by omega, rfl, i + 1, by omega, rfl, hol⟩
      · right
        refine ⟨m, m, ?_, ?_, rfl, by omega⟩
        · unfold i_DelayMessages_L2
          dsimp only
          rw [if_neg (by simp only [decide_eq_true_eq]; omega)]
        · unfold s_DelayMessages_L2
          dsimp only
          rw [if_neg (by simp only [decide_eq_true_eq]; omega)]
    obtain ⟨x, x', h1, h2, h3, h4⟩ := key
    subst h3
    exact ⟨x, h1, h4, h2⟩
  obtain ⟨r, hr, hrl, hr2⟩ := hq0
  unfold i_DelayMessages s_DelayMessages
  rw [hr, hr2, l23Good_eq hb d hd, validD_eq hb d hd, within_eq, l1In_eq]
  simp only [Option.bind_some]
  by_cases h : GoodT t ∧ GoodD t d
  · rw [decide_eq_true h]
    by_cases h2 : 1 ≤ limit ∧ limit ≤ 600
    · rw [decide_eq_true h2]
      exact ⟨(r, true), rfl, rfl, hrl⟩
    · rw [decide_eq_false h2]
      exact ⟨_, rfl, rfl, by simp⟩
  · rw [decide_eq_false h]
    exact ⟨_, rfl, rfl, by simp⟩
theorem dmn_ok (code : List UInt8) : Tot (s_DrawMergeNotices code) fun r => r.1.length ≤ 11 ∧ r.2.length ≤ 12 := by
  unfold s_DrawMergeNotices
  refine .call (drawn_ok (cur0 code) (by omega)) fun r ⟨h1, h2⟩ => .call (drawn_ok h2 (by omega)) fun r1 ⟨h3, h4⟩ => ?_
  refine .call (P := fun v => v.length ≤ 12) (.call (P := fun o => Cur 500 ⟨o.2.1, o.2.2.1, ⟨o.2.2.2⟩⟩ ∧ (o.1 = true → 0 < r.1.length)) (.iteP (fun h0 => .call (one_ok 2 h4 (by omega)) fun r2 h5 => .ok ⟨h5.mono (by omega), fun _ => by omega⟩) (fun h0 => .ok ⟨h4.mono (by omega), fun h => by cases h⟩)) fun ⟨v1, v2, v3, v4⟩ ⟨h5, h6⟩ => .ite (fun h => .call (pick_ok _ h5 (by omega)) fun r3 ⟨_, a0, a1⟩ => .idx a0 ?_ fun e he => .chk (by simp; omega) (.ok (by simp; omega))) (fun h => .ok (by omega))) fun v hv => .ok ⟨h1, hv⟩
  have := h6 h
  omega
theorem dan_ok (code : List UInt8) : Tot (s_DrawActiveMessages code) fun r => r.1.length ≤ 11 := by
  unfold s_DrawActiveMessages
  exact .call (drawn_ok (cur0 code) (by omega)) fun r ⟨h1, h2⟩ => .call (amo_ok _ (by simp) h2 (by omega)) fun r1 _ => .ok h1
theorem dfn_ok (code : List UInt8) : Tot (s_DrawMessagesFor code) fun r => r.1.length ≤ 11 := by
  unfold s_DrawMessagesFor
  exact .call (drawn_ok (cur0 code) (by omega)) fun r ⟨h1, h2⟩ => .call (of_ok _ (by simp) h2 (by omega)) fun r1 ⟨h3, _⟩ => .call (of_ok _ (by simp) h3 (by omega)) fun r2 _ => .ok h1
theorem ddn_ok (code : List UInt8) : Tot (s_DrawDelayMessages code) fun r => DT r.1 ∧ r.2.1.length ≤ 40 := by
  unfold s_DrawDelayMessages
  refine .call (anyTimetable_ok (cur0 code) (by omega)) fun r ⟨h1, h2⟩ => .call (delays23_ok h1 (by omega) h2) fun r1 ⟨h3, h4⟩ => .call (pick_ok 24 h3 (by omega)) fun r4 ⟨h5, a0, a1⟩ => .chk (by decide) ?_
  have e1 : r4.1.tdiv 11 = r4.1 / 11 := Int.tdiv_eq_ediv_of_nonneg a0
  have e2 : w64 (4 + w64 (r4.1.tdiv 11)) = 4 + r4.1 / 11 := by rw [e1, w64_id (x := r4.1 / 11) (by omega), w64_id (by omega)]
  rw [e2]
  refine .chk ⟨by omega, by omega, by simp; omega⟩ (.call (amongw_ok _ ?_ h5 (by omega)) fun r5 _ => .ok ⟨h2, h4⟩)
  intro h
  have := congrArg List.length h
  simp at this
  omega
theorem noticed_true (code : List UInt8) : v_FnNotices code = some true := by
  unfold v_FnNotices
  refine Tot.val (.eq (rBigN code) (.iteP (fun _ => .ok rfl) (fun _ => ?_)))
  refine .call (dmn_ok code) fun ⟨a, b⟩ ⟨ha, hb⟩ => ?_
  dsimp only at ha hb ⊢
  refine .call (imerge_ok a b (by omega) (by omega)) fun r2 h2 => .call (smerge_ok a b (by omega) (by omega)) fun r3 h3 => ?_
  have e := mg_same h2 h3
  subst e
  have hml := mg_len (a ++ b) (a ++ b).length
  have hl2 : r2.1.length ≤ a.length + b.length := by
    have hab : (a ++ b).length = a.length + b.length := List.length_append
    rcases h2 with ⟨_, _, _, rfl⟩ | ⟨_, rfl⟩
    · dsimp only; omega
    · simp
  refine .call (P := fun v => v = false) ?_ fun v hv => ?_
  · rw [if_neg (by simp), rmsN _ (by omega)]
    exact .ok rfl
  subst hv
  rw [if_neg (by simp)]
  refine Tot.flb (Tot.mono (P := fun v => v = .go ()) ?_ ?_)
  · refine .ite (fun h => ?_) (fun _ => .ok rfl)
    rcases h2 with ⟨x, y, z, rfl⟩ | ⟨_, rfl⟩
    · dsimp only at hl2 ⊢
      refine .call (imerge_ok _ [] (by omega) (by simp)) fun r5 h5 => ?_
      have hn : NOK [] := ⟨by simp, by simp⟩
      have e5 : r5 = (mg (a ++ b) (a ++ b).length, true) := by
        refine mg_same h5 (.inl ⟨z, hn, ?_, ?_⟩)
        · rw [List.append_nil, mg_idem]; exact z
        · rw [List.append_nil, mg_idem]
      subst e5
      dsimp only
      rw [if_neg (by simp), rmsN _ (by omega)]
      refine .call (P := fun v => v = false) (.eq rfl ?_) fun v hv => ?_
      · rw [if_neg (by simp), w64_id (by omega)]
        exact .ok (decide_eq_false (by omega))
      subst hv
      rw [if_neg (by simp)]
      exact .ok rfl
    · cases h
  rintro _ rfl
  refine ⟨fun r hr => (by cases hr), fun u _ => ?_⟩
  refine .call (dan_ok code) fun ⟨l, now⟩ hl => ?_
  dsimp only at hl ⊢
  obtain ⟨r9, e9, e10, l9⟩ := act_two l (by omega) now
  refine .eq e9 (.eq e10 ?_)
  refine .call (P := fun v => v = false) ?_ fun v hv => ?_
  · rw [if_neg (by simp), rinN _ (by omega)]
    exact .ok rfl
  subst hv
  rw [if_neg (by simp)]
  refine .call (dfn_ok code) fun ⟨l2, line, stop⟩ hl2 => ?_
  dsimp only at hl2 ⊢
  obtain ⟨r13, e13, e14, l13⟩ := for_two l2 (by omega) line stop
  refine .eq e13 (.eq e14 ?_)
  refine .call (P := fun v => v = false) ?_ fun v hv => ?_
  · rw [if_neg (by simp), rinN _ (by omega)]
    exact .ok rfl
  subst hv
  rw [if_neg (by simp)]
  refine .call (ddn_ok code) fun ⟨t, d, limit⟩ ⟨ht, hd⟩ => ?_
  dsimp only at ht hd ⊢
  have hTB : TB t := ⟨ht.1, by have := ht.2; omega⟩
  have hLL : t.Network.Lines.length ≤ 100000 := Nat.le_trans ht.1.2.1 (by omega)
  obtain ⟨r17, e17, e18, l17⟩ := del_two t d hTB (by omega) hLL limit
  refine .eq e17 (.eq e18 ?_)
  rw [if_pos (by simp), rmsN _ (by omega)]
  exact .ok (by simp; omega)
end Go.Proofs.Yteieacgaipcnoaa
