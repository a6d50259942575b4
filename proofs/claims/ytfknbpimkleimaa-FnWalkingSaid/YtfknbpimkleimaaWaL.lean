/- The plain law: what the models compute, no program in sight. -/
import Derived.Test.YtfknbpimkleimaaWaM
import Derived.Test.YtfknbpimkleimaaAbTot
namespace Go.Proofs.Ytfknbpimkleimaa
open Go Go.Ab
set_option maxHeartbeats 4000000
set_option linter.unusedVariables false
set_option linter.unusedSimpArgs false
/-! The cursor of the draws: it always answers. -/
def Cur (k : Nat) (c : l1Cur) : Prop := 0 ≤ c.at_ ∧ c.at_ ≤ k
theorem Cur.mono {k k' : Nat} {c : l1Cur} (h : Cur k c) (hk : k ≤ k') : Cur k' c := ⟨h.1, by have := h.2; omega⟩
theorem next_ok {k : Nat} {c : l1Cur} (h : Cur k c) (hk : k ≤ 4000000000) : ∃ r, s_l1Cur_next c = some r ∧ Cur (k + 1) r.2 ∧ 0 ≤ r.1 ∧ r.1 ≤ 255 := by
  obtain ⟨h0, h1⟩ := h
  have hw : w64 (c.at_ + 1) = c.at_ + 1 := w64_id (by omega)
  have hcur : ∀ s, Cur (k + 1) ⟨c.code_, w64 (c.at_ + 1), s⟩ := fun s => by rw [hw]; exact ⟨by show 0 ≤ c.at_ + 1; omega, by show c.at_ + 1 ≤ _; omega⟩
  unfold s_l1Cur_next
  have hv : ∃ v, (if (decide (c.at_ < (c.code_.length : Int))) = true then (idx c.code_ c.at_).bind fun e1 => some (w64 ((e1.toNat : Int))) else some 0) = some v ∧ 0 ≤ v ∧ v ≤ 255 := by
    by_cases hlt : c.at_ < c.code_.length
    · obtain ⟨x, hx, _, _⟩ := idx_lt h0 hlt
      have := x.toNat_lt
      refine ⟨(x.toNat : Int), ?_, by omega, by omega⟩
      simp only [hlt, decide_true, if_true, hx, Option.bind_some]
      rw [w64_id (by omega)]
    · exact ⟨0, by simp [hlt], by omega, by omega⟩
  obtain ⟨v, hv, hv0, hv1⟩ := hv
  rw [hv]
  simp only [Option.bind_some]
  split
  · exact ⟨_, rfl, hcur _, hv0, hv1⟩
  · rw [chk_of (by omega)]
    exact ⟨_, rfl, hcur _, and255 _⟩
theorem pick_ok {k : Nat} {c : l1Cur} (n : Int) (h : Cur k c) (hk : k ≤ 3000000000) : ∃ r, s_l1Cur_pick c n = some r ∧ Cur (k + 2) r.2 ∧ 0 ≤ r.1 ∧ (r.1 < n ∨ r.1 = 0) := by
  unfold s_l1Cur_pick
  by_cases hn : n ≤ 1
  · exact ⟨(0, c), by simp [hn], h.mono (by omega), by simp, .inr rfl⟩
  · obtain ⟨r, hr, hc, h0, h1⟩ := next_ok h (by omega)
    have hn' : decide (n ≤ 1) = false := by simpa using hn
    simp only [hn', Bool.false_eq_true, if_false, hr, Option.bind_some]
    have hne : chk (n ≠ 0) = some () := chk_of (by omega)
    by_cases h2 : 200 < n
    · obtain ⟨r', hr', hc', h0', h1'⟩ := next_ok hc (by omega)
      have e1 : w64 (r.1 * 256) = r.1 * 256 := w64_id (by omega)
      have e2 : w64 (r.1 * 256 + r'.1) = r.1 * 256 + r'.1 := w64_id (by omega)
      have h3 := tmod_rng (a := r.1 * 256 + r'.1) (b := n) (by omega) (by omega)
      simp only [h2, decide_true, if_true, hr', Option.bind_some, hne, e1, e2]
      exact ⟨_, rfl, hc'.mono (by omega), h3.1, .inl h3.2⟩
    · have h2' : decide (200 < n) = false := by simpa using h2
      have h3 := tmod_rng (a := r.1) (b := n) (by omega) (by omega)
      simp only [h2', Bool.false_eq_true, if_false, Option.bind_some, hne]
      exact ⟨_, rfl, hc.mono (by omega), h3.1, .inl h3.2⟩
theorem amongw_ok {k : Nat} {c : l1Cur} (l : List Int) (hl : l ≠ []) (h : Cur k c) (hk : k ≤ 3000000000) : ∃ r, s_l1Cur_among_w c l = some r ∧ Cur (k + 2) r.2 ∧ r.1 ∈ l := by
  unfold s_l1Cur_among_w
  obtain ⟨r, hr, hc, h0, h1⟩ := pick_ok (l.length : Int) h hk
  have hpos : 0 < l.length := List.length_pos_iff.2 hl
  obtain ⟨x, hx, _, hm⟩ := idx_lt (l := l) h0 (by omega)
  simp only [hr, Option.bind_some, hx]
  exact ⟨_, rfl, hc, hm⟩
theorem among_ok {k : Nat} {c : l1Cur} (l : List Int) (hl : l ≠ []) (h : Cur k c) (hk : k ≤ 3000000000) : ∃ r, s_l1Cur_among c l = some r ∧ Cur (k + 2) r.2 ∧ r.1 ∈ l := by
  have : s_l1Cur_among c l = s_l1Cur_among_w c l := rfl
  rw [this]; exact amongw_ok l hl h hk
theorem one_ok {k : Nat} {c : l1Cur} (n : Int) (h : Cur k c) (hk : k ≤ 3000000000) : ∃ r, s_l1Cur_one c n = some r ∧ Cur (k + 2) r.2 := by
  unfold s_l1Cur_one
  obtain ⟨r, hr, hc, _, _⟩ := pick_ok n h hk
  simp only [hr, Option.bind_some]
  exact ⟨_, rfl, hc⟩
theorem of_ok {k : Nat} {c : l1Cur} (l : List ByteArray) (hl : l ≠ []) (h : Cur k c) (hk : k ≤ 3000000000) : ∃ r, s_l1Cur_of c l = some r ∧ Cur (k + 2) r.2 ∧ r.1 ∈ l := by
  unfold s_l1Cur_of
  obtain ⟨r, hr, hc, h0, h1⟩ := pick_ok (l.length : Int) h hk
  have hpos : 0 < l.length := List.length_pos_iff.2 hl
  obtain ⟨x, hx, _, hm⟩ := idx_lt (l := l) h0 (by omega)
  simp only [hr, Option.bind_some, hx]
  exact ⟨_, rfl, hc, hm⟩
theorem ofw_ok {k : Nat} {c : l1Cur} (l : List ByteArray) (hl : l ≠ []) (h : Cur k c) (hk : k ≤ 3000000000) : ∃ r, s_l1Cur_of_w c l = some r ∧ Cur (k + 2) r.2 ∧ r.1 ∈ l := by
  have : s_l1Cur_of_w c l = s_l1Cur_of c l := rfl
  rw [this]; exact of_ok l hl h hk
theorem cur0 (code : List UInt8) : Cur 0 ⟨code, 0, ⟨0⟩⟩ := ⟨by show (0 : Int) ≤ 0; omega, by show (0 : Int) ≤ _; omega⟩
/-! Networks: when they are valid, for the program and for the reference. -/
theorem within_eq (n lo hi : Int) : i_within n lo hi = some (decide (lo ≤ n ∧ n ≤ hi)) := by
  unfold i_within
  by_cases h : lo ≤ n <;> simp [h]
theorem l1In_eq (n lo hi : Int) : s_l1In n lo hi = some (decide (lo ≤ n ∧ n ≤ hi)) := by
  unfold s_l1In
  by_cases h : lo ≤ n <;> simp [h]
/-- Byte i of a name. -/
def ChOK (i : Nat) (c : UInt8) : Prop := (97 ≤ (c.toNat : Int) ∧ (c.toNat : Int) ≤ 122) ∨ (i ≠ 0 ∧ 48 ≤ (c.toNat : Int) ∧ (c.toNat : Int) ≤ 57)
def NameOK (s : ByteArray) : Prop := (1 ≤ s.size ∧ s.size ≤ 8) ∧ ∀ (i : Nat) c, s.data.toList[i]? = some c → ChOK i c
open Classical in
noncomputable instance (s : ByteArray) : Decidable (NameOK s) := Classical.propDecidable _
theorem size_list (s : ByteArray) : s.data.toList.length = s.size := by simp
theorem getD_of {α : Type} {l : List α} {i : Nat} {x d : α} (h : l[i]? = some x) : l.getD i d = x := by rw [List.getD_eq_getElem?_getD, h]; rfl

theorem isName_eq (s : ByteArray) : i_isName s = some (decide (NameOK s)) := by
  unfold i_isName
  by_cases h1 : 1 ≤ s.size ∧ s.size ≤ 8
  · have e1 : decide ((s.size : Int) < 1) = false := by simp; omega
    have e2 : decide (8 < (s.size : Int)) = false := by simp; omega
    simp only [e1, e2, Bool.false_eq_true, if_false, Option.bind_some]
    have hsz := size_list s
    have key := all_loop s.data.toList ChOK (step := i_isName_L1 s) ?_ ?_ 0 0 rfl (by omega)
    · rcases key with ⟨g1, g2⟩ | ⟨g1, g2⟩
      · rw [g1, flb_go]
        have : NameOK s := ⟨h1, fun i c hc => g2 i c (by omega) hc⟩
        simp [this]
      · rw [g1, flb_ret]
        have : ¬ NameOK s := fun hn => g2 fun i c _ hc => hn.2 i c hc
        simp [this]
    · intro i x hx
      have hi := (List.getElem?_eq_some_iff.1 hx).1
      have hg : s.data.toList.getD (i : Int).toNat 0 = x := by rw [Int.toNat_natCast]; exact getD_of hx
      have hc : chk ((0 : Int) ≤ (i : Int) ∧ (i : Int) < (s.size : Int)) = some () := chk_of (by omega)
      have hlt : decide ((i : Int) < (s.size : Int)) = true := by simp; omega
      unfold i_isName_L1
      simp only [hlt, if_true, hc, hg, Option.bind_some, w64_succ (n := i) (by omega)]
      unfold ChOK
      by_cases a1 : (97 : Int) ≤ (x.toNat : Int)
      · by_cases a2 : (x.toNat : Int) ≤ 122
        · left; refine ⟨by simp [a1, a2], .inl ⟨a1, a2⟩⟩
        · right
          refine ⟨?_, by omega⟩
          have b1 : decide ((x.toNat : Int) < 48) = false := by simp; omega
          have b2 : decide ((57 : Int) < (x.toNat : Int)) = true := by simp; omega
          have c1 : ¬ (x.toNat : Int) < 48 := by omega
          have c2 : (57 : Int) < (x.toNat : Int) := by omega
          by_cases hi0 : i = 0
          · simp [a1, a2, hi0]
          · have hi0' : ((i : Int) == 0) = false := by simp; omega
            simp [a1, a2, hi0', c1, c2]
      · by_cases hi0 : i = 0
        · right
          refine ⟨by simp [a1, hi0], by omega⟩
        · have hi0' : ((i : Int) == 0) = false := by simp; omega
          by_cases b1 : (x.toNat : Int) < 48
          · right
            refine ⟨by simp [a1, hi0', b1], by omega⟩
          · by_cases b2 : (57 : Int) < (x.toNat : Int)
            · right
              refine ⟨by simp [a1, hi0', b1, b2], by omega⟩
            · left
              refine ⟨by simp [a1, hi0', b1, b2], .inr ⟨hi0, by omega, by omega⟩⟩
    · unfold i_isName_L1
      rw [hsz]
      simp
  · have : ¬ NameOK s := fun h => h1 h.1
    have e : (if (decide ((s.size : Int) < 1)) = true then some true else some (decide (8 < (s.size : Int)))) = some true := by
      by_cases h2 : s.size < 1
      · have : decide ((s.size : Int) < 1) = true := by simp; omega
        simp [this]
      · have e1 : decide ((s.size : Int) < 1) = false := by simp; omega
        have e2 : decide (8 < (s.size : Int)) = true := by simp; omega
        simp [e1, e2]
    rw [e]
    simp [this]

theorem l2Name_eq (s : ByteArray) : s_l2Name s = some (decide (NameOK s)) := by
  unfold s_l2Name
  rw [l1In_eq]
  simp only [Option.bind_some]
  by_cases h1 : 1 ≤ s.size ∧ s.size ≤ 8
  · have e1 : decide ((1 : Int) ≤ (s.size : Int) ∧ (s.size : Int) ≤ 8) = true := by simp; omega
    have hsz := size_list s
    obtain ⟨x0, hx0⟩ := get_ex (l := s.data.toList) (i := 0) (by omega)
    have hg0 : s.data.toList.getD (0 : Int).toNat 0 = x0 := getD_of hx0
    have hc0 : chk ((0 : Int) ≤ 0 ∧ 0 < (s.size : Int)) = some () := chk_of (by omega)
    simp only [e1, Bool.not_true, Bool.false_eq_true, if_false, hc0, hg0, Option.bind_some]
    by_cases a0 : 97 ≤ (x0.toNat : Int) ∧ (x0.toNat : Int) ≤ 122
    · have b1 : decide ((x0.toNat : Int) < 97) = false := by simp; omega
      have b2 : decide ((122 : Int) < (x0.toNat : Int)) = false := by simp; omega
      simp only [b1, b2, Bool.false_eq_true, if_false, Option.bind_some]
      have key := all_loop s.data.toList ChOK (step := s_l2Name_L1 s) ?_ ?_ 0 0 rfl (by omega)
      · rcases key with ⟨g1, g2⟩ | ⟨g1, g2⟩
        · rw [g1, flb_go]
          have : NameOK s := ⟨h1, fun i c hc => g2 i c (by omega) hc⟩
          simp [this]
        · rw [g1, flb_ret]
          have : ¬ NameOK s := fun hn => g2 fun i c _ hc => hn.2 i c hc
          simp [this]
      · intro i x hx
        have hi := (List.getElem?_eq_some_iff.1 hx).1
        have hg : s.data.toList.getD (i : Int).toNat 0 = x := by rw [Int.toNat_natCast]; exact getD_of hx
        have hc : chk ((0 : Int) ≤ (i : Int) ∧ (i : Int) < (s.size : Int)) = some () := chk_of (by omega)
        have hlt : decide ((i : Int) < (s.size : Int)) = true := by simp; omega
        have h0 : i = 0 → x = x0 := fun h => by subst h; rw [hx0] at hx; cases hx; rfl
        unfold s_l2Name_L1
        simp only [hlt, if_true, hc, hg, Option.bind_some, w64_succ (n := i) (by omega)]
        unfold ChOK
        by_cases a1 : (x.toNat : Int) < 97
        · have hi0 : i ≠ 0 := fun h => by have := h0 h; subst this; omega
          by_cases c1 : (x.toNat : Int) < 48
          · right; refine ⟨by simp [a1, c1], by omega⟩
          · by_cases c2 : (57 : Int) < (x.toNat : Int)
            · right; refine ⟨by simp [a1, c1, c2], by omega⟩
            · left; refine ⟨by simp [a1, c1, c2], .inr ⟨hi0, by omega, by omega⟩⟩
        · by_cases a2 : (122 : Int) < (x.toNat : Int)
          · right
            have c1 : ¬ (x.toNat : Int) < 48 := by omega
            have c2 : (57 : Int) < (x.toNat : Int) := by omega
            refine ⟨by simp [a1, a2, c1, c2], by omega⟩
          · left; refine ⟨by simp [a1, a2], .inl ⟨by omega, by omega⟩⟩
      · unfold s_l2Name_L1
        rw [hsz]
        simp
    · have : ¬ NameOK s := fun hn => by
        have := hn.2 0 x0 hx0
        unfold ChOK at this
        omega
      have e : (if (decide ((x0.toNat : Int) < 97)) = true then some true else some (decide ((122 : Int) < (x0.toNat : Int)))) = some true := by
        by_cases h2 : (x0.toNat : Int) < 97
        · simp [h2]
        · have : (122 : Int) < (x0.toNat : Int) := by omega
          simp [h2, this]
      rw [e]
      simp [this]
  · have e1 : decide ((1 : Int) ≤ (s.size : Int) ∧ (s.size : Int) ≤ 8) = false := by simp; omega
    have : ¬ NameOK s := fun h => h1 h.1
    simp [e1, this]

/-! Searches -/
theorem index_str_eq (l : List ByteArray) (hl : l.length ≤ 4000000000) (v : ByteArray) : slices_Index_string l v = some (fixI (fun e => v.toList == e.toList) l) := by
  unfold slices_Index_string
  refine find_val l (fun e => v.toList == e.toList) (fun i x hx => ?_) (by unfold slices_Index_string_L1; simp)
  have hi := (List.getElem?_eq_some_iff.1 hx).1
  unfold slices_Index_string_L1
  have hlt : decide ((i : Int) < (l.length : Int)) = true := by simp; omega
  simp only [hlt, if_true, idx_nat, hx, Option.bind_some, w64_succ (n := i) (by omega)]
  split <;> rfl
theorem index_int_eq (l : List Int) (hl : l.length ≤ 4000000000) (v : Int) : slices_Index_int l v = some (fixI (fun e => v == e) l) := by
  unfold slices_Index_int
  refine find_val l (fun e => v == e) (fun i x hx => ?_) (by unfold slices_Index_int_L1; simp)
  have hi := (List.getElem?_eq_some_iff.1 hx).1
  unfold slices_Index_int_L1
  have hlt : decide ((i : Int) < (l.length : Int)) = true := by simp; omega
  simp only [hlt, if_true, idx_nat, hx, Option.bind_some, w64_succ (n := i) (by omega)]
  split <;> rfl
theorem l2Place_eq (x : Line) (hl : x.Stops.length ≤ 4000000000) (v : Int) : s_l2Place x v = some (fixI (fun e => v == e) x.Stops) := by
  have hc : fixI (fun e => v == e) x.Stops = fixI (fun e => e == v) x.Stops := fixI_congr _ fun e => BEq.comm
  rw [hc]
  unfold s_l2Place
  refine find_val x.Stops (fun e => e == v) (fun i y hx => ?_) (by unfold s_l2Place_L1; simp)
  have hi := (List.getElem?_eq_some_iff.1 hx).1
  unfold s_l2Place_L1
  have hlt : decide ((i : Int) < (x.Stops.length : Int)) = true := by simp; omega
  simp only [hlt, if_true, idx_nat, hx, Option.bind_some, w64_succ (n := i) (by omega)]
  split <;> rfl
theorem bl_comm (a b : List UInt8) : (a == b) = (b == a) := BEq.comm
theorem l2Find_eq (l : List ByteArray) (hl : l.length ≤ 4000000000) (v : ByteArray) : s_l2Find l v = some (fixI (fun e => v.toList == e.toList) l) := by
  rw [fixI_congr l (q := fun e => e.toList == v.toList) fun e => bl_comm _ _]
  unfold s_l2Find
  refine find_val l (fun e => e.toList == v.toList) (fun i x hx => ?_) (by unfold s_l2Find_L1; simp)
  have hi := (List.getElem?_eq_some_iff.1 hx).1
  unfold s_l2Find_L1
  have hlt : decide ((i : Int) < (l.length : Int)) = true := by simp; omega
  simp only [hlt, if_true, idx_nat, hx, Option.bind_some, w64_succ (n := i) (by omega)]
  split <;> rfl
theorem l2LineNamed_eq (n : Network) (hl : n.Lines.length ≤ 4000000000) (v : ByteArray) : s_l2LineNamed n v = some (fixI (fun e => v.toList == e.toList) (n.Lines.map (·.Name))) := by
  rw [fixI_map, fixI_congr n.Lines (q := fun e => e.Name.toList == v.toList) fun e => bl_comm _ _]
  unfold s_l2LineNamed
  refine find_val n.Lines (fun e => e.Name.toList == v.toList) (fun i x hx => ?_) (by unfold s_l2LineNamed_L1; simp)
  have hi := (List.getElem?_eq_some_iff.1 hx).1
  unfold s_l2LineNamed_L1
  have hlt : decide ((i : Int) < (n.Lines.length : Int)) = true := by simp; omega
  simp only [hlt, if_true, idx_nat, hx, Option.bind_some, w64_succ (n := i) (by omega)]
  split <;> rfl
def NamesP (l : List ByteArray) : Prop := ∀ (i : Nat) x, l[i]? = some x → NameOK x ∧ fixI (fun e => x.toList == e.toList) l = (i : Int)
def LineP (st : Nat) (x : Line) : Prop := (2 ≤ x.Stops.length ∧ x.Stops.length ≤ 6) ∧ (x.Runs.length : Int) = (x.Stops.length : Int) - 1 ∧
  (∀ (i : Nat) e, x.Stops[i]? = some e → (0 ≤ e ∧ e < (st : Int)) ∧ fixI (fun y => e == y) x.Stops = (i : Int)) ∧ ∀ (i : Nat) r, x.Runs[i]? = some r → 1 ≤ r ∧ r ≤ 60
def Good (n : Network) : Prop := (2 ≤ n.Stops.length ∧ n.Stops.length ≤ 8) ∧ (1 ≤ n.Lines.length ∧ n.Lines.length ≤ 5) ∧ NamesP n.Stops ∧ NamesP (n.Lines.map (·.Name)) ∧ ∀ (i : Nat) x, n.Lines[i]? = some x → LineP n.Stops.length x
noncomputable instance (l : List ByteArray) : Decidable (NamesP l) := Classical.propDecidable _
noncomputable instance (st : Nat) (x : Line) : Decidable (LineP st x) := Classical.propDecidable _
noncomputable instance (n : Network) : Decidable (Good n) := Classical.propDecidable _
/-- No list is too long. -/
def Bd (n : Network) : Prop := n.Stops.length ≤ 1000 ∧ n.Lines.length ≤ 1000 ∧ ∀ x ∈ n.Lines, x.Stops.length ≤ 1000 ∧ x.Runs.length ≤ 1000

theorem areNames_eq (l : List ByteArray) (hl : l.length ≤ 1000) : i_areNames l = some (decide (NamesP l)) := by
  unfold i_areNames
  rw [all_val (hd := Classical.propDecidable _) l (fun i x => NameOK x ∧ fixI (fun e => x.toList == e.toList) l = (i : Int)) (fun i x hx => ?_) (by unfold i_areNames_L1; simp)]
  · by_cases h : NamesP l
    · rw [if_pos (show ∀ (i : Nat) x, l[i]? = some x → NameOK x ∧ fixI (fun e => x.toList == e.toList) l = (i : Int) from h)]; simp [h]
    · rw [if_neg (show ¬ ∀ (i : Nat) x, l[i]? = some x → NameOK x ∧ fixI (fun e => x.toList == e.toList) l = (i : Int) from h)]; simp [h]
  · have hi := (List.getElem?_eq_some_iff.1 hx).1
    unfold i_areNames_L1
    have hlt : decide ((i : Int) < (l.length : Int)) = true := by simp; omega
    simp only [hlt, if_true, idx_nat, hx, Option.bind_some, isName_eq, index_str_eq l (by omega), w64_succ (n := i) (by omega)]
    by_cases h1 : NameOK x
    · by_cases h2 : fixI (fun e => x.toList == e.toList) l = (i : Int)
      · left; simp [h1, h2]
      · right; simp [h1, h2]
    · right; simp [h1]

theorem lineNames_eq (n : Network) (hl : n.Lines.length ≤ 1000) : i_lineNames n = some (n.Lines.map (·.Name)) := by
  unfold i_lineNames
  rw [chk_of (by omega)]
  simp only [Option.bind_some]
  rw [fill_loop (fun x : Line => x.Name) n.Lines _ (by simp) (fun i a x y ha hy hx => ?_) (fun a ha => ?_)]
  · rfl
  · have hi := (List.getElem?_eq_some_iff.1 hx).1
    unfold i_lineNames_L1
    have hlt : decide ((i : Int) < (n.Lines.length : Int)) = true := by simp; omega
    simp only [hlt, if_true, idx_nat, hx, hy, Option.bind_some, w64_succ (n := i) (by omega), Int.toNat_natCast]
  · unfold i_lineNames_L1; simp

theorem isStop_eq (n : Network) (e : Int) : i_isStop n e = some (decide (0 ≤ e ∧ e < (n.Stops.length : Int))) := by
  unfold i_isStop
  by_cases h : 0 ≤ e <;> simp [h]
theorem isValidLine_eq (n : Network) (l : Line) (h1 : l.Stops.length ≤ 1000) (h2 : l.Runs.length ≤ 1000) : i_isValidLine n l = some (decide (LineP n.Stops.length l)) := by
  unfold i_isValidLine
  rw [within_eq]
  have e0 : w64 ((l.Stops.length : Int) - 1) = (l.Stops.length : Int) - 1 := w64_id (by omega)
  simp only [Option.bind_some, e0]
  by_cases a1 : 2 ≤ l.Stops.length ∧ l.Stops.length ≤ 6
  · have d1 : decide ((2 : Int) ≤ (l.Stops.length : Int) ∧ (l.Stops.length : Int) ≤ 6) = true := by simp; omega
    simp only [d1, Bool.not_true, Bool.false_eq_true, if_false]
    by_cases a2 : (l.Runs.length : Int) = (l.Stops.length : Int) - 1
    · have d2 : ((l.Runs.length : Int) != (l.Stops.length : Int) - 1) = false := by simp [a2]
      simp only [d2, Option.bind_some, Bool.false_eq_true, if_false]
      rw [all_val (hd := Classical.propDecidable _) l.Stops (fun i e => (0 ≤ e ∧ e < (n.Stops.length : Int)) ∧ fixI (fun y => e == y) l.Stops = (i : Int)) (fun i x hx => ?_) (by unfold i_isValidLine_L1; simp)]
      · rw [all_val (hd := Classical.propDecidable _) l.Runs (fun i r => 1 ≤ r ∧ r ≤ 60) (fun i x hx => ?_) (by unfold i_isValidLine_L2; simp)]
        · by_cases b1 : ∀ (i : Nat) e, l.Stops[i]? = some e → (0 ≤ e ∧ e < (n.Stops.length : Int)) ∧ fixI (fun y => e == y) l.Stops = (i : Int)
          · rw [if_pos b1]
            by_cases b2 : ∀ (i : Nat) r, l.Runs[i]? = some r → 1 ≤ r ∧ r ≤ 60
            · rw [if_pos b2]
              have : LineP n.Stops.length l := ⟨a1, a2, b1, b2⟩
              simp [this]
            · rw [if_neg b2]
              have : ¬ LineP n.Stops.length l := fun h => b2 h.2.2.2
              simp [this]
          · rw [if_neg b1]
            have : ¬ LineP n.Stops.length l := fun h => b1 h.2.2.1
            simp [this]
        · have hi := (List.getElem?_eq_some_iff.1 hx).1
          unfold i_isValidLine_L2
          have hlt : decide ((i : Int) < (l.Runs.length : Int)) = true := by simp; omega
          simp only [hlt, if_true, idx_nat, hx, Option.bind_some, within_eq, w64_succ (n := i) (by omega)]
          by_cases b : 1 ≤ x ∧ x ≤ 60
          · left; simp [b]
          · right; simp [b]
      · have hi := (List.getElem?_eq_some_iff.1 hx).1
        unfold i_isValidLine_L1
        have hlt : decide ((i : Int) < (l.Stops.length : Int)) = true := by simp; omega
        simp only [hlt, if_true, idx_nat, hx, Option.bind_some, isStop_eq, index_int_eq l.Stops (by omega), w64_succ (n := i) (by omega)]
        by_cases b1 : 0 ≤ x ∧ x < (n.Stops.length : Int)
        · by_cases b2 : fixI (fun y => x == y) l.Stops = (i : Int)
          · left; simp [b1, b2]
          · right; simp [b1, b2]
        · right; simp [b1]
    · have d2 : ((l.Runs.length : Int) != (l.Stops.length : Int) - 1) = true := by simp [a2]
      have : ¬ LineP n.Stops.length l := fun h => a2 h.2.1
      simp [d2, this]
  · have d1 : decide ((2 : Int) ≤ (l.Stops.length : Int) ∧ (l.Stops.length : Int) ≤ 6) = false := by simp; omega
    have : ¬ LineP n.Stops.length l := fun h => a1 h.1
    simp [d1, this]

theorem l2Line_eq (l : Line) (st : Nat) (hst : st ≤ 1000) (h1 : l.Stops.length ≤ 1000) (h2 : l.Runs.length ≤ 1000) : s_l2Line l (st : Int) = some (decide (NameOK l.Name ∧ LineP st l)) := by
  unfold s_l2Line
  rw [l2Name_eq]
  have e0 : w64 ((l.Stops.length : Int) - 1) = (l.Stops.length : Int) - 1 := w64_id (by omega)
  have e1 : w64 ((st : Int) - 1) = (st : Int) - 1 := w64_id (by omega)
  simp only [Option.bind_some, e0, l1In_eq]
  by_cases a0 : NameOK l.Name
  · simp only [a0, decide_true, Bool.not_true, Bool.false_eq_true, if_false, true_and]
    by_cases a1 : 2 ≤ l.Stops.length ∧ l.Stops.length ≤ 6
    · have d1 : decide ((2 : Int) ≤ (l.Stops.length : Int) ∧ (l.Stops.length : Int) ≤ 6) = true := by simp; omega
      simp only [d1, Bool.not_true, Bool.false_eq_true, if_false]
      by_cases a2 : (l.Runs.length : Int) = (l.Stops.length : Int) - 1
      · have d2 : ((l.Runs.length : Int) != (l.Stops.length : Int) - 1) = false := by simp [a2]
        simp only [d2, Option.bind_some, Bool.false_eq_true, if_false]
        rw [all_val (hd := Classical.propDecidable _) l.Stops (fun i e => (0 ≤ e ∧ e < (st : Int)) ∧ fixI (fun y => e == y) l.Stops = (i : Int)) (fun i x hx => ?_) (by unfold s_l2Line_L1; simp)]
        · rw [all_val (hd := Classical.propDecidable _) l.Runs (fun i r => 1 ≤ r ∧ r ≤ 60) (fun i x hx => ?_) (by unfold s_l2Line_L2; simp)]
          · by_cases b1 : ∀ (i : Nat) e, l.Stops[i]? = some e → (0 ≤ e ∧ e < (st : Int)) ∧ fixI (fun y => e == y) l.Stops = (i : Int)
            · rw [if_pos b1]
              by_cases b2 : ∀ (i : Nat) r, l.Runs[i]? = some r → 1 ≤ r ∧ r ≤ 60
              · rw [if_pos b2]
                have : LineP st l := ⟨a1, a2, b1, b2⟩
                simp [this]
              · rw [if_neg b2]
                have : ¬ LineP st l := fun h => b2 h.2.2.2
                simp [this]
            · rw [if_neg b1]
              have : ¬ LineP st l := fun h => b1 h.2.2.1
              simp [this]
          · have hi := (List.getElem?_eq_some_iff.1 hx).1
            unfold s_l2Line_L2
            have hlt : decide ((i : Int) < (l.Runs.length : Int)) = true := by simp; omega
            simp only [hlt, if_true, idx_nat, hx, Option.bind_some, l1In_eq, w64_succ (n := i) (by omega)]
            by_cases b : 1 ≤ x ∧ x ≤ 60
            · left; simp [b]
            · right; simp [b]
        · have hi := (List.getElem?_eq_some_iff.1 hx).1
          unfold s_l2Line_L1
          have hlt : decide ((i : Int) < (l.Stops.length : Int)) = true := by simp; omega
          simp only [hlt, if_true, idx_nat, hx, Option.bind_some, l1In_eq, e1, l2Place_eq l (by omega), w64_succ (n := i) (by omega)]
          by_cases b1 : 0 ≤ x ∧ x < (st : Int)
          · have d3 : decide (0 ≤ x ∧ x ≤ (st : Int) - 1) = true := by simp; omega
            by_cases b2 : fixI (fun y => x == y) l.Stops = (i : Int)
            · left; simp only [d3]; simp [b1, b2]
            · right; simp only [d3]; simp [b1, b2]
          · have d3 : decide (0 ≤ x ∧ x ≤ (st : Int) - 1) = false := by simp; omega
            right; simp only [d3]; simp [b1]
      · have d2 : ((l.Runs.length : Int) != (l.Stops.length : Int) - 1) = true := by simp [a2]
        have : ¬ LineP st l := fun h => a2 h.2.1
        simp [d2, this]
    · have d1 : decide ((2 : Int) ≤ (l.Stops.length : Int) ∧ (l.Stops.length : Int) ≤ 6) = false := by simp; omega
      have : ¬ LineP st l := fun h => a1 h.1
      simp [d1, this]
  · simp [a0]

theorem valid_eq (n : Network) (h : Bd n) : i_IsValidNetwork n = some (decide (Good n)) := by
  obtain ⟨h1, h2, h3⟩ := h
  unfold i_IsValidNetwork
  simp only [within_eq, Option.bind_some, areNames_eq n.Stops h1, lineNames_eq n h2, areNames_eq (n.Lines.map (·.Name)) (by simpa using h2)]
  by_cases a1 : 2 ≤ n.Stops.length ∧ n.Stops.length ≤ 8
  · have d1 : decide ((2 : Int) ≤ (n.Stops.length : Int) ∧ (n.Stops.length : Int) ≤ 8) = true := by simp; omega
    simp only [d1, Bool.not_true, Bool.false_eq_true, if_false]
    by_cases a2 : 1 ≤ n.Lines.length ∧ n.Lines.length ≤ 5
    · have d2 : decide ((1 : Int) ≤ (n.Lines.length : Int) ∧ (n.Lines.length : Int) ≤ 5) = true := by simp; omega
      simp only [d2, Bool.not_true, Bool.false_eq_true, if_false]
      by_cases a3 : NamesP n.Stops
      · simp only [a3, decide_true, Bool.not_true, Bool.false_eq_true, if_false]
        by_cases a4 : NamesP (n.Lines.map (·.Name))
        · simp only [a4, decide_true, Bool.not_true, Option.bind_some, Bool.false_eq_true, if_false]
          rw [all_val (hd := Classical.propDecidable _) n.Lines (fun i x => LineP n.Stops.length x) (fun i x hx => ?_) (by unfold i_IsValidNetwork_L1; simp)]
          · by_cases b1 : ∀ (i : Nat) x, n.Lines[i]? = some x → LineP n.Stops.length x
            · rw [if_pos b1]
              have : Good n := ⟨a1, a2, a3, a4, b1⟩
              simp [this]
            · rw [if_neg b1]
              have : ¬ Good n := fun h => b1 h.2.2.2.2
              simp [this]
          · have hi := (List.getElem?_eq_some_iff.1 hx).1
            obtain ⟨g1, g2⟩ := h3 x (List.mem_of_getElem? hx)
            unfold i_IsValidNetwork_L1
            have hlt : decide ((i : Int) < (n.Lines.length : Int)) = true := by simp; omega
            simp only [hlt, if_true, idx_nat, hx, Option.bind_some, isValidLine_eq n x g1 g2, w64_succ (n := i) (by omega)]
            by_cases b : LineP n.Stops.length x
            · left; simp [b]
            · right; simp [b]
        · have : ¬ Good n := fun h => a4 h.2.2.2.1
          simp [a4, this]
      · have : ¬ Good n := fun h => a3 h.2.2.1
        simp [a3, this]
    · have d2 : decide ((1 : Int) ≤ (n.Lines.length : Int) ∧ (n.Lines.length : Int) ≤ 5) = false := by simp; omega
      have : ¬ Good n := fun h => a2 h.2.1
      simp [d2, this]
  · have d1 : decide ((2 : Int) ≤ (n.Stops.length : Int) ∧ (n.Stops.length : Int) ≤ 8) = false := by simp; omega
    have : ¬ Good n := fun h => a1 h.1
    simp [d1, this]

theorem good_eq (n : Network) (h : Bd n) : s_l2Good n = some (decide (Good n)) := by
  obtain ⟨h1, h2, h3⟩ := h
  unfold s_l2Good
  simp only [l1In_eq, Option.bind_some]
  by_cases a1 : 2 ≤ n.Stops.length ∧ n.Stops.length ≤ 8
  · have d1 : decide ((2 : Int) ≤ (n.Stops.length : Int) ∧ (n.Stops.length : Int) ≤ 8) = true := by simp; omega
    simp only [d1, Bool.not_true, Bool.false_eq_true, if_false]
    by_cases a2 : 1 ≤ n.Lines.length ∧ n.Lines.length ≤ 5
    · have d2 : decide ((1 : Int) ≤ (n.Lines.length : Int) ∧ (n.Lines.length : Int) ≤ 5) = true := by simp; omega
      simp only [d2, Bool.not_true, Option.bind_some, Bool.false_eq_true, if_false]
      rw [all_val (hd := Classical.propDecidable _) n.Stops (fun i x => NameOK x ∧ fixI (fun e => x.toList == e.toList) n.Stops = (i : Int)) (fun i x hx => ?_) (by unfold s_l2Good_L1; simp)]
      · rw [all_val (hd := Classical.propDecidable _) n.Lines (fun i x => (NameOK x.Name ∧ LineP n.Stops.length x) ∧ fixI (fun e => x.Name.toList == e.toList) (n.Lines.map (·.Name)) = (i : Int)) (fun i x hx => ?_) (by unfold s_l2Good_L2; simp)]
        · by_cases b1 : NamesP n.Stops
          · rw [if_pos (show ∀ (i : Nat) x, n.Stops[i]? = some x → NameOK x ∧ fixI (fun e => x.toList == e.toList) n.Stops = (i : Int) from b1)]
            by_cases b2 : ∀ (i : Nat) x, n.Lines[i]? = some x → (NameOK x.Name ∧ LineP n.Stops.length x) ∧ fixI (fun e => x.Name.toList == e.toList) (n.Lines.map (·.Name)) = (i : Int)
            · rw [if_pos b2]
              have : Good n := ⟨a1, a2, b1, fun i y hy => by
                rw [List.getElem?_map] at hy
                obtain ⟨x, hx, rfl⟩ := Option.map_eq_some_iff.1 hy
                exact ⟨(b2 i x hx).1.1, (b2 i x hx).2⟩, fun i x hx => (b2 i x hx).1.2⟩
              simp [this]
            · rw [if_neg b2]
              have : ¬ Good n := fun h => b2 fun i x hx => by
                have h4 := h.2.2.2.1 i x.Name (by rw [List.getElem?_map, hx]; rfl)
                exact ⟨⟨h4.1, h.2.2.2.2 i x hx⟩, h4.2⟩
              simp [this]
          · rw [if_neg (show ¬ ∀ (i : Nat) x, n.Stops[i]? = some x → NameOK x ∧ fixI (fun e => x.toList == e.toList) n.Stops = (i : Int) from b1)]
            have : ¬ Good n := fun h => b1 h.2.2.1
            simp [this]
        · have hi := (List.getElem?_eq_some_iff.1 hx).1
          obtain ⟨g1, g2⟩ := h3 x (List.mem_of_getElem? hx)
          unfold s_l2Good_L2
          have hlt : decide ((i : Int) < (n.Lines.length : Int)) = true := by simp; omega
          simp only [hlt, if_true, idx_nat, hx, Option.bind_some, l2Line_eq x n.Stops.length h1 g1 g2, l2LineNamed_eq n (by omega), w64_succ (n := i) (by omega)]
          by_cases b1 : NameOK x.Name ∧ LineP n.Stops.length x
          · by_cases b2 : fixI (fun e => x.Name.toList == e.toList) (n.Lines.map (·.Name)) = (i : Int)
            · left; simp [b1, b2]
            · right; simp [b1, b2]
          · right; simp [b1]
      · have hi := (List.getElem?_eq_some_iff.1 hx).1
        unfold s_l2Good_L1
        have hlt : decide ((i : Int) < (n.Stops.length : Int)) = true := by simp; omega
        simp only [hlt, if_true, idx_nat, hx, Option.bind_some, l2Name_eq, l2Find_eq n.Stops (by omega), w64_succ (n := i) (by omega)]
        by_cases b1 : NameOK x
        · by_cases b2 : fixI (fun e => x.toList == e.toList) n.Stops = (i : Int)
          · left; simp [b1, b2]
          · right; simp [b1, b2]
        · right; simp [b1]
    · have d2 : decide ((1 : Int) ≤ (n.Lines.length : Int) ∧ (n.Lines.length : Int) ≤ 5) = false := by simp; omega
      have : ¬ Good n := fun h => a2 h.2.1
      simp [d2, this]
  · have d1 : decide ((2 : Int) ≤ (n.Stops.length : Int) ∧ (n.Stops.length : Int) ≤ 8) = false := by simp; omega
    have : ¬ Good n := fun h => a1 h.1
    simp [d1, this]
/-! Copies, reversed lists, the reversed line. -/
theorem l1Own_eq (l : List Int) (h : l.length ≤ 1000) : s_l1Own_f l = some l := by
  unfold s_l1Own_f
  rw [chk_of (by simp; omega)]; rfl
theorem l2Own_eq (n : Network) (h : Bd n) : s_l2Own n = some n := by
  obtain ⟨h1, h2, h3⟩ := h
  unfold s_l2Own
  rw [chk_of (by simp; omega)]
  simp only [Option.bind_some]
  rw [app_loop (fun x : Line => x) n.Lines (fun i a x ha hx => ?_) (fun a ha => ?_)]
  · simp only [Option.bind_some, List.map_id', List.nil_append]
  · have hi := (List.getElem?_eq_some_iff.1 hx).1
    obtain ⟨g1, g2⟩ := h3 x (List.mem_of_getElem? hx)
    unfold s_l2Own_L1
    have hlt : decide ((i : Int) < (n.Lines.length : Int)) = true := by simp; omega
    have hch : ∀ y : Line, chk (a.length + ([y] : List Line).length ≤ 4294967296) = some () := fun y => chk_of (by simp; omega)
    simp only [hlt, if_true, idx_nat, hx, Option.bind_some, l1Own_eq _ g1, l1Own_eq _ g2, hch, w64_succ (n := i) (by omega)]
  · unfold s_l2Own_L1; simp
theorem l2Own_t_eq (n : Network) (h : Bd n) : s_l2Own_t n = some n := by
  have : s_l2Own_t n = s_l2Own n := rfl
  rw [this]; exact l2Own_eq n h

theorem l2Back_eq (s : List Int) (hs : s.length ≤ 1000) : s_l2Back s = some s.reverse := by
  unfold s_l2Back
  have e0 : w64 ((s.length : Int) - 1) = (s.length : Int) - 1 := w64_id (by omega)
  rw [e0]
  have h := iter_rule (step := s_l2Back_L1 s) (fun m a => ∃ j : Nat, a.1 = (s.length : Int) - 1 - j ∧ m + j = s.length ∧ a.2 = s.reverse.take j) (fun b => b = s.reverse) ?_ (k := s.length) (a := ((s.length : Int) - 1, [])) ⟨0, by simp, by omega, by simp⟩
  · obtain ⟨b, hb, rfl⟩ := h
    rw [hb]; rfl
  rintro m ⟨v, i⟩ ⟨j, hv, hm, hi⟩
  simp only at hv hi
  subst hv
  by_cases hlt : j < s.length
  · left
    have ev : (s.length : Int) - 1 - j = ((s.length - 1 - j : Nat) : Int) := by omega
    rw [ev]
    obtain ⟨e, he⟩ := get_ex (l := s) (i := s.length - 1 - j) (by omega)
    have hd : decide ((0 : Int) ≤ ((s.length - 1 - j : Nat) : Int)) = true := by simp
    have hlen : i.length = j := by rw [hi]; simp; omega
    have hch : chk (i.length + ([e] : List Int).length ≤ 4294967296) = some () := chk_of (by simp; omega)
    have ev2 : w64 (((s.length - 1 - j : Nat) : Int) - 1) = (s.length : Int) - 1 - ((j + 1 : Nat) : Int) := by rw [w64_id (by omega)]; omega
    refine ⟨((s.length : Int) - 1 - ((j + 1 : Nat) : Int), i ++ [e]), m - 1, ?_, by omega, j + 1, rfl, by omega, ?_⟩
    · unfold s_l2Back_L1
      simp only [hd, if_true, idx_nat, he, hch, Option.bind_some, ev2]
    · show i ++ [e] = _
      rw [take_succ (x := e) (by rw [List.getElem?_reverse hlt]; exact he), hi]
  · right
    have ej : j = s.length := by omega
    subst ej
    have hd : decide ((0 : Int) ≤ (s.length : Int) - 1 - (s.length : Int)) = false := by simp; omega
    refine ⟨i, by unfold s_l2Back_L1; simp only [hd, Bool.false_eq_true, if_false], ?_⟩
    rw [hi, List.take_of_length_le (by simp)]
theorem l2BackF_eq (s : List Int) (hs : s.length ≤ 1000) : s_l2Back_f s = some s.reverse := l2Back_eq s hs

/-- The network with the reversed line. -/
def Rev (n : Network) (e : Line) (name : ByteArray) : Network := ⟨n.Stops, n.Lines ++ [⟨name, e.Stops.reverse, e.Runs.reverse⟩]⟩
def Asked (n : Network) (line : Int) (name : ByteArray) : Prop := Good n ∧ 0 ≤ line ∧ ∃ e, n.Lines[line.toNat]? = some e ∧ Good (Rev n e name)
theorem good_lines {n : Network} (h : Good n) : n.Lines.length ≤ 5 := h.2.1.2
theorem rev_bd {n : Network} {e : Line} {name : ByteArray} (h : Bd n) (hg : Good n) (he : e ∈ n.Lines) : Bd (Rev n e name) := by
  obtain ⟨h1, h2, h3⟩ := h
  have := good_lines hg
  refine ⟨h1, by simp [Rev]; omega, fun x hx => ?_⟩
  rcases List.mem_append.1 hx with hx | hx
  · exact h3 x hx
  · simp at hx
    subst hx
    obtain ⟨g1, g2⟩ := h3 e he
    exact ⟨by simpa using g1, by simpa using g2⟩

/-! The draws: they answer, with bounds. -/
/-- A drawn line. -/
def LB (x : Line) : Prop := (2 ≤ x.Stops.length ∧ x.Stops.length ≤ 10) ∧ 1 ≤ x.Runs.length ∧ x.Runs.length ≤ 10
def NB (n : Network) : Prop := (2 ≤ n.Stops.length ∧ n.Stops.length ≤ 6) ∧ (1 ≤ n.Lines.length ∧ n.Lines.length ≤ 8) ∧ ∀ x ∈ n.Lines, LB x
theorem NB.bd {n : Network} (h : NB n) : Bd n := ⟨by have := h.1; omega, by have := h.2.1; omega, fun x hx => by have := h.2.2 x hx; unfold LB at this; omega⟩
theorem l1Num_ok (n : Int) (h0 : 0 ≤ n) (h1 : n < 10) : ∃ r, s_l1Num n = some r ∧ r.size ≤ 10 := by
  have e : s_l1Num n = s_l1Num_F (s_l1Num_k 4294967295) n := rfl
  rw [e]
  unfold s_l1Num_F
  have d1 : decide (n < 0) = false := by simp; omega
  have d2 : decide (n < 10) = true := by simp; omega
  have e1 : w64 (n + 1) = n + 1 := w64_id (by omega)
  have hs : (str [48, 49, 50, 51, 52, 53, 54, 55, 56, 57]).size = 10 := rfl
  simp only [d1, d2, Bool.false_eq_true, if_false, if_true, e1, hs]
  rw [chk_of (by omega)]
  refine ⟨_, rfl, ?_⟩
  rw [ByteArray.size_extract, hs]
  omega

theorem line_ok {k : Nat} {c : l1Cur} (name : ByteArray) (stops : Int) (hs : 2 ≤ stops ∧ stops ≤ 1000) (h : Cur k c) (hk : k ≤ 1000000000) : ∃ r, s_l1Cur_line c name stops = some r ∧ Cur (k + 40) r.2 ∧ LB r.1 := by
  unfold s_l1Cur_line
  obtain ⟨r, hr, hc, h0, h1⟩ := pick_ok stops h (by omega)
  obtain ⟨r1, hr1, hc1, h10, h11⟩ := pick_ok 3 hc (by omega)
  simp only [hr, hr1, Option.bind_some]
  have e1 : w64 (2 + r1.1) = ((2 + r1.1.toNat : Nat) : Int) := by rw [w64_id (by omega)]; omega
  rw [e1]
  have loop : ∃ b, iter (s_l1Cur_line_L1 name stops) (r.1, ((2 + r1.1.toNat : Nat) : Int), r1.2.code_, r1.2.at_, r1.2.seed_.v, []) = some b ∧ (Cur (k + 4 + 2 * 4) ⟨b.1, b.2.1, ⟨b.2.2.1⟩⟩ ∧ 1 ≤ b.2.2.2.length ∧ b.2.2.2.length ≤ 4) := by
    refine iter_rule (fun m a => (0 ≤ a.1 ∧ a.1 < stops) ∧ a.2.1 = (m : Int) ∧ m + a.2.2.2.2.2.length ≤ 4 ∧ (1 ≤ m ∨ 1 ≤ a.2.2.2.2.2.length) ∧ Cur (k + 4 + 2 * (4 - m)) ⟨a.2.2.1, a.2.2.2.1, ⟨a.2.2.2.2.1⟩⟩) _ ?_ (k := 2 + r1.1.toNat) ⟨⟨h0, by show r.1 < stops; omega⟩, rfl, by simp; omega, .inl (by omega), hc1.mono (by omega)⟩
    rintro m ⟨v, v1, v2, v3, v4, v5⟩ ⟨hv, hv1, hl, hne, hcur⟩
    simp only at hv hv1 hl hne hcur
    subst hv1
    unfold s_l1Cur_line_L1
    cases m with
    | zero => right; exact ⟨_, by simp; rfl, hcur, by show 1 ≤ v5.length; omega, by show v5.length ≤ 4; omega⟩
    | succ m =>
      left
      have hpos : decide ((0 : Int) < ((m + 1 : Nat) : Int)) = true := by simp
      obtain ⟨r3, hr3, hc3, h30, h31⟩ := pick_ok 2 hcur (by omega)
      have hpl := l2Place_eq (⟨name, v5, []⟩ : Line) (by show v5.length ≤ _; omega) v
      have hch : chk (v5.length + ([v] : List Int).length ≤ 4294967296) = some () := chk_of (by simp; omega)
      have hne0 : chk (stops ≠ 0) = some () := chk_of (by omega)
      have w1 : w64 (v + 1) = v + 1 := w64_id (by omega)
      have w2 : w64 (v + 1 + r3.1) = v + 1 + r3.1 := w64_id (by omega)
      have ht := tmod_rng (a := v + 1 + r3.1) (b := stops) (by omega) (by omega)
      simp only [hpos, if_true, hpl, hch, hr3, hne0, w1, w2, Option.bind_some]
      have w3 : w64 (((m + 1 : Nat) : Int) - 1) = (m : Int) := w64_pred (by omega)
      split
      · refine ⟨_, m, by simp only [Option.bind_some]; rfl, by omega, ht, w3, ?_, .inr ?_, ?_⟩
        · simp; omega
        · simp
        · exact hc3.mono (by omega)
      · rename_i hn
        refine ⟨_, m, by simp only [Option.bind_some]; rfl, by omega, ht, w3, ?_, .inr ?_, ?_⟩
        · show m + v5.length ≤ 4; omega
        · show 1 ≤ v5.length
          cases v5 with
          | nil => simp [fixI] at hn
          | cons a l => simp
        · exact hc3.mono (by omega)
  obtain ⟨⟨v7, v8, v9, v10⟩, hb, hcb, hlb⟩ := loop
  simp only at hcb hlb
  rw [hb]
  simp only [Option.bind_some]
  -- at least two stops
  have two : ∃ v11 : List Int, (if decide ((v10.length : Int) < 2) = true then (idx v10 0).bind fun e1 => (chk ((stops : Int) ≠ 0)).bind fun u4 => (chk (v10.length + ([((w64 (e1 + 1)).tmod stops)] : List Int).length ≤ 4294967296)).bind fun u5 => some (v10 ++ ([((w64 (e1 + 1)).tmod stops)] : List Int)) else some v10) = some v11 ∧ 2 ≤ v11.length ∧ v11.length ≤ 5 := by
    by_cases h2 : (v10.length : Int) < 2
    · obtain ⟨e, he, _⟩ := idx_lt (l := v10) (i := 0) (by omega) (by omega)
      have hch : ∀ y : Int, chk (v10.length + ([y] : List Int).length ≤ 4294967296) = some () := fun y => chk_of (by simp; omega)
      have hne0 : chk (stops ≠ 0) = some () := chk_of (by omega)
      refine ⟨v10 ++ [(w64 (e + 1)).tmod stops], by simp only [h2, decide_true, if_true, he, hne0, hch, Option.bind_some], ?_, ?_⟩
      · simp; omega
      · simp; omega
    · exact ⟨v10, by simp [h2], by omega, by omega⟩
  obtain ⟨v11, hv11, l1, l2⟩ := two
  rw [hv11]
  simp only [Option.bind_some]
  have loop2 : ∃ b, iter (s_l1Cur_line_L2 v11) (1, v7, v8, v9, []) = some b ∧ (Cur (k + 40) ⟨b.1, b.2.1, ⟨b.2.2.1⟩⟩ ∧ b.2.2.2.length + 1 = v11.length) := by
    refine iter_rule (fun m a => ∃ i : Nat, a.1 = (i : Int) ∧ m + i = v11.length ∧ a.2.2.2.2.length + 1 = i ∧ Cur (k + 12 + 2 * i) ⟨a.2.1, a.2.2.1, ⟨a.2.2.2.1⟩⟩) _ ?_ (k := v11.length - 1) ⟨1, rfl, by omega, rfl, hcb.mono (by omega)⟩
    rintro m ⟨v12, v13, v14, v15, v16⟩ ⟨i, hi, hm, hl, hcur⟩
    simp only at hi hl hcur
    subst hi
    unfold s_l1Cur_line_L2
    by_cases hlt : i < v11.length
    · left
      have hd : decide ((i : Int) < (v11.length : Int)) = true := by simp; omega
      obtain ⟨r5, hr5, hc5, _⟩ := pick_ok 12 hcur (by omega)
      have hch : ∀ y : Int, chk (v16.length + ([y] : List Int).length ≤ 4294967296) = some () := fun y => chk_of (by simp; omega)
      refine ⟨_, m - 1, by simp only [hd, if_true, hr5, hch, Option.bind_some, w64_succ (n := i) (by omega)]; rfl, by omega, i + 1, rfl, by omega, ?_, ?_⟩
      · simp; omega
      · exact hc5.mono (by omega)
    · right
      have hd : decide ((i : Int) < (v11.length : Int)) = false := by simp; omega
      refine ⟨_, by simp only [hd, Bool.false_eq_true, if_false]; rfl, ?_, ?_⟩
      · exact hcur.mono (by omega)
      · show v16.length + 1 = _; omega
  obtain ⟨⟨v17, v18, v19, v20⟩, hb2, hcb2, hl2⟩ := loop2
  simp only at hcb2 hl2
  rw [hb2]
  simp only [Option.bind_some]
  exact ⟨_, rfl, hcb2, ⟨l1, by show v11.length ≤ 10; omega⟩, by show 1 ≤ v20.length; omega, by show v20.length ≤ 10; omega⟩
theorem lineF_ok {k : Nat} {c : l1Cur} (name : ByteArray) (stops : Int) (hs : 2 ≤ stops ∧ stops ≤ 1000) (h : Cur k c) (hk : k ≤ 1000000000) : ∃ r, s_l1Cur_line_f c name stops = some r ∧ Cur (k + 40) r.2 ∧ LB r.1 := line_ok name stops hs h hk

theorem six_len (i : Nat) (h2 : 2 ≤ i) (h6 : i ≤ 6) (l : List ByteArray) (hl : l.length = 6) : 2 ≤ ((l.take i).drop (0 : Int).toNat).length ∧ ((l.take i).drop (0 : Int).toNat).length ≤ 6 := by
  simp; omega

theorem networkT_ok {k : Nat} {c : l1Cur} (h : Cur k c) (hk : k ≤ 500000000) : ∃ r, s_l1Cur_network_t c = some r ∧ Cur (k + 300) r.2 ∧ NB r.1 := by
  unfold s_l1Cur_network_t
  obtain ⟨r, hr, hc, h0, h1⟩ := pick_ok 5 h (by omega)
  have e1 : w64 (2 + r.1) = 2 + r.1 := w64_id (by omega)
  have hsix : ([(str [112, 111, 114, 116]), (str [109, 105, 108, 108]), (str [112, 97, 114, 107]), (str [104, 97, 108, 108]), (str [100, 111, 99, 107]), (str [102, 97, 105, 114])] : List ByteArray).length = 6 := rfl
  simp only [hr, Option.bind_some, e1, hsix]
  rw [chk_of (by omega)]
  obtain ⟨r1, hr1, hc1, h10, h11⟩ := pick_ok 3 hc (by omega)
  have e2 : w64 (1 + r1.1) = ((1 + r1.1.toNat : Nat) : Int) := by rw [w64_id (by omega)]; omega
  simp only [hr1, Option.bind_some, e2]
  have loop : ∃ b, iter (s_l1Cur_network_t_L1 r) (((1 + r1.1.toNat : Nat) : Int), r1.2.code_, r1.2.at_, r1.2.seed_.v, []) = some b ∧ (Cur (k + 4 + 40 * 3) ⟨b.1, b.2.1, ⟨b.2.2.1⟩⟩ ∧ (1 ≤ b.2.2.2.length ∧ b.2.2.2.length ≤ 3) ∧ ∀ x ∈ b.2.2.2, LB x) := by
    refine iter_rule (fun m a => a.1 = (m : Int) ∧ m + a.2.2.2.2.length ≤ 3 ∧ 1 ≤ m + a.2.2.2.2.length ∧ (∀ x ∈ a.2.2.2.2, LB x) ∧ Cur (k + 4 + 40 * (3 - m)) ⟨a.2.1, a.2.2.1, ⟨a.2.2.2.1⟩⟩) _ ?_ (k := 1 + r1.1.toNat) ⟨rfl, by simp; omega, by simp, by simp, hc1.mono (by omega)⟩
    rintro m ⟨x, v, v1, v2, v3⟩ ⟨hx, hl, hl1, hlb, hcur⟩
    simp only at hx hl hl1 hlb hcur
    subst hx
    unfold s_l1Cur_network_t_L1
    cases m with
    | zero => right; exact ⟨_, by simp; rfl, hcur, ⟨by show 1 ≤ v3.length; omega, by show v3.length ≤ 3; omega⟩, hlb⟩
    | succ m =>
      left
      have hpos : decide ((0 : Int) < ((m + 1 : Nat) : Int)) = true := by simp
      obtain ⟨r4, hr4, hs4⟩ := l1Num_ok ((m + 1 : Nat) : Int) (by omega) (by omega)
      have hs : (str [108]).size = 1 := rfl
      have hch : chk ((str [108]).size + r4.size ≤ 4294967296) = some () := chk_of (by omega)
      obtain ⟨r5, hr5, hc5, hb5⟩ := lineF_ok (str [108] ++ r4) (2 + r.1) (by omega) hcur (by omega)
      have hch2 : ∀ y : Line, chk (v3.length + ([y] : List Line).length ≤ 4294967296) = some () := fun y => chk_of (by simp; omega)
      refine ⟨_, m, by simp only [hpos, if_true, hr4, hch, e1, hr5, hch2, Option.bind_some]; rfl, by omega, ?_, ?_, ?_, ?_, ?_⟩
      · exact w64_pred (by omega)
      · simp; omega
      · simp; omega
      · intro y hy
        rcases List.mem_append.1 hy with hy | hy
        · exact hlb y hy
        · simp at hy; subst hy; exact hb5
      · exact hc5.mono (by omega)
  obtain ⟨⟨v4, v5, v6, v7⟩, hb, hcb, hlb, hall⟩ := loop
  simp only at hcb hlb hall
  rw [hb]
  simp only [Option.bind_some]
  obtain ⟨r6, hr6, hc6⟩ := one_ok 2 hcb (by omega)
  simp only [hr6, Option.bind_some]
  have fin : ∀ (v8 : List UInt8) (v9 v10 : Int) (v11 : List Line), Cur (k + 200) ⟨v8, v9, ⟨v10⟩⟩ → (1 ≤ v11.length ∧ v11.length ≤ 8) → (∀ x ∈ v11, LB x) →
      ∃ r', ((s_l2Own_t (⟨((([(str [112, 111, 114, 116]), (str [109, 105, 108, 108]), (str [112, 97, 114, 107]), (str [104, 97, 108, 108]), (str [100, 111, 99, 107]), (str [102, 97, 105, 114])] : List ByteArray).take (2 + r.1).toNat).drop (0 : Int).toNat), v11⟩ : Network)).bind fun r11 => some ((⟨r11.Stops, r11.Lines⟩ : Network), (⟨v8, v9, (⟨v10⟩ : IK .u64)⟩ : l1Cur))) = some r' ∧ Cur (k + 300) r'.2 ∧ NB r'.1 := by
    intro v8 v9 v10 v11 g1 g2 g3
    have hst := six_len (2 + r.1).toNat (by omega) (by omega) _ hsix
    have hnb : NB (⟨((([(str [112, 111, 114, 116]), (str [109, 105, 108, 108]), (str [112, 97, 114, 107]), (str [104, 97, 108, 108]), (str [100, 111, 99, 107]), (str [102, 97, 105, 114])] : List ByteArray).take (2 + r.1).toNat).drop (0 : Int).toNat), v11⟩ : Network) := ⟨hst, g2, g3⟩
    rw [l2Own_t_eq _ hnb.bd]
    exact ⟨_, rfl, g1.mono (by omega), hnb⟩
  split
  · obtain ⟨e, he, _, hem⟩ := idx_lt (l := v7) (i := 0) (by omega) (by omega)
    obtain ⟨g1, g2⟩ := hall e hem
    have hch2 : ∀ y : Line, chk (v7.length + ([y] : List Line).length ≤ 4294967296) = some () := fun y => chk_of (by simp; omega)
    simp only [he, l2BackF_eq e.Stops (by omega), l2BackF_eq e.Runs (by omega), hch2, Option.bind_some]
    refine fin _ _ _ _ (hc6.mono (by omega)) (by simp; omega) fun y hy => ?_
    rcases List.mem_append.1 hy with hy | hy
    · exact hall y hy
    · simp at hy; subst hy
      exact ⟨by simpa using g1, by simpa using g2⟩
  · simp only [Option.bind_some]
    exact fin _ _ _ _ (hc6.mono (by omega)) (by omega) hall

theorem anyNetwork_ok {k : Nat} {c : l1Cur} (h : Cur k c) (hk : k ≤ 200000000) : ∃ r, s_l1Cur_anyNetwork c = some r ∧ Cur (k + 1000) r.2 ∧ Bd r.1 := by
  unfold s_l1Cur_anyNetwork
  obtain ⟨r, hr, hc, hnb⟩ := networkT_ok h (by omega)
  obtain ⟨n1, n2, n3⟩ := hnb
  obtain ⟨r1, hr1, hc1, h10, h11⟩ := pick_ok (r.1.Lines.length : Int) hc (by omega)
  obtain ⟨e, he, he2, hem⟩ := idx_lt (l := r.1.Lines) (i := r1.1) h10 (by omega)
  obtain ⟨g1, g2⟩ := n3 e hem
  obtain ⟨r2, hr2, hc2, _⟩ := pick_ok 24 hc1 (by omega)
  simp only [hr, hr1, he, hr2, Option.bind_some]
  have fin : ∀ (v : List UInt8) (v1 v2 : Int) (v3 : ByteArray) (v4 : List ByteArray) (v5 : List Line) (v6 : List Int), Cur (k + 900) ⟨v, v1, ⟨v2⟩⟩ → v4.length ≤ 6 → v5.length = r.1.Lines.length → (∀ x ∈ v5, LB x) → v6.length ≤ 11 →
      ∃ r', ((idx v5 r1.1).bind fun e9 => some ((⟨v4, (v5.set r1.1.toNat (⟨v3, e9.Stops, v6⟩ : Line))⟩ : Network), (⟨v, v1, (⟨v2⟩ : IK .u64)⟩ : l1Cur))) = some r' ∧ Cur (k + 1000) r'.2 ∧ Bd r'.1 := by
    intro v v1 v2 v3 v4 v5 v6 q1 q2 q3 q4 q5
    obtain ⟨e9, he9, _, hm9⟩ := idx_lt (l := v5) (i := r1.1) h10 (by omega)
    rw [he9]
    refine ⟨_, rfl, q1.mono (by omega), by show v4.length ≤ _; omega, by simp; omega, fun x hx => ?_⟩
    rcases List.mem_or_eq_of_mem_set hx with hx | hx
    · have := q4 x hx
      unfold LB at this; omega
    · subst hx
      have := q4 e9 hm9
      unfold LB at this
      exact ⟨by show e9.Stops.length ≤ _; omega, by show v6.length ≤ _; omega⟩
  split
  · obtain ⟨r4, hr4, hc4, _⟩ := ofw_ok ([(str [109, 105, 108, 108]), (str []), (str [65]), (str [97, 98, 99, 100, 101, 102, 103, 104]), (str [97, 98, 99, 100, 101, 102, 103, 104, 105])] : List ByteArray) (by simp) hc2 (by omega)
    obtain ⟨e2, he2', _⟩ := idx_lt (l := r.1.Stops) (i := 0) (by omega) (by omega)
    simp only [hr4, he2', Option.bind_some, flb_go]
    exact fin _ _ _ _ _ _ _ (hc4.mono (by omega)) (by simp; omega) rfl n3 (by omega)
  split
  · obtain ⟨r5, hr5, hc5, _⟩ := ofw_ok ([(str [114, 49]), (str [108, 49]), (str []), (str [88])] : List ByteArray) (by simp) hc2 (by omega)
    simp only [hr5, Option.bind_some, flb_go]
    exact fin _ _ _ _ _ _ _ (hc5.mono (by omega)) (by omega) rfl n3 (by omega)
  split
  · obtain ⟨r8, hr8, hc8, h80, h81⟩ := pick_ok (e.Stops.length : Int) hc2 (by omega)
    obtain ⟨r9, hr9, hc9, _⟩ := pick_ok 10 hc8 (by omega)
    obtain ⟨e4, he4, _⟩ := idx_lt (l := e.Stops) (i := r8.1) h80 (by omega)
    simp only [hr8, hr9, he4, Option.bind_some, flb_go]
    refine fin _ _ _ _ _ _ _ (hc9.mono (by omega)) (by omega) (by simp) (fun x hx => ?_) (by show e.Runs.length ≤ 11; omega)
    rcases List.mem_or_eq_of_mem_set hx with hx | hx
    · exact n3 x hx
    · subst hx; exact ⟨by simpa using g1, g2⟩
  split
  · obtain ⟨r12, hr12, hc12, h120, h121⟩ := pick_ok (e.Runs.length : Int) hc2 (by omega)
    obtain ⟨r13, hr13, hc13, _⟩ := amongw_ok ([0, 60, 61, (-1)] : List Int) (by simp) hc12 (by omega)
    obtain ⟨e6, he6, _⟩ := idx_lt (l := e.Runs) (i := r12.1) h120 (by omega)
    simp only [hr12, hr13, he6, Option.bind_some, flb_go]
    refine fin _ _ _ _ _ _ _ (hc13.mono (by omega)) (by omega) (by simp) (fun x hx => ?_) (by simp; omega)
    rcases List.mem_or_eq_of_mem_set hx with hx | hx
    · exact n3 x hx
    · subst hx; exact ⟨g1, by simpa using g2⟩
  split
  · have hch : chk (e.Runs.length + ([3] : List Int).length ≤ 4294967296) = some () := chk_of (by simp; omega)
    simp only [hch, Option.bind_some, flb_go]
    exact fin _ _ _ _ _ _ _ (hc2.mono (by omega)) (by omega) rfl n3 (by simp; omega)
  split
  · simp only [flb_ret]
    exact ⟨_, rfl, hc2.mono (by omega), by show r.1.Stops.length ≤ _; omega, by simp, by simp⟩
  split
  · have loop : ∃ b, iter (s_l1Cur_anyNetwork_L1 r) (0, r2.2.code_, r2.2.at_, r2.2.seed_.v, r.1.Lines) = some b ∧ (Cur (k + 900) ⟨b.1, b.2.1, ⟨b.2.2.1⟩⟩ ∧ b.2.2.2.length ≤ 20 ∧ ∀ x ∈ b.2.2.2, LB x) := by
      refine iter_rule (fun m a => ∃ i : Nat, a.1 = (i : Int) ∧ m + i = 8 ∧ i ≤ 7 ∧ a.2.2.2.2.length ≤ 8 + i ∧ (∀ x ∈ a.2.2.2.2, LB x) ∧ Cur (k + 310 + 50 * i) ⟨a.2.1, a.2.2.1, ⟨a.2.2.2.1⟩⟩) _ ?_ (k := 8) ⟨0, rfl, rfl, by omega, by simpa using n2.2, n3, hc2.mono (by omega)⟩
      rintro m ⟨v7, v8, v9, v10, v11⟩ ⟨i, hi, hm, hi7, hl, hlb, hcur⟩
      simp only at hi hl hlb hcur
      subst hi
      unfold s_l1Cur_anyNetwork_L1
      obtain ⟨r16, hr16, hc16, h160, h161⟩ := pick_ok 2 hcur (by omega)
      have w1 : w64 (5 + r16.1) = 5 + r16.1 := w64_id (by omega)
      simp only [hr16, w1, Option.bind_some]
      by_cases a1 : (v11.length : Int) < 5 + r16.1 ∧ (i : Int) < 7
      · left
        have d1 : decide ((v11.length : Int) < 5 + r16.1) = true := by simp; omega
        have d2 : decide ((i : Int) < 7) = true := by simp; omega
        obtain ⟨r19, hr19, hs19⟩ := l1Num_ok (i : Int) (by omega) (by omega)
        have hs : (str [120]).size = 1 := rfl
        have hch : chk ((str [120]).size + r19.size ≤ 4294967296) = some () := chk_of (by omega)
        obtain ⟨r20, hr20, hc20, hb20⟩ := line_ok (str [120] ++ r19) (r.1.Stops.length : Int) (by omega) hc16 (by omega)
        have hch2 : ∀ y : Line, chk (v11.length + ([y] : List Line).length ≤ 4294967296) = some () := fun y => chk_of (by simp; omega)
        refine ⟨_, m - 1, by simp only [d1, d2, if_true, hr19, hch, hr20, hch2, Option.bind_some, w64_succ (n := i) (by omega)]; rfl, by omega, i + 1, rfl, by omega, by omega, ?_, fun x hx => ?_, ?_⟩
        · simp; omega
        · rcases List.mem_append.1 hx with hx | hx
          · exact hlb x hx
          · simp at hx; subst hx; exact hb20
        · exact hc20.mono (by omega)
      · right
        have hcond : (if decide ((v11.length : Int) < 5 + r16.1) = true then some (decide ((i : Int) < 7)) else some false) = some false := by
          by_cases b1 : (v11.length : Int) < 5 + r16.1
          · have : decide ((i : Int) < 7) = false := by simp; omega
            simp [b1, this]
          · simp [b1]
        refine ⟨_, by simp only [hcond, Option.bind_some, Bool.false_eq_true, if_false]; rfl, ?_, ?_, hlb⟩
        · exact hc16.mono (by omega)
        · show v11.length ≤ 20; omega
    obtain ⟨⟨v13, v14, v15, v16⟩, hb, hcb, hlb, hall⟩ := loop
    simp only at hcb hlb hall
    rw [hb]
    simp only [Option.bind_some, flb_ret]
    refine ⟨_, rfl, hcb.mono (by omega), by show r.1.Stops.length ≤ _; omega, by show v16.length ≤ _; omega, fun x hx => ?_⟩
    have := hall x hx
    unfold LB at this; omega
  · simp only [flb_go]
    exact fin _ _ _ _ _ _ _ (hc2.mono (by omega)) (by omega) rfl n3 (by omega)

/-! What many laws lean on: draws in the style of Tot, lists held against themselves, comparisons. -/
theorem t_pick {k : Nat} {c : l1Cur} (n : Int) (h : Cur k c) (hk : k ≤ 3000000000) : Tot (s_l1Cur_pick c n) fun r => Cur (k + 2) r.2 ∧ 0 ≤ r.1 ∧ (r.1 < n ∨ r.1 = 0) := pick_ok n h hk
theorem t_one {k : Nat} {c : l1Cur} (n : Int) (h : Cur k c) (hk : k ≤ 3000000000) : Tot (s_l1Cur_one c n) fun r => Cur (k + 2) r.2 := one_ok n h hk
theorem t_among {k : Nat} {c : l1Cur} (l : List Int) (hl : l ≠ []) (h : Cur k c) (hk : k ≤ 3000000000) : Tot (s_l1Cur_among c l) fun r => Cur (k + 2) r.2 ∧ r.1 ∈ l := among_ok l hl h hk
theorem t_amongw {k : Nat} {c : l1Cur} (l : List Int) (hl : l ≠ []) (h : Cur k c) (hk : k ≤ 3000000000) : Tot (s_l1Cur_among_w c l) fun r => Cur (k + 2) r.2 ∧ r.1 ∈ l := amongw_ok l hl h hk
theorem rBig_eq (code : List UInt8) : v_rBig code = some (decide (65536 < (code.length : Int))) := rfl
theorem compare_int (x y : Int) : cmp_Compare_int x y = some (if x < y then -1 else if y < x then 1 else 0) := by
  unfold cmp_Compare_int cmp_isNaN_int
  by_cases h : x < y
  · simp [h]
  · by_cases h2 : y < x <;> simp [h, h2]
theorem idx0 {α : Type} (l : List α) : idx l 0 = l[0]? := idx_nat l 0
/-! Walks: when they are valid; ways and their lengths. -/
def WalkP (st : Nat) (e : Walk) : Prop := 0 ≤ e.A ∧ e.A < e.B ∧ e.B < (st : Int) ∧ 1 ≤ e.Minutes ∧ e.Minutes ≤ 120
def WLt (a b : Walk) : Prop := a.A < b.A ∨ (a.A = b.A ∧ a.B < b.B)
def WalksP (st : Nat) (list : List Walk) : Prop := list.length ≤ 12 ∧ ∀ (i : Nat) e, list[i]? = some e → WalkP st e ∧ ∀ z, 0 < i → list[i - 1]? = some z → WLt z e
noncomputable instance (st : Nat) (list : List Walk) : Decidable (WalksP st list) := Classical.propDecidable _
theorem or2_eq (a b : Int) : cmp_Or_int [a, b] = some (if a = 0 then b else a) := by
  have i0 : idx [a, b] 0 = some a := rfl
  have i1 : idx [a, b] 1 = some b := rfl
  have w1 : w64 1 = 1 := rfl
  have w2 : w64 2 = 2 := rfl
  unfold cmp_Or_int
  by_cases h : a = 0
  · subst h
    have s1 : cmp_Or_int_L1 [0, b] 0 = some (.nx 1) := by unfold cmp_Or_int_L1; simp [i0, w1]
    by_cases h2 : b = 0
    · subst h2
      have s2 : cmp_Or_int_L1 [0, 0] 1 = some (.nx 2) := by unfold cmp_Or_int_L1; simp [i1, w2]
      have s3 : cmp_Or_int_L1 [0, 0] 2 = some (.dn (.go ())) := by unfold cmp_Or_int_L1; simp
      rw [iter_nx s1, iter_nx s2, iter_dn s3]; simp
    · have s2 : cmp_Or_int_L1 [0, b] 1 = some (.dn (.ret b)) := by unfold cmp_Or_int_L1; simp [i1, h2]
      rw [iter_nx s1, iter_dn s2]; simp
  · have s1 : cmp_Or_int_L1 [a, b] 0 = some (.dn (.ret a)) := by unfold cmp_Or_int_L1; simp [i0, h]
    rw [iter_dn s1]; simp [h]
theorem areWalks_eq (n : Network) (list : List Walk) : i_areWalks n list = some (decide (WalksP n.Stops.length list)) := by
  unfold i_areWalks
  by_cases h12 : (12 : Int) < (list.length : Int)
  · have : ¬ WalksP n.Stops.length list := fun h => by have := h.1; omega
    simp [h12, this]
  simp only [h12, decide_false, Bool.false_eq_true, if_false]
  rw [all_val (hd := Classical.propDecidable _) list (fun i e => WalkP n.Stops.length e ∧ ∀ z, 0 < i → list[i - 1]? = some z → WLt z e) (fun i e he => ?_) (by unfold i_areWalks_L1; simp)]
  · by_cases hp : WalksP n.Stops.length list
    · rw [if_pos hp.2]; simp [hp]
    · rw [if_neg (fun h => hp ⟨by omega, h⟩)]; simp [hp]
  have hi := get_lt he
  unfold i_areWalks_L1
  simp only [Int.ofNat_lt.2 hi, decide_true, if_true, idx_nat, he, Option.bind_some, isStop_eq, within_eq]
  by_cases hw : WalkP n.Stops.length e
  · obtain ⟨h1, h2, h3, h4, h5⟩ := hw
    have c1 : 0 ≤ e.A ∧ e.A < (n.Stops.length : Int) := by omega
    have c2 : 0 ≤ e.B ∧ e.B < (n.Stops.length : Int) := by omega
    have c3 : ¬ e.B ≤ e.A := by omega
    simp only [c1, c2, c3, h4, h5, and_self, decide_true, decide_false, Bool.not_true, Bool.false_eq_true, if_false, Option.bind_some]
    by_cases h0 : 0 < (i : Int)
    · obtain ⟨z, hz⟩ := get_ex (l := list) (i := i - 1) (by omega)
      have ew : w64 ((i : Int) - 1) = ((i - 1 : Nat) : Int) := by rw [w64_id (by omega)]; omega
      simp only [h0, decide_true, if_true, ew, idx_nat, hz, Option.bind_some, compare_int, or2_eq]
      by_cases hl : WLt z e
      · left
        have : ¬ (0 : Int) ≤ (if (if z.A < e.A then -1 else if e.A < z.A then 1 else (0 : Int)) = 0 then (if z.B < e.B then -1 else if e.B < z.B then 1 else 0) else (if z.A < e.A then -1 else if e.A < z.A then 1 else 0)) := by
          unfold WLt at hl
          rcases hl with h | ⟨h, h'⟩
          · simp [h]
          · have e1 : ¬ z.A < e.A := by omega
            have e2 : ¬ e.A < z.A := by omega
            simp [e1, e2, h']
        simp only [this, decide_false, Bool.false_eq_true, if_false]
        refine ⟨by rw [w64_succ (by omega)], ⟨h1, h2, h3, h4, h5⟩, fun z' _ hz' => ?_⟩
        cases hz'; exact hl
      · right
        have : (0 : Int) ≤ (if (if z.A < e.A then -1 else if e.A < z.A then 1 else (0 : Int)) = 0 then (if z.B < e.B then -1 else if e.B < z.B then 1 else 0) else (if z.A < e.A then -1 else if e.A < z.A then 1 else 0)) := by
          unfold WLt at hl
          have e1 : ¬ z.A < e.A := by omega
          by_cases e2 : e.A < z.A
          · simp [e1, e2]
          · have e3 : ¬ z.B < e.B := by omega
            by_cases e4 : e.B < z.B <;> simp [e1, e2, e3, e4]
        simp only [this, decide_true, if_true]
        refine ⟨trivial, fun hc => hl (hc.2 z (by omega) rfl)⟩
    · simp only [h0, decide_false, Bool.false_eq_true, if_false, Option.bind_some]
      left
      exact ⟨by rw [w64_succ (by omega)], ⟨h1, h2, h3, h4, h5⟩, fun z hz => by omega⟩
  · right
    refine ⟨?_, fun hc => hw hc.1⟩
    have key : ((if (!decide (0 ≤ e.A ∧ e.A < (n.Stops.length : Int))) = true then some true else if (!decide (0 ≤ e.B ∧ e.B < (n.Stops.length : Int))) = true then some true else if decide (e.B ≤ e.A) = true then some true else some (!decide (1 ≤ e.Minutes ∧ e.Minutes ≤ 120)))) = some true := by
      by_cases c1 : 0 ≤ e.A ∧ e.A < (n.Stops.length : Int)
      · by_cases c2 : 0 ≤ e.B ∧ e.B < (n.Stops.length : Int)
        · by_cases c3 : e.B ≤ e.A
          · simp [c1, c2, c3]
          · have c4 : ¬ (1 ≤ e.Minutes ∧ e.Minutes ≤ 120) := fun h => hw ⟨c1.1, by omega, c2.2, h.1, h.2⟩
            simp only [c1, c2, c3, c4, and_self, decide_true, decide_false, Bool.not_true, Bool.not_false, Bool.false_eq_true, if_false]
        · simp only [c1, c2, and_self, decide_true, decide_false, Bool.not_true, Bool.not_false, Bool.false_eq_true, if_false, if_true]
      · simp only [c1, decide_false, Bool.not_false, if_true]
    rw [key]; simp
theorem l7Good_eq {n : Network} (hb : Bd n) (list : List Walk) : s_l7Good n list = some (decide (Good n ∧ WalksP n.Stops.length list)) := by
  unfold s_l7Good
  rw [good_eq n hb]
  by_cases hg : Good n
  · by_cases h12 : (12 : Int) < (list.length : Int)
    · have : ¬ WalksP n.Stops.length list := fun h => by have := h.1; omega
      simp [hg, h12, this]
    simp only [hg, h12, true_and, decide_true, decide_false, Bool.not_true, Bool.false_eq_true, if_false, Option.bind_some]
    have h8 := hg.1
    rw [all_val (hd := Classical.propDecidable _) list (fun i e => WalkP n.Stops.length e ∧ ∀ z, 0 < i → list[i - 1]? = some z → WLt z e) (fun i e he => ?_) (by unfold s_l7Good_L1; simp)]
    · by_cases hp : WalksP n.Stops.length list
      · rw [if_pos hp.2]; simp [hp]
      · rw [if_neg (fun h => hp ⟨by omega, h⟩)]; simp [hp]
    have hi := get_lt he
    unfold s_l7Good_L1
    simp only [Int.ofNat_lt.2 hi, decide_true, if_true, idx_nat, he, Option.bind_some, l1In_eq]
    by_cases hw : WalkP n.Stops.length e
    · obtain ⟨h1, h2, h3, h4, h5⟩ := hw
      have c1 : 1 ≤ e.B ∧ e.B ≤ w64 ((n.Stops.length : Int) - 1) := by rw [w64_id (by omega)]; omega
      have c2 : 0 ≤ e.A ∧ e.A ≤ w64 (e.B - 1) := by rw [w64_id (by omega)]; omega
      simp only [c1, c2, h4, h5, and_self, decide_true, Bool.not_true, Bool.false_eq_true, if_false, Option.bind_some]
      by_cases h0 : 0 < (i : Int)
      · obtain ⟨z, hz⟩ := get_ex (l := list) (i := i - 1) (by omega)
        have ew : w64 ((i : Int) - 1) = ((i - 1 : Nat) : Int) := by rw [w64_id (by omega)]; omega
        simp only [h0, decide_true, if_true, ew, idx_nat, hz, Option.bind_some]
        by_cases hl : WLt z e
        · left
          refine ⟨?_, ⟨h1, h2, h3, h4, h5⟩, fun z' _ hz' => by cases hz'; exact hl⟩
          unfold WLt at hl
          have e1 : ¬ e.A < z.A := by omega
          rw [w64_succ (by omega)]
          by_cases e2 : z.A = e.A
          · have e3 : ¬ e.B ≤ z.B := by omega
            simp [e1, e2, e3]
          · simp [e1, e2]
        · right
          refine ⟨?_, fun hc => hl (hc.2 z (by omega) rfl)⟩
          unfold WLt at hl
          by_cases e1 : e.A < z.A
          · simp [e1]
          · have e2 : z.A = e.A := by omega
            have e3 : e.B ≤ z.B := by omega
            simp [e1, e2, e3]
      · simp only [h0, decide_false, Bool.false_eq_true, if_false, Option.bind_some]
        left
        exact ⟨by rw [w64_succ (by omega)], ⟨h1, h2, h3, h4, h5⟩, fun z hz => by omega⟩
    · right
      refine ⟨?_, fun hc => hw hc.1⟩
      have key : ((if (!decide (1 ≤ e.B ∧ e.B ≤ w64 ((n.Stops.length : Int) - 1))) = true then some true else if (!decide (0 ≤ e.A ∧ e.A ≤ w64 (e.B - 1))) = true then some true else some (!decide (1 ≤ e.Minutes ∧ e.Minutes ≤ 120)))) = some true := by
        by_cases c1 : 1 ≤ e.B ∧ e.B ≤ w64 ((n.Stops.length : Int) - 1)
        · have c1' := c1
          rw [w64_id (x := (n.Stops.length : Int) - 1) (by omega)] at c1'
          by_cases c2 : 0 ≤ e.A ∧ e.A ≤ w64 (e.B - 1)
          · have c2' := c2
            rw [w64_id (x := e.B - 1) (by omega)] at c2'
            have c4 : ¬ (1 ≤ e.Minutes ∧ e.Minutes ≤ 120) := fun h => hw ⟨c2.1, by omega, by omega, h.1, h.2⟩
            simp only [c1, c2, c4, and_self, decide_true, decide_false, Bool.not_true, Bool.not_false, Bool.false_eq_true, if_false]
          · simp only [c1, c2, and_self, decide_true, decide_false, Bool.not_true, Bool.not_false, Bool.false_eq_true, if_false, if_true]
        · simp only [c1, decide_false, Bool.not_false, if_true]
      rw [key]; simp
  · simp [hg]
theorem validW_eq {n : Network} (hb : Bd n) (list : List Walk) : i_IsValidWalks n list = some (decide (Good n ∧ WalksP n.Stops.length list)) := by
  unfold i_IsValidWalks
  rw [valid_eq n hb, areWalks_eq]
  by_cases hg : Good n <;> simp [hg]
theorem walk_at {st : Nat} {list : List Walk} (h : WalksP st list) {e : Walk} (he : e ∈ list) : WalkP st e := by
  obtain ⟨i, hi⟩ := List.getElem?_of_mem he
  exact (h.2 i e hi).1
theorem walk_lt {st : Nat} {list : List Walk} (h : WalksP st list) {i j : Nat} {a b : Walk} (hij : i < j) (ha : list[i]? = some a) (hb : list[j]? = some b) : WLt a b := by
  induction j generalizing b with
  | zero => omega
  | succ j ih =>
    obtain ⟨c, hc⟩ := get_ex (l := list) (i := j) (by have := get_lt hb; omega)
    have h1 := (h.2 (j + 1) b hb).2 c (by omega) (by simpa using hc)
    by_cases hji : i = j
    · subst hji; rw [ha] at hc; cases hc; exact h1
    · have := ih (by omega) hc
      unfold WLt at *; omega
/-- A walk between two stops, in either direction. -/
def Edge (list : List Walk) (b c : Nat) (w : Int) : Prop := ∃ e ∈ list, ((e.A = (b : Int) ∧ e.B = (c : Int)) ∨ (e.A = (c : Int) ∧ e.B = (b : Int))) ∧ e.Minutes = w
theorem Edge.symm {list : List Walk} {b c : Nat} {w : Int} (h : Edge list b c w) : Edge list c b w := by
  obtain ⟨e, h1, h2, h3⟩ := h
  exact ⟨e, h1, h2.symm, h3⟩
theorem Edge.rng {st : Nat} {list : List Walk} (hl : WalksP st list) {b c : Nat} {w : Int} (h : Edge list b c w) : b < st ∧ c < st ∧ b ≠ c ∧ 1 ≤ w ∧ w ≤ 120 := by
  obtain ⟨e, h1, h2, h3⟩ := h
  obtain ⟨g1, g2, g3, g4, g5⟩ := walk_at hl h1
  rcases h2 with h2 | h2
  · refine ⟨by omega, by omega, fun h => by subst h; omega, by omega, by omega⟩
  · refine ⟨by omega, by omega, fun h => by subst h; omega, by omega, by omega⟩
/-- There is a way of a length. -/
def Way (list : List Walk) (a b : Nat) (L : Int) : Prop := ∀ R : Nat → Nat → Int → Prop, (∀ x, R x x 0) → (∀ x y z l w, R x y l → Edge list y z w → R x z (l + w)) → R a b L
theorem Way.refl {list : List Walk} (a : Nat) : Way list a a 0 := fun _ h _ => h a
theorem Way.step {list : List Walk} {a b c : Nat} {L w : Int} (h : Way list a b L) (he : Edge list b c w) : Way list a c (L + w) := fun R h1 h2 => h2 a b c L w (h R h1 h2) he
theorem Way.one {list : List Walk} {a b : Nat} {w : Int} (he : Edge list a b w) : Way list a b w := by
  have := (Way.refl (list := list) a).step he
  rwa [Int.zero_add] at this
theorem Way.trans {list : List Walk} {a b c : Nat} {L M : Int} (h : Way list a b L) (h' : Way list b c M) : Way list a c (L + M) := by
  refine h' (fun x y l => ∀ a L, Way list a x L → Way list a y (L + l)) (fun x a L h => by rw [Int.add_zero]; exact h) (fun x y z l w ih he a L h => ?_) a L h
  rw [← Int.add_assoc]
  exact (ih a L h).step he
theorem Way.symm {list : List Walk} {a b : Nat} {L : Int} (h : Way list a b L) : Way list b a L := by
  refine h (fun x y l => Way list y x l) (fun x => .refl x) (fun x y z l w ih he => ?_)
  rw [Int.add_comm]
  exact (Way.one he.symm).trans ih
theorem Way.rng {st : Nat} {list : List Walk} (hl : WalksP st list) {a b : Nat} {L : Int} (h : Way list a b L) : (a < st → b < st) ∧ 0 ≤ L ∧ (a ≠ b → 1 ≤ L) := by
  refine h (fun x y l => (x < st → y < st) ∧ 0 ≤ l ∧ (x ≠ y → 1 ≤ l)) (fun x => ⟨fun h => h, by omega, fun h => absurd rfl h⟩) (fun x y z l w ih he => ?_)
  have := he.rng hl
  exact ⟨fun _ => this.2.1, by omega, fun _ => by omega⟩
/-- What is as short as can be: -1 where there is no way. -/
def IsDist (list : List Walk) (a b : Nat) (x : Int) : Prop := -1 ≤ x ∧ (0 ≤ x → Way list a b x) ∧ ∀ L, Way list a b L → 0 ≤ x ∧ x ≤ L
theorem IsDist.uniq {list : List Walk} {a b : Nat} {x y : Int} (h : IsDist list a b x) (h' : IsDist list a b y) : x = y := by
  by_cases hx : 0 ≤ x
  · have h1 := h'.2.2 x (h.2.1 hx)
    have h2 := h.2.2 y (h'.2.1 h1.1)
    omega
  · by_cases hy : 0 ≤ y
    · have h2 := h.2.2 y (h'.2.1 hy); omega
    · have := h.1; have := h'.1; omega
theorem IsDist.symm {list : List Walk} {a b : Nat} {x : Int} (h : IsDist list a b x) : IsDist list b a x := ⟨h.1, fun hx => (h.2.1 hx).symm, fun L hL => h.2.2 L hL.symm⟩
theorem IsDist.self {st : Nat} {list : List Walk} (hl : WalksP st list) {a : Nat} {x : Int} (h : IsDist list a a x) : x = 0 := by
  have := h.2.2 0 (.refl a); omega
theorem IsDist.pos {st : Nat} {list : List Walk} (hl : WalksP st list) {a b : Nat} {x : Int} (h : IsDist list a b x) (hab : a ≠ b) (hx : 0 ≤ x) : 1 ≤ x := ((h.2.1 hx).rng hl).2.2 hab
/-! Walks: the table of the program holds the shortest ways. -/
def tat (T : List (List Int)) (i j : Nat) : Int := (T.getD i []).getD j (-1)
def Sq (K : Nat) (T : List (List Int)) : Prop := T.length = K ∧ ∀ (i : Nat) r, T[i]? = some r → r.length = K
theorem sq_row {K : Nat} {T : List (List Int)} (h : Sq K T) {i : Nat} (hi : i < K) : ∃ r, T[i]? = some r ∧ r.length = K ∧ ∀ j, j < K → r[j]? = some (tat T i j) := by
  obtain ⟨r, hr⟩ := get_ex (l := T) (i := i) (by have := h.1; omega)
  have hl := h.2 i r hr
  refine ⟨r, hr, hl, fun j hj => ?_⟩
  obtain ⟨x, hx⟩ := get_ex (l := r) (i := j) (by omega)
  rw [hx]
  unfold tat
  rw [List.getD_eq_getElem?_getD, List.getD_eq_getElem?_getD, hr, Option.getD_some, hx]; rfl
theorem tat_of {T : List (List Int)} {i j : Nat} {r : List Int} {x : Int} (hr : T[i]? = some r) (hx : r[j]? = some x) : tat T i j = x := by
  unfold tat
  rw [List.getD_eq_getElem?_getD, List.getD_eq_getElem?_getD, hr, Option.getD_some, hx]; rfl
theorem sq_set {K : Nat} {T : List (List Int)} (h : Sq K T) {i j : Nat} {r : List Int} (x : Int) (hr : T[i]? = some r) (hj : j < K) : Sq K (T.set i (r.set j x)) ∧ ∀ a b, a < K → b < K → tat (T.set i (r.set j x)) a b = if a = i ∧ b = j then x else tat T a b := by
  have hi := get_lt hr
  have hl := h.2 i r hr
  have hs : Sq K (T.set i (r.set j x)) := by
    refine ⟨by rw [List.length_set]; exact h.1, fun a q hq => ?_⟩
    by_cases hai : a = i
    · subst hai
      rw [List.getElem?_set_self hi] at hq; cases hq
      rw [List.length_set]; exact hl
    · rw [List.getElem?_set_ne (Ne.symm hai)] at hq
      exact h.2 a q hq
  refine ⟨hs, fun a b ha hb => ?_⟩
  by_cases hai : a = i
  · subst hai
    by_cases hbj : b = j
    · subst hbj
      rw [if_pos ⟨rfl, rfl⟩]
      exact tat_of (List.getElem?_set_self hi) (List.getElem?_set_self (by omega))
    · rw [if_neg (fun h => hbj h.2)]
      obtain ⟨r', hr', _, h2⟩ := sq_row h ha
      rw [hr] at hr'; cases hr'
      exact tat_of (List.getElem?_set_self hi) (by rw [List.getElem?_set_ne (Ne.symm hbj)]; exact h2 b hb)
  · rw [if_neg (fun h => hai h.1)]
    obtain ⟨r', hr', _, h2⟩ := sq_row h ha
    exact tat_of (by rw [List.getElem?_set_ne (Ne.symm hai)]; exact hr') (h2 b hb)
/-- The table as it is made. -/
def D0 (K i : Nat) : List Int := (List.range K).map fun b => if b = i then 0 else -1
theorem D0_at {K i b : Nat} (hb : b < K) : (D0 K i)[b]? = some (if b = i then 0 else -1) := by
  unfold D0; rw [List.getElem?_map, List.getElem?_range hb]; rfl
theorem wt1_ok (n : Network) (h8 : n.Stops.length ≤ 1000) {v : Nat} (hv : v < n.Stops.length) (T : List (List Int)) (hT : T.length = n.Stops.length) (hr : T[v]? = some (List.replicate n.Stops.length (0 : Int))) :
    Tot (iter (i_walkTable_L1 n (v : Int)) ((0 : Int), T)) fun o => o = T.set v (D0 n.Stops.length v) := by
  refine Tot.iter (fun m s => ∃ k : Nat, s.1 = (k : Int) ∧ m + k = n.Stops.length ∧ s.2 = T.set v ((List.range n.Stops.length).map fun b => if b = v ∨ k ≤ b then 0 else -1)) (n := n.Stops.length) ⟨0, rfl, by omega, ?_⟩ ?_
  · have e : ((List.range n.Stops.length).map fun b => if b = v ∨ 0 ≤ b then (0 : Int) else -1) = List.replicate n.Stops.length (0 : Int) := by
      apply List.ext_getElem?
      intro b
      rw [List.getElem?_map, List.getElem?_replicate]
      by_cases hb : b < n.Stops.length
      · rw [List.getElem?_range hb, if_pos hb]; simp
      · rw [List.getElem?_eq_none (by simpa using hb), if_neg hb]; rfl
    rw [e, set_same hr]
  · rintro m ⟨w, o⟩ ⟨k, hw, hm, ho⟩
    simp only at hw ho
    subst hw; subst ho
    unfold i_walkTable_L1
    rw [List.length_replicate, Int.toNat_natCast]
    refine .iteP (fun hc => ?_) (fun hc => .dn ?_)
    · refine .call (P := fun o => o = T.set v ((List.range n.Stops.length).map fun b => if b = v ∨ k + 1 ≤ b then 0 else -1)) ?_ fun o ho => .nx ⟨m - 1, by omega, k + 1, w64_succ (by omega), by omega, ho⟩
      have hset : (T.set v ((List.range n.Stops.length).map fun b => if b = v ∨ k ≤ b then (0 : Int) else -1))[v]? = some ((List.range n.Stops.length).map fun b => if b = v ∨ k ≤ b then (0 : Int) else -1) := List.getElem?_set_self (by omega)
      refine .ite (fun hne => ?_) (fun heq => .ok ?_)
      · have hne : k ≠ v := by
          intro e; subst e; simp at hne
        obtain ⟨x, hx⟩ := get_ex (l := (List.range n.Stops.length).map fun b => if b = v ∨ k ≤ b then (0 : Int) else -1) (i := k) (by simp; omega)
        refine .eq (ixs hset) (.eq (ixs hx) (.ok ?_))
        rw [Int.toNat_natCast, Int.toNat_natCast, List.set_set]
        congr 1
        apply List.ext_getElem?
        intro b
        by_cases hb : b < n.Stops.length
        · rw [List.getElem?_map, List.getElem?_range hb]
          by_cases hbk : k = b
          · subst hbk
            rw [List.getElem?_set_self (by simp; omega)]
            have c : ¬ (k = v ∨ k + 1 ≤ k) := by omega
            simp [c]
          · rw [List.getElem?_set_ne hbk, List.getElem?_map, List.getElem?_range hb]
            simp only [Option.map_some]
            congr 1
            by_cases h1 : b = v ∨ k ≤ b
            · rw [if_pos h1, if_pos (by omega)]
            · rw [if_neg h1, if_neg (by omega)]
        · rw [List.getElem?_eq_none (by simp; omega), List.getElem?_eq_none (by simp; omega)]
      · have heq : k = v := by
          have : ¬ ((v : Int) ≠ (k : Int)) := by simpa using heq
          omega
        subst heq
        congr 1
        apply List.map_congr_left
        intro b _
        by_cases h1 : b = k ∨ k ≤ b
        · rw [if_pos h1, if_pos (by omega)]
        · rw [if_neg h1, if_neg (by omega)]
    · congr 1
      unfold D0
      apply List.map_congr_left
      intro b hb
      have := List.mem_range.1 hb
      by_cases h1 : b = v
      · rw [if_pos (.inl h1), if_pos h1]
      · rw [if_neg (by omega), if_neg h1]
theorem wt2_ok (n : Network) (h8 : n.Stops.length ≤ 1000) : Tot (iter (i_walkTable_L2 n) ((0 : Int), List.replicate (n.Stops.length : Int).toNat (([] : List Int) : List Int))) fun T => Sq n.Stops.length T ∧ ∀ a b, a < n.Stops.length → b < n.Stops.length → tat T a b = if b = a then 0 else -1 := by
  have fin : ∀ T : List (List Int), T.length = n.Stops.length → (∀ i, i < n.Stops.length → T[i]? = some (D0 n.Stops.length i)) → Sq n.Stops.length T ∧ ∀ a b, a < n.Stops.length → b < n.Stops.length → tat T a b = if b = a then 0 else -1 := by
    intro T h1 h2
    refine ⟨⟨h1, fun i r hr => ?_⟩, fun a b ha hb => tat_of (h2 a ha) (D0_at hb)⟩
    have := get_lt hr
    rw [h2 i (by omega)] at hr; cases hr
    simp [D0]
  refine Tot.iter (fun m s => ∃ k : Nat, s.1 = (k : Int) ∧ m + k = n.Stops.length ∧ s.2.length = n.Stops.length ∧ ∀ i, i < k → s.2[i]? = some (D0 n.Stops.length i)) (n := n.Stops.length) ⟨0, rfl, by omega, by simp, fun i hi => by omega⟩ ?_
  rintro m ⟨w, T⟩ ⟨k, hw, hm, hl, hT⟩
  simp only at hw hl hT
  subst hw
  unfold i_walkTable_L2
  rw [List.length_replicate, Int.toNat_natCast]
  refine .iteP (fun hc => ?_) (fun hc => .dn (fin T hl fun i hi => hT i (by omega)))
  obtain ⟨r, hr⟩ := get_ex (l := T) (i := k) (by omega)
  have hs : (T.set k (List.replicate n.Stops.length (0 : Int)))[k]? = some (List.replicate n.Stops.length (0 : Int)) := List.getElem?_set_self (by omega)
  refine .chk (by omega) (.eq (ixs hr) ?_)
  rw [Int.toNat_natCast]
  refine .eq (ixs hs) (.call (wt1_ok n h8 (by omega) _ (by rw [List.length_set]; exact hl) hs) fun o ho => .nx ⟨m - 1, by omega, k + 1, w64_succ (by omega), by omega, ?_, fun i hi => ?_⟩)
  · dsimp only; rw [ho, List.length_set, List.length_set]; exact hl
  · dsimp only
    rw [ho, List.set_set]
    by_cases hik : i = k
    · subst hik; exact List.getElem?_set_self (by omega)
    · rw [List.getElem?_set_ne (Ne.symm hik)]; exact hT i (by omega)
/-- The walks are put in. -/
def FW0 (list : List Walk) (K : Nat) (T : List (List Int)) (k : Nat) : Prop := Sq K T ∧ (∀ a, a < K → tat T a a = 0) ∧ (∀ a b, a < K → b < K → -1 ≤ tat T a b ∧ tat T a b ≤ 120 ∧ (0 ≤ tat T a b → Way list a b (tat T a b))) ∧
  ∀ i e, i < k → list[i]? = some e → tat T e.A.toNat e.B.toNat = e.Minutes ∧ tat T e.B.toNat e.A.toNat = e.Minutes
theorem wt3_ok {K : Nat} {list : List Walk} (hl : WalksP K list) {T0 : List (List Int)} (h0 : FW0 list K T0 0) : Tot (iter (i_walkTable_L3 list) ((0 : Int), T0)) fun T => FW0 list K T list.length := by
  have h12 := hl.1
  refine Tot.iter (fun m s => ∃ k : Nat, s.1 = (k : Int) ∧ m + k = list.length ∧ FW0 list K s.2 k) (n := list.length) ⟨0, rfl, by omega, h0⟩ ?_
  rintro m ⟨w, T⟩ ⟨k, hw, hm, hs, hd, hv, he⟩
  simp only at hw hs hd hv he
  subst hw
  unfold i_walkTable_L3
  refine .iteP (fun hc => ?_) (fun hc => .dn ⟨hs, hd, hv, fun i e hi => he i e (by omega)⟩)
  obtain ⟨e, hx⟩ := get_ex (l := list) (i := k) (by omega)
  obtain ⟨g1, g2, g3, g4, g5⟩ := (hl.2 k e hx).1
  obtain ⟨a, ha⟩ : ∃ a : Nat, e.A = a := ⟨e.A.toNat, by omega⟩
  obtain ⟨b, hb⟩ : ∃ b : Nat, e.B = b := ⟨e.B.toNat, by omega⟩
  rw [ha, hb] at g2; rw [hb] at g3
  obtain ⟨ra, hra, hla, hra2⟩ := sq_row hs (i := a) (by omega)
  obtain ⟨rb, hrb, hlb, hrb2⟩ := sq_row hs (i := b) (by omega)
  obtain ⟨s1, t1⟩ := sq_set hs (j := b) e.Minutes hra (by omega)
  obtain ⟨rb', hrb', _, hrb2'⟩ := sq_row s1 (i := b) (by omega)
  obtain ⟨s2, t2⟩ := sq_set s1 (j := a) e.Minutes hrb' (by omega)
  have edge : Edge list a b e.Minutes := ⟨e, List.mem_of_getElem? hx, .inl ⟨ha, hb⟩, rfl⟩
  have val : ∀ x y, x < K → y < K → tat ((T.set a (ra.set b e.Minutes)).set b (rb'.set a e.Minutes)) x y = if (x = b ∧ y = a) ∨ (x = a ∧ y = b) then e.Minutes else tat T x y := by
    intro x y hx' hy'
    rw [t2 x y hx' hy', t1 x y hx' hy']
    by_cases c1 : x = b ∧ y = a
    · rw [if_pos c1, if_pos (.inl c1)]
    · by_cases c2 : x = a ∧ y = b
      · rw [if_neg c1, if_pos c2, if_pos (.inr c2)]
      · rw [if_neg c1, if_neg c2, if_neg (by omega)]
  refine .eq (ixs hx) ?_
  rw [ha, hb]
  simp only [Int.toNat_natCast]
  refine .eq (ixs hra) (.eq (ixs hrb) (.eq (ixs (hra2 b (by omega))) (.eq (ixs hrb') (.eq (ixs (hrb2' a (by omega))) (.nx ⟨m - 1, by omega, k + 1, w64_succ (by omega), by omega, s2, fun x hx' => ?_, fun x y hx' hy' => ?_, fun i e' hi hi' => ?_⟩)))))
  · dsimp only
    rw [val x x hx' hx', if_neg (by omega)]; exact hd x hx'
  · dsimp only
    rw [val x y hx' hy']
    by_cases c : (x = b ∧ y = a) ∨ (x = a ∧ y = b)
    · rw [if_pos c]
      refine ⟨by omega, by omega, fun _ => ?_⟩
      rcases c with ⟨rfl, rfl⟩ | ⟨rfl, rfl⟩
      · exact .one edge.symm
      · exact .one edge
    · rw [if_neg c]; exact hv x y hx' hy'
  · dsimp only
    by_cases hik : i = k
    · subst hik
      rw [hx] at hi'; cases hi'
      rw [ha, hb, Int.toNat_natCast, Int.toNat_natCast, val a b (by omega) (by omega), val b a (by omega) (by omega), if_pos (.inr ⟨rfl, rfl⟩), if_pos (.inl ⟨rfl, rfl⟩)]
      exact ⟨rfl, rfl⟩
    · have hlt := walk_lt hl (show i < k by omega) hi' hx
      obtain ⟨q1, q2, q3, _⟩ := (hl.2 i e' hi').1
      unfold WLt at hlt
      have hne : ¬ ((e'.A.toNat = b ∧ e'.B.toNat = a) ∨ (e'.A.toNat = a ∧ e'.B.toNat = b)) := by omega
      have hne2 : ¬ ((e'.B.toNat = b ∧ e'.A.toNat = a) ∨ (e'.B.toNat = a ∧ e'.A.toNat = b)) := by omega
      rw [val _ _ (by omega) (by omega), val _ _ (by omega) (by omega), if_neg hne, if_neg hne2]
      exact he i e' (by omega) hi'
/-! The ways over the stops below k. -/
structure FW (list : List Walk) (K : Nat) (f : Nat → Nat → Int) (k : Nat) : Prop where
  d : ∀ a, a < K → f a a = 0
  v : ∀ a b, a < K → b < K → -1 ≤ f a b ∧ f a b ≤ 120 * 2 ^ k ∧ (0 ≤ f a b → Way list a b (f a b))
  e : ∀ a b w, Edge list a b w → 0 ≤ f a b ∧ f a b ≤ w
  t : ∀ m i j, m < k → i < K → j < K → m < K → 0 ≤ f i m → 0 ≤ f m j → 0 ≤ f i j ∧ f i j ≤ f i m + f m j
/-- One stop more. -/
def rel (m : Nat) (f : Nat → Nat → Int) (a b : Nat) : Int := if f a m < 0 ∨ f m b < 0 then f a b else if f a b < 0 ∨ f a m + f m b < f a b then f a m + f m b else f a b
theorem rel_le {m : Nat} {f : Nat → Nat → Int} {a b : Nat} (h : 0 ≤ f a b) : 0 ≤ rel m f a b ∧ rel m f a b ≤ f a b := by
  unfold rel
  split
  · omega
  · split <;> omega
theorem rel_via {m : Nat} {f : Nat → Nat → Int} {a b : Nat} (h1 : 0 ≤ f a m) (h2 : 0 ≤ f m b) : 0 ≤ rel m f a b ∧ rel m f a b ≤ f a m + f m b := by
  unfold rel
  rw [if_neg (by omega)]
  split <;> omega
theorem rel_or (m : Nat) (f : Nat → Nat → Int) (a b : Nat) : rel m f a b = f a b ∨ (0 ≤ f a m ∧ 0 ≤ f m b ∧ rel m f a b = f a m + f m b) := by
  unfold rel
  split
  · exact .inl rfl
  · split
    · exact .inr ⟨by omega, by omega, rfl⟩
    · exact .inl rfl
theorem rel_row {m : Nat} {f : Nat → Nat → Int} (hd : f m m = 0) (a : Nat) : rel m f a m = f a m := by
  rcases rel_or m f a m with h | ⟨_, _, h⟩
  · exact h
  · rw [h, hd]; omega
theorem rel_col {m : Nat} {f : Nat → Nat → Int} (hd : f m m = 0) (b : Nat) : rel m f m b = f m b := by
  rcases rel_or m f m b with h | ⟨_, _, h⟩
  · exact h
  · rw [h, hd]; omega
theorem FW.rel {list : List Walk} {K : Nat} {f : Nat → Nat → Int} {k : Nat} (h : FW list K f k) (hk : k < K) : FW list K (rel k f) (k + 1) := by
  have hd := h.d k hk
  have hp : (120 * 2 ^ (k + 1) : Int) = 120 * 2 ^ k + 120 * 2 ^ k := by rw [Int.pow_succ]; omega
  refine ⟨fun a ha => ?_, fun a b ha hb => ?_, fun a b w he => ?_, fun m i j hm hi hj hmK h1 h2 => ?_⟩
  · have h0 := h.d a ha
    rcases rel_or k f a a with h1 | ⟨h1, h2, h3⟩
    · rw [h1]; exact h0
    · have h4 := rel_le (m := k) (f := f) (a := a) (b := a) (by omega)
      omega
  · have h0 := h.v a b ha hb
    rcases rel_or k f a b with h1 | ⟨h1, h2, h3⟩
    · rw [h1]; exact ⟨h0.1, by omega, h0.2.2⟩
    · have g1 := h.v a k ha hk
      have g2 := h.v k b hk hb
      rw [h3]
      exact ⟨by omega, by omega, fun _ => (g1.2.2 h1).trans (g2.2.2 h2)⟩
  · have h0 := h.e a b w he
    have h1 := rel_le (m := k) (f := f) h0.1
    omega
  · by_cases hmk : m = k
    · subst hmk
      rw [rel_row hd] at h1 ⊢
      rw [rel_col hd] at h2 ⊢
      exact rel_via h1 h2
    · have hm' : m < k := by omega
      rcases rel_or k f i m with q1 | ⟨a1, a2, q1⟩
      · rcases rel_or k f m j with q2 | ⟨b1, b2, q2⟩
        · rw [q1] at h1 ⊢; rw [q2] at h2 ⊢
          have := h.t m i j hm' hi hj hmK h1 h2
          have := rel_le (m := k) (f := f) this.1
          omega
        · rw [q1] at h1 ⊢; rw [q2] at h2 ⊢
          have c1 := h.t m i k hm' hi hk hmK h1 b1
          have := rel_via (m := k) (f := f) c1.1 b2
          omega
      · rcases rel_or k f m j with q2 | ⟨b1, b2, q2⟩
        · rw [q1] at h1 ⊢; rw [q2] at h2 ⊢
          have c1 := h.t m k j hm' hk hj hmK a2 h2
          have := rel_via (m := k) (f := f) a1 c1.1
          omega
        · rw [q1] at h1 ⊢; rw [q2] at h2 ⊢
          have := rel_via (m := k) (f := f) a1 b2
          omega
theorem FW.dist {list : List Walk} {K : Nat} (hl : WalksP K list) {f : Nat → Nat → Int} (h : FW list K f K) {a b : Nat} (ha : a < K) (hb : b < K) : IsDist list a b (f a b) := by
  have hv := h.v a b ha hb
  refine ⟨hv.1, hv.2.2, fun L hL => ?_⟩
  have key := hL (fun x y l => x < K → y < K ∧ 0 ≤ f x y ∧ f x y ≤ l) (fun x hx => ⟨hx, by rw [h.d x hx]; omega, by rw [h.d x hx]; omega⟩) (fun x y z l w ih he hx => by
    obtain ⟨i1, i2, i3⟩ := ih hx
    have he1 := h.e y z w he
    have hr := he.rng hl
    have := h.t y x z i1 hx hr.2.1 i1 i2 he1.1
    exact ⟨hr.2.1, by omega, by omega⟩)
  exact (key ha).2
/-! Walks: the program's table; the reference's times. -/
def stg (m : Nat) (f : Nat → Nat → Int) (i j a b : Nat) : Int := if a < i ∨ (a = i ∧ b < j) then rel m f a b else f a b
theorem stg_row {m : Nat} {f : Nat → Nat → Int} (hd : f m m = 0) (i j a : Nat) : stg m f i j a m = f a m := by
  unfold stg; rw [rel_row hd]; split <;> rfl
theorem stg_col {m : Nat} {f : Nat → Nat → Int} (hd : f m m = 0) (i j b : Nat) : stg m f i j m b = f m b := by
  unfold stg; rw [rel_col hd]; split <;> rfl
def Stg (K m : Nat) (f : Nat → Nat → Int) (i j : Nat) (T : List (List Int)) : Prop := Sq K T ∧ ∀ a b, a < K → b < K → tat T a b = stg m f i j a b
theorem wt4_ok (n : Network) {list : List Walk} {f : Nat → Nat → Int} {m i : Nat} (hK : n.Stops.length ≤ 8) (hf : FW list n.Stops.length f m) (hm : m < n.Stops.length) (hi : i < n.Stops.length) {T0 : List (List Int)} (h0 : Stg n.Stops.length m f i 0 T0) :
    Tot (iter (i_walkTable_L4 n (m : Int) (i : Int)) ((0 : Int), T0)) fun T => Stg n.Stops.length m f (i + 1) 0 T := by
  have hd := hf.d m hm
  have hpow : (2 : Int) ^ m ≤ 256 := by
    have h1 : (2 : Nat) ^ m ≤ 2 ^ 8 := Nat.pow_le_pow_right (by omega) (by omega)
    have h2 : ((2 ^ m : Nat) : Int) ≤ ((2 ^ 8 : Nat) : Int) := by exact_mod_cast h1
    rw [Int.natCast_pow] at h2
    simpa using h2
  refine Tot.iter (fun q s => ∃ j : Nat, s.1 = (j : Int) ∧ q + j = n.Stops.length ∧ Stg n.Stops.length m f i j s.2) (n := n.Stops.length) ⟨0, rfl, by omega, h0⟩ ?_
  rintro q ⟨w, T⟩ ⟨j, hw, hq, hs, hT⟩
  simp only at hw hs hT
  subst hw
  unfold i_walkTable_L4
  refine .iteP (fun hc => ?_) (fun hc => .dn ⟨hs, fun a b ha hb => ?_⟩)
  · have hj : j < n.Stops.length := by omega
    obtain ⟨ri, hri, hli, hri2⟩ := sq_row hs hi
    obtain ⟨rm, hrm, hlm, hrm2⟩ := sq_row hs hm
    have eim : tat T i m = f i m := by rw [hT i m hi hm, stg_row hd]
    have emj : tat T m j = f m j := by rw [hT m j hm hj, stg_col hd]
    have eij : tat T i j = f i j := by rw [hT i j hi hj]; unfold stg; rw [if_neg (by omega)]
    have v1 := hf.v i m hi hm
    have v2 := hf.v m j hm hj
    have ew : w64 (f i m + f m j) = f i m + f m j := w64_id (by omega)
    have next : ∀ T', Sq n.Stops.length T' → (∀ a b, a < n.Stops.length → b < n.Stops.length → tat T' a b = if a = i ∧ b = j then rel m f i j else tat T a b) → Stg n.Stops.length m f i (j + 1) T' := by
      intro T' s' h'
      refine ⟨s', fun a b ha hb => ?_⟩
      rw [h' a b ha hb]
      unfold stg
      by_cases c : a = i ∧ b = j
      · rw [if_pos c, if_pos (by omega), c.1, c.2]
      · rw [if_neg c, hT a b ha hb]
        unfold stg
        by_cases c2 : a < i ∨ (a = i ∧ b < j)
        · rw [if_pos c2, if_pos (by omega)]
        · rw [if_neg c2, if_neg (by omega)]
    have same : rel m f i j = f i j → Stg n.Stops.length m f i (j + 1) T := fun h => next T hs fun a b ha hb => by
      by_cases c : a = i ∧ b = j
      · rw [if_pos c, c.1, c.2, eij, h]
      · rw [if_neg c]
    refine .call (P := fun T' => Stg n.Stops.length m f i (j + 1) T') ?_ fun T' hT' => .nx ⟨q - 1, by omega, j + 1, w64_succ (by omega), by omega, hT'⟩
    refine .eq (ixs hri) (.eq (ixs (hri2 m hm)) ?_)
    rw [eim]
    refine .call (P := fun b => b = decide (f i m < 0 ∨ f m j < 0)) (.iteP (fun h => .ok (by simp [h])) (fun h => .eq (ixs hrm) (.eq (ixs (hrm2 j hj)) (.ok (by rw [emj]; simp [h]))))) fun b hb => ?_
    subst hb
    refine .iteP (fun h => .ok (same (by unfold rel; rw [if_pos h]))) (fun h => ?_)
    refine .eq (ixs hri) (.eq (ixs (hri2 m hm)) (.eq (ixs hrm) (.eq (ixs (hrm2 j hj)) (.eq (ixs hri) (.eq (ixs (hri2 j hj)) ?_)))))
    rw [eim, emj, eij, ew]
    refine .call (P := fun b => b = decide (f i j < 0 ∨ f i m + f m j < f i j)) (.iteP (fun h => .ok (by simp [h])) (fun h => .eq (ixs hri) (.eq (ixs (hri2 j hj)) (.ok (by rw [eij]; simp [h]))))) fun b hb => ?_
    subst hb
    refine .iteP (fun h2 => .eq (ixs hri) (.eq (ixs (hri2 j hj)) (.ok ?_))) (fun h2 => .ok (same (by unfold rel; rw [if_neg h, if_neg h2])))
    rw [Int.toNat_natCast, Int.toNat_natCast]
    obtain ⟨s1, t1⟩ := sq_set hs (j := j) (f i m + f m j) hri hj
    exact next _ s1 fun a b ha hb => by
      rw [t1 a b ha hb]
      by_cases c : a = i ∧ b = j
      · rw [if_pos c, if_pos c]; unfold rel; rw [if_neg h, if_pos h2]
      · rw [if_neg c, if_neg c]
  · rw [hT a b ha hb]
    unfold stg
    by_cases c : a < i ∨ (a = i ∧ b < j)
    · rw [if_pos c, if_pos (by omega)]
    · rw [if_neg c, if_neg (by omega)]
theorem wt5_ok (n : Network) {list : List Walk} {f : Nat → Nat → Int} {m : Nat} (hK : n.Stops.length ≤ 8) (hf : FW list n.Stops.length f m) (hm : m < n.Stops.length) {T0 : List (List Int)} (h0 : Sq n.Stops.length T0) (h1 : ∀ a b, a < n.Stops.length → b < n.Stops.length → tat T0 a b = f a b) :
    Tot (iter (i_walkTable_L5 n (m : Int)) ((0 : Int), T0)) fun T => Sq n.Stops.length T ∧ ∀ a b, a < n.Stops.length → b < n.Stops.length → tat T a b = rel m f a b := by
  refine Tot.iter (fun q s => ∃ i : Nat, s.1 = (i : Int) ∧ q + i = n.Stops.length ∧ Stg n.Stops.length m f i 0 s.2) (n := n.Stops.length) ⟨0, rfl, by omega, h0, fun a b ha hb => ?_⟩ ?_
  · rw [h1 a b ha hb]; unfold stg; rw [if_neg (by omega)]
  rintro q ⟨w, T⟩ ⟨i, hw, hq, hs, hT⟩
  simp only at hw hs hT
  subst hw
  unfold i_walkTable_L5
  refine .iteP (fun hc => .call (wt4_ok n hK hf hm (by omega) ⟨hs, hT⟩) fun T' hT' => .nx ⟨q - 1, by omega, i + 1, w64_succ (by omega), by omega, hT'⟩) (fun hc => .dn ⟨hs, fun a b ha hb => ?_⟩)
  rw [hT a b ha hb]; unfold stg; rw [if_pos (by omega)]
theorem walkTable_ok {n : Network} (hn : 2 ≤ n.Stops.length ∧ n.Stops.length ≤ 8) {list : List Walk} (hl : WalksP n.Stops.length list) :
    Tot (i_walkTable n list) fun T => Sq n.Stops.length T ∧ ∀ a b, a < n.Stops.length → b < n.Stops.length → IsDist list a b (tat T a b) ∧ tat T a b ≤ 40000 := by
  have hpow : (2 : Int) ^ n.Stops.length ≤ 256 := by
    have h1 : (2 : Nat) ^ n.Stops.length ≤ 2 ^ 8 := Nat.pow_le_pow_right (by omega) (by omega)
    have h2 : ((2 ^ n.Stops.length : Nat) : Int) ≤ ((2 ^ 8 : Nat) : Int) := by exact_mod_cast h1
    rw [Int.natCast_pow] at h2
    simpa using h2
  unfold i_walkTable
  refine .chk (by omega) (.call (wt2_ok n (by omega)) fun T1 ⟨s1, t1⟩ => .call (wt3_ok hl (T0 := T1) ⟨s1, fun a ha => by rw [t1 a a ha ha, if_pos rfl], fun a b ha hb => ?_, fun i e hi => by omega⟩) fun T2 ⟨s2, d2, v2, e2⟩ => ?_)
  · rw [t1 a b ha hb]
    by_cases c : b = a
    · subst c; rw [if_pos rfl]; exact ⟨by omega, by omega, fun _ => .refl b⟩
    · rw [if_neg c]; exact ⟨by omega, by omega, fun h => by omega⟩
  · have f0 : FW list n.Stops.length (tat T2) 0 := by
      refine ⟨d2, fun a b ha hb => by have := v2 a b ha hb; exact ⟨this.1, by omega, this.2.2⟩, fun a b w he => ?_, fun m i j hm => by omega⟩
      obtain ⟨e, h1, h2, h3⟩ := he
      obtain ⟨i, hi⟩ := List.getElem?_of_mem h1
      obtain ⟨q1, q2⟩ := e2 i e (get_lt hi) hi
      have hw := walk_at hl h1
      rcases h2 with ⟨ha, hb⟩ | ⟨ha, hb⟩
      · rw [ha, hb, Int.toNat_natCast, Int.toNat_natCast] at q1
        rw [q1, h3]; have := hw.2.2.2; omega
      · rw [ha, hb, Int.toNat_natCast, Int.toNat_natCast] at q2
        rw [q2, h3]; have := hw.2.2.2; omega
    refine .call (P := fun T => Sq n.Stops.length T ∧ FW list n.Stops.length (tat T) n.Stops.length) ?_ fun T3 ⟨s3, h3⟩ => .ok ⟨s3, fun a b ha hb => ⟨h3.dist hl ha hb, by have := (h3.v a b ha hb).2.1; omega⟩⟩
    refine Tot.iter (fun q s => ∃ m : Nat, s.1 = (m : Int) ∧ q + m = n.Stops.length ∧ Sq n.Stops.length s.2 ∧ FW list n.Stops.length (tat s.2) m) (n := n.Stops.length) ⟨0, rfl, by omega, s2, f0⟩ ?_
    rintro q ⟨w, T⟩ ⟨m, hw, hq, hs, hT⟩
    simp only at hw hs hT
    subst hw
    unfold i_walkTable_L6
    refine .iteP (fun hc => ?_) (fun hc => .dn ⟨hs, by rwa [show n.Stops.length = m by omega] at hT ⊢⟩)
    refine .call (wt5_ok n hn.2 hT (by omega) hs fun a b _ _ => rfl) fun T' ⟨g1, g2⟩ => .nx ⟨q - 1, by omega, m + 1, w64_succ (by omega), by omega, g1, ?_⟩
    have hr := hT.rel (k := m) (by omega)
    refine ⟨fun a ha => by rw [g2 a a ha ha]; exact hr.d a ha, fun a b ha hb => by rw [g2 a b ha hb]; exact hr.v a b ha hb, fun a b w he => ?_, fun k i j hk hi hj hkK => ?_⟩
    · have := he.rng hl
      rw [g2 a b this.1 this.2.1]; exact hr.e a b w he
    · dsimp only
      rw [g2 i k hi hkK, g2 k j hkK hj, g2 i j hi hj]; exact hr.t k i j hk hi hj hkK
/-! The reference: times that are bettered until they stay. -/
def wt (x : Int) : Int := if x < 0 then 1000 else x
def nI (x : Int) : Int := if x < 0 then 1 else 0
def mu (l : List Int) : Int := (l.map wt).sum
def ninf (l : List Int) : Int := (l.map nI).sum
theorem sum_set {α : Type} (f : α → Int) : ∀ {l : List α} {i : Nat} {x : α} (y : α), l[i]? = some x → ((l.set i y).map f).sum = (l.map f).sum - f x + f y
  | [], i, x, y, h => by simp at h
  | a :: l, 0, x, y, h => by
    have : a = x := by simpa using h
    subst this
    simp only [List.set_cons_zero, List.map_cons, List.sum_cons]; omega
  | a :: l, i + 1, x, y, h => by
    have := sum_set f (l := l) (i := i) y (by simpa using h)
    simp only [List.set_cons_succ, List.map_cons, List.sum_cons, this]; omega
theorem mu_nonneg (l : List Int) : 0 ≤ mu l := sum_nonneg fun x hx => by
  obtain ⟨y, _, rfl⟩ := List.mem_map.1 hx
  unfold wt; split <;> omega
theorem ninf_nonneg (l : List Int) : 0 ≤ ninf l := sum_nonneg fun x hx => by
  obtain ⟨y, _, rfl⟩ := List.mem_map.1 hx
  unfold nI; split <;> omega
def BI (list : List Walk) (K s : Nat) (out : List Int) : Prop := out.length = K ∧ (∀ (b : Nat) x, out[b]? = some x → -1 ≤ x ∧ x ≤ 960 - 120 * ninf out ∧ (0 ≤ x → Way list s b x)) ∧ out[s]? = some 0
def Rlx (out : List Int) (a b : Nat) (w : Int) : Prop := ∀ x y, out[a]? = some x → out[b]? = some y → 0 ≤ x → 0 ≤ y ∧ y ≤ x + w
/-- A time is bettered. -/
theorem BI.put {list : List Walk} {K s : Nat} {out : List Int} (h : BI list K s out) {a b : Nat} {x y w : Int} (hl : WalksP K list) (he : Edge list a b w) (hx : out[a]? = some x) (hy : out[b]? = some y) (h0 : 0 ≤ x) (hlt : y < 0 ∨ x + w < y) : BI list K s (out.set b (x + w)) ∧ mu (out.set b (x + w)) < mu out ∧ 0 ≤ x + w ∧ x + w ≤ 1000 := by
  obtain ⟨h1, h2, h3⟩ := h
  have hr := he.rng hl
  have gx := h2 a x hx
  have gy := h2 b y hy
  have hn := sum_set nI (x + w) hy
  have hm := sum_set wt (x + w) hy
  have e1 : nI (x + w) = 0 := by unfold nI; rw [if_neg (by omega)]
  have e2 : wt (x + w) = x + w := by unfold wt; rw [if_neg (by omega)]
  have hb := get_lt hy
  have hni : ninf (out.set b (x + w)) = ninf out - nI y := by unfold ninf; rw [hn, e1]; omega
  have hny := ninf_nonneg (out.set b (x + w))
  have e3 : nI y = 0 ∨ (nI y = 1 ∧ y < 0) := by unfold nI; split <;> omega
  have e4 : (y < 0 ∧ wt y = 1000 ∧ nI y = 1) ∨ (0 ≤ y ∧ wt y = y ∧ nI y = 0) := by unfold wt nI; by_cases c : y < 0 <;> simp [c] <;> omega
  refine ⟨⟨by rw [List.length_set]; exact h1, fun c z hz => ?_, ?_⟩, ?_, by omega, ?_⟩
  · rw [hni]
    by_cases hcb : c = b
    · subst hcb
      rw [List.getElem?_set_self hb] at hz; cases hz
      exact ⟨by omega, by omega, fun _ => (gx.2.2 h0).step he⟩
    · rw [List.getElem?_set_ne (Ne.symm hcb)] at hz
      have := h2 c z hz
      exact ⟨this.1, by omega, this.2.2⟩
  · by_cases hsb : b = s
    · subst hsb
      rw [h3] at hy; cases hy
      omega
    · rw [List.getElem?_set_ne hsb]; exact h3
  · show mu (out.set b (x + w)) < mu out
    unfold mu; rw [hm, e2]
    have := ninf_nonneg out
    omega
  · have := ninf_nonneg out
    omega
theorem bf2_ok {list : List Walk} {K s : Nat} (hl : WalksP K list) {k : Nat} {e : Walk} (he : list[k]? = some e) {o0 i0 : List Int} {b0 : Bool} {P : Prop} (h0 : BI list K s i0) (hb : (b0 = true ∧ mu i0 < mu o0) ∨ (b0 = false ∧ i0 = o0 ∧ P)) :
    Tot (iter (s_l7Times_L2 list (k : Int)) (b0, e.A, e.B, (0 : Int), i0)) fun r => BI list K s r.2 ∧ ((r.1 = true ∧ mu r.2 < mu o0) ∨ (r.1 = false ∧ r.2 = o0 ∧ P ∧ Rlx o0 e.A.toNat e.B.toNat e.Minutes ∧ Rlx o0 e.B.toNat e.A.toNat e.Minutes)) := by
  obtain ⟨g1, g2, g3, g4, g5⟩ := (hl.2 k e he).1
  have hem := List.mem_of_getElem? he
  refine Tot.iter (fun m s' => ∃ t : Nat, t ≤ 2 ∧ s'.2.2.2.1 = (t : Int) ∧ m + t = 2 ∧ BI list K s s'.2.2.2.2 ∧ (t = 0 → s'.2.1 = e.A ∧ s'.2.2.1 = e.B) ∧ (t = 1 → s'.2.1 = e.B ∧ s'.2.2.1 = e.A) ∧
    ((s'.1 = true ∧ mu s'.2.2.2.2 < mu o0) ∨ (s'.1 = false ∧ s'.2.2.2.2 = o0 ∧ P ∧ (1 ≤ t → Rlx o0 e.A.toNat e.B.toNat e.Minutes) ∧ (2 ≤ t → Rlx o0 e.B.toNat e.A.toNat e.Minutes)))) (n := 2)
    ⟨0, by omega, rfl, rfl, h0, fun _ => ⟨rfl, rfl⟩, fun h => by omega, hb.imp_right fun h => ⟨h.1, h.2.1, h.2.2, fun h => by omega, fun h => by omega⟩⟩ ?_
  rintro m ⟨b2, v, v1, v2, i4⟩ ⟨t, ht, hv2, hm, hB, hA0, hA1, hR⟩
  simp only at hv2 hB hA0 hA1 hR
  subst hv2
  unfold s_l7Times_L2
  refine .iteP (fun hc => ?_) (fun hc => .dn ⟨hB, ?_⟩)
  · -- from v to v1
    obtain ⟨a, b, hva, hvb, ha, hb', hedge⟩ : ∃ a b : Nat, v = a ∧ v1 = b ∧ a < K ∧ b < K ∧ Edge list a b e.Minutes := by
      have ht' : t = 0 ∨ t = 1 := by omega
      rcases ht' with ht' | ht'
      · obtain ⟨q1, q2⟩ := hA0 ht'
        exact ⟨e.A.toNat, e.B.toNat, by omega, by omega, by omega, by omega, e, hem, .inl ⟨by omega, by omega⟩, rfl⟩
      · obtain ⟨q1, q2⟩ := hA1 ht'
        exact ⟨e.B.toNat, e.A.toNat, by omega, by omega, by omega, by omega, e, hem, .inr ⟨by omega, by omega⟩, rfl⟩
    obtain ⟨x, hx⟩ := get_ex (l := i4) (i := a) (by rw [hB.1]; omega)
    obtain ⟨y, hy⟩ := get_ex (l := i4) (i := b) (by rw [hB.1]; omega)
    have gx := hB.2.1 a x hx
    have hnn := ninf_nonneg i4
    have ew : w64 (x + e.Minutes) = x + e.Minutes := w64_id (by omega)
    subst hva; subst hvb
    refine .call (P := fun r => BI list K s r.2 ∧ ((r.1 = true ∧ mu r.2 < mu o0) ∨ (r.1 = false ∧ r.2 = o0 ∧ P ∧ (1 ≤ t → Rlx o0 e.A.toNat e.B.toNat e.Minutes) ∧ (2 ≤ t → Rlx o0 e.B.toNat e.A.toNat e.Minutes) ∧ Rlx o0 a b e.Minutes))) ?_ fun ⟨b3, i5⟩ ⟨r1, r2⟩ => ?_
    · refine .eq (ixs hx) ?_
      refine .call (P := fun c => c = decide (0 ≤ x ∧ (y < 0 ∨ x + e.Minutes < y))) (.iteP (fun h1 => .eq (ixs hy) (.iteP (fun h2 => .ok (by simp [h1, h2])) (fun h2 => .eq (ixs hx) (.eq (ixs he) (.eq (ixs hy) (.ok (by rw [ew]; simp [h1, h2]))))))) (fun h1 => .ok (by simp [h1]))) fun c hcc => ?_
      subst hcc
      refine .iteP (fun h1 => .eq (ixs hx) (.eq (ixs he) (.eq (ixs hy) ?_))) (fun h1 => .ok ⟨hB, ?_⟩)
      · obtain ⟨p1, p2, p3, p4⟩ := hB.put hl hedge hx hy h1.1 h1.2
        rw [ew, Int.toNat_natCast]
        refine .ok ⟨p1, .inl ⟨rfl, ?_⟩⟩
        rcases hR with hR | hR
        · have := hR.2; dsimp only; omega
        · rw [← hR.2.1]; exact p2
      · refine hR.imp_right fun hR => ⟨hR.1, hR.2.1, hR.2.2.1, hR.2.2.2.1, hR.2.2.2.2, fun x' y' hx' hy' h => ?_⟩
        rw [← hR.2.1] at hx' hy'
        rw [hx] at hx'; rw [hy] at hy'
        cases hx'; cases hy'
        omega
    · refine .eq (ixs he) (.eq (ixs he) (.nx ⟨m - 1, by omega, t + 1, by omega, w64_succ (by omega), by omega, r1, fun h => by omega, fun _ => ⟨rfl, rfl⟩, ?_⟩))
      refine r2.imp_right fun r2 => ⟨r2.1, r2.2.1, r2.2.2.1, fun _ => ?_, fun h2 => ?_⟩
      · by_cases ht0 : t = 0
        · obtain ⟨q1, q2⟩ := hA0 ht0
          have := r2.2.2.2.2.2
          rwa [← q1, ← q2, Int.toNat_natCast, Int.toNat_natCast]
        · exact r2.2.2.2.1 (by omega)
      · obtain ⟨q1, q2⟩ := hA1 (by omega)
        have := r2.2.2.2.2.2
        rwa [← q1, ← q2, Int.toNat_natCast, Int.toNat_natCast]
  · have ht2 : t = 2 := by omega
    exact hR.imp_right fun hR => ⟨hR.1, hR.2.1, hR.2.2.1, hR.2.2.2.1 (by omega), hR.2.2.2.2 (by omega)⟩
def RlxTo (list : List Walk) (o : List Int) (k : Nat) : Prop := ∀ i e, i < k → list[i]? = some e → Rlx o e.A.toNat e.B.toNat e.Minutes ∧ Rlx o e.B.toNat e.A.toNat e.Minutes
theorem bf3_ok {list : List Walk} {K s : Nat} (hl : WalksP K list) {o0 : List Int} (h0 : BI list K s o0) :
    Tot (iter (s_l7Times_L3 list) (false, (0 : Int), o0)) fun r => BI list K s r.2 ∧ ((r.1 = true ∧ mu r.2 < mu o0) ∨ (r.1 = false ∧ r.2 = o0 ∧ RlxTo list o0 list.length)) := by
  have h12 := hl.1
  refine Tot.iter (fun m s' => ∃ k : Nat, s'.2.1 = (k : Int) ∧ m + k = list.length ∧ BI list K s s'.2.2 ∧ ((s'.1 = true ∧ mu s'.2.2 < mu o0) ∨ (s'.1 = false ∧ s'.2.2 = o0 ∧ RlxTo list o0 k))) (n := list.length) ⟨0, rfl, by omega, h0, .inr ⟨rfl, rfl, fun i e hi => by omega⟩⟩ ?_
  rintro m ⟨b1, v, i3⟩ ⟨k, hv, hm, hB, hR⟩
  simp only at hv hB hR
  subst hv
  unfold s_l7Times_L3
  refine .iteP (fun hc => ?_) (fun hc => .dn ⟨hB, hR.imp_right fun h => by rwa [show list.length = k by omega]⟩)
  obtain ⟨e, he⟩ := get_ex (l := list) (i := k) (by omega)
  refine .eq (ixs he) (.eq (ixs he) (.call (bf2_ok hl he hB hR) fun ⟨b4, i6⟩ ⟨r1, r2⟩ => .nx ⟨m - 1, by omega, k + 1, w64_succ (by omega), by omega, r1, ?_⟩))
  refine r2.imp_right fun r2 => ⟨r2.1, r2.2.1, fun i e' hi he' => ?_⟩
  by_cases hik : i = k
  · subst hik; rw [he] at he'; cases he'; exact r2.2.2.2
  · exact r2.2.2.1 i e' (by omega) he'
theorem l7Times_ok {K : Nat} (hK : 2 ≤ K ∧ K ≤ 8) {list : List Walk} (hl : WalksP K list) {s : Nat} (hs : s < K) : Tot (s_l7Times (K : Int) list (s : Int)) fun r => r.length = K ∧ ∀ (b : Nat) x, r[b]? = some x → IsDist list s b x := by
  unfold s_l7Times
  refine .call (P := fun r => r = List.replicate K (-1 : Int)) ?_ fun r hr => ?_
  · refine Tot.iter (fun m s' => ∃ k : Nat, s'.1 = (k : Int) ∧ m + k = K ∧ s'.2 = List.replicate k (-1 : Int)) (n := K) ⟨0, rfl, by omega, rfl⟩ ?_
    rintro m ⟨v, o⟩ ⟨k, hv, hm, ho⟩
    simp only at hv ho
    subst hv; subst ho
    unfold s_l7Times_L1
    refine .iteP (fun hc => .chk (by simp; omega) (.nx ⟨m - 1, by omega, k + 1, w64_succ (by omega), by omega, ?_⟩)) (fun hc => .dn (by rw [show k = K by omega]))
    show List.replicate k (-1 : Int) ++ [-1] = _
    rw [List.replicate_succ']
  · subst hr
    have hsr : (List.replicate K (-1 : Int))[s]? = some (-1) := by rw [List.getElem?_replicate, if_pos hs]
    have hn := sum_set nI 0 hsr
    have hrep : ((List.replicate K (-1 : Int)).map nI).sum = (K : Int) := by
      rw [List.map_replicate]
      show (List.replicate K (1 : Int)).sum = _
      generalize K = q
      induction q with
      | zero => rfl
      | succ q ih => rw [List.replicate_succ, List.sum_cons, ih]; omega
    have hni : ninf ((List.replicate K (-1 : Int)).set s 0) = (K : Int) - 1 := by
      unfold ninf; rw [hn, hrep]
      have e1 : nI (-1) = 1 := rfl
      have e2 : nI 0 = 0 := rfl
      omega
    have hB : BI list K s ((List.replicate K (-1 : Int)).set s 0) := by
      refine ⟨by simp, fun b x hx => ?_, List.getElem?_set_self (by simpa using hs)⟩
      rw [hni]
      by_cases hbs : b = s
      · subst hbs
        rw [List.getElem?_set_self (by simpa using hs)] at hx; cases hx
        exact ⟨by omega, by omega, fun _ => .refl b⟩
      · rw [List.getElem?_set_ne (Ne.symm hbs), List.getElem?_replicate] at hx
        split at hx
        · cases hx; exact ⟨by omega, by omega, fun h => by omega⟩
        · cases hx
    refine .eq (ixs hsr) ?_
    rw [Int.toNat_natCast]
    refine .call (P := fun o => BI list K s o ∧ RlxTo list o list.length) ?_ fun o ⟨h1, h2⟩ => .ok ⟨h1.1, fun b x hx => ?_⟩
    · refine Tot.iter (fun m s' => BI list K s s'.2 ∧ (s'.1 = false → RlxTo list s'.2 list.length) ∧ (2 * (mu s'.2).toNat + if s'.1 = true then 1 else 0) = m) (n := 2 * (mu ((List.replicate K (-1 : Int)).set s 0)).toNat + 1) ⟨hB, fun h => (by cases h), rfl⟩ ?_
      rintro m ⟨b, o⟩ ⟨h1, h2, h3⟩
      simp only at h1 h2 h3
      unfold s_l7Times_L4
      refine .ite (fun hb => .call (bf3_ok hl h1) fun ⟨b5, i7⟩ ⟨r1, r2⟩ => .nx ⟨2 * (mu i7).toNat + (if b5 = true then 1 else 0), ?_, r1, fun hf => ?_, rfl⟩) (fun hb => .dn ⟨h1, h2 hb⟩)
      · have n1 := mu_nonneg i7
        have n2 := mu_nonneg o
        rw [hb, if_pos rfl] at h3
        rcases r2 with ⟨q1, q2⟩ | ⟨q1, q2, q3⟩
        · simp only at q1 q2; rw [if_pos q1]; omega
        · simp only at q1 q2; rw [q1, q2]; simp; omega
      · rcases r2 with ⟨q1, q2⟩ | ⟨q1, q2, q3⟩
        · simp only at q1 hf; rw [q1] at hf; cases hf
        · simp only at q2 ⊢; rw [q2]; exact q3
    · have hb := h1.2.1 b x hx
      refine ⟨hb.1, hb.2.2, fun L hL => ?_⟩
      have key := hL (fun y z l => y = s → ∃ w, o[z]? = some w ∧ 0 ≤ w ∧ w ≤ l) (fun y hy => by subst hy; exact ⟨0, h1.2.2, by omega, by omega⟩) (fun y z u l w ih he hy => by
        obtain ⟨q, hq, q1, q2⟩ := ih hy
        have hr := he.rng hl
        obtain ⟨p, hp⟩ := get_ex (l := o) (i := u) (by rw [h1.1]; omega)
        obtain ⟨e, m1, m2, m3⟩ := he
        obtain ⟨i, hi⟩ := List.getElem?_of_mem m1
        obtain ⟨r1, r2⟩ := h2 i e (get_lt hi) hi
        have : 0 ≤ p ∧ p ≤ q + e.Minutes := by
          rcases m2 with ⟨ha, hb⟩ | ⟨ha, hb⟩
          · rw [ha, hb, Int.toNat_natCast, Int.toNat_natCast] at r1
            exact r1 q p hq hp q1
          · rw [ha, hb, Int.toNat_natCast, Int.toNat_natCast] at r2
            exact r2 q p hq hp q1
        exact ⟨p, hp, this.1, by omega⟩)
      obtain ⟨w, hw, k1, k2⟩ := key rfl
      rw [hx] at hw; cases hw
      exact ⟨k1, k2⟩
/-- A row of the table is what the reference reckons. -/
theorem walk_rows {n : Network} (hn : 2 ≤ n.Stops.length ∧ n.Stops.length ≤ 8) {list : List Walk} (hl : WalksP n.Stops.length list) :
    ∃ T, i_walkTable n list = some T ∧ Sq n.Stops.length T ∧ (∀ a b, a < n.Stops.length → b < n.Stops.length → IsDist list a b (tat T a b)) ∧ ∀ s : Nat, s < n.Stops.length → ∃ r, T[s]? = some r ∧ r.length = n.Stops.length ∧ (∀ j, j < n.Stops.length → r[j]? = some (tat T s j)) ∧ (∀ x ∈ r, -1 ≤ x ∧ x ≤ 40000) ∧ s_l7Times (n.Stops.length : Int) list (s : Int) = some r := by
  obtain ⟨T, h1, h2, h3⟩ := walkTable_ok hn hl
  refine ⟨T, h1, h2, fun a b ha hb => (h3 a b ha hb).1, fun s hs => ?_⟩
  obtain ⟨r, hr, hrl, hr2⟩ := sq_row h2 hs
  obtain ⟨q, hq, hql, hq2⟩ := l7Times_ok hn hl hs
  refine ⟨r, hr, hrl, hr2, fun x hx => ?_, ?_⟩
  · obtain ⟨j, hj⟩ := List.getElem?_of_mem hx
    have hjl := get_lt hj
    have hx2 := hr2 j (by omega)
    rw [hj] at hx2; cases hx2
    exact ⟨(h3 s j hs (by omega)).1.1, (h3 s j hs (by omega)).2⟩
  rw [hq]
  congr 1
  apply List.ext_getElem?
  intro j
  by_cases hj : j < n.Stops.length
  · obtain ⟨x, hx⟩ := get_ex (l := q) (i := j) (by omega)
    rw [hr2 j hj, hx, (hq2 j x hx).uniq (h3 s j hs hj).1]
  · rw [List.getElem?_eq_none (by omega), List.getElem?_eq_none (by omega)]
/-! Walks: draws; walking times. -/
theorem walks_ok {k : Nat} {c : l1Cur} {n : Network} (h : Cur k c) (hk : k ≤ 100000000) (hn : n.Stops.length ≤ 1000) : Tot (s_l1Cur_walks c n) fun r => Cur (k + 5000000) r.2 ∧ r.1.length ≤ 13 := by
  unfold s_l1Cur_walks
  refine .call (P := fun o => Cur (k + 4001000) ⟨o.1, o.2.1, ⟨o.2.2.1⟩⟩ ∧ o.2.2.2.length ≤ 12) ?_ fun ⟨v15, v16, v17, b4⟩ ⟨hc, hb⟩ => ?_
  · refine Tot.iter (fun m s => ∃ i : Nat, s.1 = (i : Int) ∧ m + i = n.Stops.length ∧ Cur (k + 4001 * i) ⟨s.2.1, s.2.2.1, ⟨s.2.2.2.1⟩⟩ ∧ s.2.2.2.2.length ≤ 12) (n := n.Stops.length) ⟨0, rfl, by omega, h, by simp⟩ ?_
    rintro m ⟨v, v1, v2, v3, b⟩ ⟨i, hv, hm, hc, hb⟩
    simp only at hv hc hb
    subst hv
    unfold s_l1Cur_walks_L2
    refine .iteP (fun hi => ?_) (fun hi => .dn ⟨hc.mono (by omega), hb⟩)
    refine .call (P := fun o => Cur (k + 4001 * (i + 1)) ⟨o.1, o.2.1, ⟨o.2.2.1⟩⟩ ∧ o.2.2.2.length ≤ 12) ?_ fun ⟨w1, w2, w3, b3⟩ ⟨q1, q2⟩ => .nx ⟨m - 1, by omega, i + 1, w64_succ (by omega), by omega, q1, q2⟩
    refine Tot.iter (fun q s => ∃ j : Nat, s.1 = (j : Int) ∧ q + j = n.Stops.length ∧ Cur (k + 4001 * i + 4 * j) ⟨s.2.1, s.2.2.1, ⟨s.2.2.2.1⟩⟩ ∧ s.2.2.2.2.length ≤ 12) (n := n.Stops.length - (i + 1)) ⟨i + 1, w64_succ (by omega), by omega, hc.mono (by omega), hb⟩ ?_
    rintro q ⟨w, w1, w2, w3, b1⟩ ⟨j, hw, hq, hc1, hb1⟩
    simp only at hw hc1 hb1
    subst hw
    unfold s_l1Cur_walks_L1
    refine .iteP (fun hj => ?_) (fun hj => .dn ⟨hc1.mono (by omega), hb1⟩)
    refine .call (P := fun o => Cur (k + 4001 * i + 4 * (j + 1)) ⟨o.1, o.2.1, ⟨o.2.2.1⟩⟩ ∧ o.2.2.2.length ≤ 12) ?_ fun ⟨u1, u2, u3, u4⟩ ⟨p1, p2⟩ => .nx ⟨q - 1, by omega, j + 1, w64_succ (by omega), by omega, p1, p2⟩
    refine .call (t_one 3 hc1 (by omega)) fun r hr => ?_
    refine .call (P := fun b => b = true → b1.length < 12) (.ite (fun _ => .ok fun h => by have := of_decide_eq_true h; omega) (fun _ => .ok fun h => by cases h)) fun b hb2 => ?_
    exact .ite (fun ht => .call (t_amongw _ (by simp) hr (by omega)) fun r1 ⟨hr1, _⟩ => .chk (by have := hb2 ht; simp; omega) (.ok ⟨hr1.mono (by omega), by have := hb2 ht; simp; omega⟩)) (fun _ => .ok ⟨hr.mono (by omega), hb1⟩)
  · dsimp only at hc hb
    refine .call (P := fun o => Cur (k + 5000000) ⟨o.1, o.2.1, ⟨o.2.2.1⟩⟩ ∧ o.2.2.2.length ≤ 13) ?_ fun ⟨u1, u2, u3, u4⟩ ⟨p1, p2⟩ => .ok ⟨p1, p2⟩
    refine .call (t_pick 40 hc (by omega)) fun r2 ⟨hr2, _⟩ => ?_
    refine .ite (fun _ => .call (t_amongw _ (by simp) hr2 (by omega)) fun r3 ⟨hr3, _⟩ => .chk (by simp; omega) (.ok ⟨hr3.mono (by omega), by simp; omega⟩)) fun _ => ?_
    exact .ite (fun _ => .call (t_amongw _ (by simp) hr2 (by omega)) fun r3 ⟨hr3, _⟩ => .chk (by simp; omega) (.ok ⟨hr3.mono (by omega), by simp; omega⟩)) fun _ => .ok ⟨hr2.mono (by omega), by dsimp only; omega⟩
/-- The walking times from a stop. -/
theorem WalkingTimes_eq {n : Network} (hb : Bd n) (list : List Walk) (s : Int) : (Good n ∧ WalksP n.Stops.length list ∧ 0 ≤ s ∧ s < (n.Stops.length : Int) ∧ ∃ T r, i_walkTable n list = some T ∧ T[s.toNat]? = some r ∧ i_WalkingTimes n list s = some (r, true)) ∨ (¬ (Good n ∧ WalksP n.Stops.length list ∧ 0 ≤ s ∧ s < (n.Stops.length : Int)) ∧ i_WalkingTimes n list s = some ([], false)) := by
  unfold i_WalkingTimes
  simp only [validW_eq hb, isStop_eq, Option.bind_some]
  by_cases h1 : Good n ∧ WalksP n.Stops.length list
  · by_cases h2 : 0 ≤ s ∧ s < (n.Stops.length : Int)
    · left
      obtain ⟨T, t1, t2, t3, t4⟩ := walk_rows h1.1.1 h1.2
      obtain ⟨r, r1, _⟩ := t4 s.toNat (by omega)
      refine ⟨h1.1, h1.2, h2.1, h2.2, T, r, t1, r1, ?_⟩
      simp only [h1, h2, and_self, decide_true, Bool.not_true, Bool.false_eq_true, if_false, Option.bind_some, t1, idx_of h2.1 r1]
    · right
      refine ⟨fun h => h2 ⟨h.2.2.1, h.2.2.2⟩, ?_⟩
      simp only [h1, h2, and_self, decide_true, decide_false, Bool.not_true, Bool.not_false, Bool.false_eq_true, if_false, if_true, Option.bind_some]
  · right
    refine ⟨fun h => h1 ⟨h.1, h.2.1⟩, ?_⟩
    simp only [h1, decide_false, Bool.not_false, if_true, Option.bind_some]
/-! Lists held against themselves (the second half's helpers). -/
theorem rInts_refl (a : List Int) (h : a.length ≤ 100000) : v_rInts a a = some true := by
  unfold v_rInts
  simp only [bne_self_eq_false, Bool.false_eq_true, if_false]
  rw [all_val (hd := Classical.propDecidable _) a (fun _ _ => True) (fun i x hx => ?_) (by unfold v_rInts_L1; simp)]
  · rw [if_pos (fun _ _ _ => trivial)]
  · have hi := get_lt hx
    unfold v_rInts_L1
    have hlt : decide ((i : Int) < (a.length : Int)) = true := by simp; omega
    left
    simp only [hlt, if_true, idx_nat, hx, Option.bind_some, bne_self_eq_false, Bool.false_eq_true, if_false, w64_succ (n := i) (by omega), and_self]
theorem l1Has_eq (l : List Int) (hl : l.length ≤ 100000) (x : Int) : s_l1Has l x = some (decide (x ∈ l)) := by
  unfold s_l1Has
  rw [find_loop l (fun e => e == x) (fun _ => true) (fun i y hy => ?_) (by unfold s_l1Has_L1; simp)]
  · by_cases h : x ∈ l
    · have : l.findIdx? (fun e => e == x) ≠ none := fun hn => by
        have := List.findIdx?_eq_none_iff.1 hn x h
        simp at this
      cases hf : l.findIdx? (fun e => e == x) with
      | none => exact absurd hf this
      | some i => simp [h]
    · have : l.findIdx? (fun e => e == x) = none := List.findIdx?_eq_none_iff.2 fun y hy => by
        simp only [beq_eq_false_iff_ne, ne_eq]
        intro e; subst e; exact h hy
      rw [this]; simp [h]
  · have hi := get_lt hy
    unfold s_l1Has_L1
    have hlt : decide ((i : Int) < (l.length : Int)) = true := by simp; omega
    simp only [hlt, if_true, idx_nat, hy, Option.bind_some, w64_succ (n := i) (by omega)]
    split <;> rfl
/-! Shortest walks: the fewest stops; the first such way. -/
/-- A walk that is part of a shortest way to the goal. -/
def On (list : List Walk) (D : Nat → Int) (a b : Nat) : Prop := ∃ w, Edge list a b w ∧ 0 ≤ D b ∧ w + D b = D a
noncomputable instance (list : List Walk) (D : Nat → Int) (a b : Nat) : Decidable (On list D a b) := Classical.propDecidable _
def Wn (list : List Walk) (D : Nat → Int) (g : Nat) : Nat → Nat → Prop
  | 0, a => a = g
  | k + 1, a => ∃ b, On list D a b ∧ Wn list D g k b
/-- There is a way to the goal with a number of walks and of minutes. -/
def PT (list : List Walk) (g : Nat) : Nat → Nat → Int → Prop
  | 0, a, m => a = g ∧ m = 0
  | k + 1, a, m => ∃ b w, Edge list a b w ∧ PT list g k b (m - w)
/-- Distances to a goal. -/
structure Dst (list : List Walk) (K g : Nat) (D : Nat → Int) : Prop where
  wl : WalksP K list
  gK : g < K
  g0 : D g = 0
  ge : ∀ a b w, Edge list a b w → 0 ≤ D b → 0 ≤ D a ∧ D a ≤ w + D b
theorem dst_of {list : List Walk} {K g : Nat} {f : Nat → Nat → Int} (hl : WalksP K list) (hg : g < K) (h : ∀ a b, a < K → b < K → IsDist list a b (f a b)) : Dst list K g fun a => f a g := by
  refine ⟨hl, hg, IsDist.self hl (h g g hg hg), fun a b w he hb => ?_⟩
  have hr := he.rng hl
  have h1 := (h b g hr.2.1 hg).2.1 hb
  have h2 := (h a g hr.1 hg).2.2 _ ((Way.one he).trans h1)
  exact h2
section
variable {list : List Walk} {K g : Nat} {D : Nat → Int} (hd : Dst list K g D)
include hd
theorem PT.dist : ∀ {k a : Nat} {m : Int}, PT list g k a m → 0 ≤ D a ∧ D a ≤ m
  | 0, a, m, h => by obtain ⟨rfl, rfl⟩ := h; rw [hd.g0]; omega
  | k + 1, a, m, ⟨b, w, he, hp⟩ => by
    have h1 := PT.dist hp
    have h2 := hd.ge a b w he h1.1
    omega
theorem PT.wn : ∀ {k a : Nat}, PT list g k a (D a) → Wn list D g k a
  | 0, a, h => h.1
  | k + 1, a, ⟨b, w, he, hp⟩ => by
    have h1 := PT.dist hd hp
    have h2 := hd.ge a b w he h1.1
    have e : D a - w = D b := by omega
    rw [e] at hp
    exact ⟨b, ⟨w, he, h1.1, by omega⟩, PT.wn hp⟩
theorem Wn.lt : ∀ {k a : Nat}, Wn list D g k a → a < K ∧ 0 ≤ D a
  | 0, a, h => by
    have h : a = g := h
    subst h; exact ⟨hd.gK, by rw [hd.g0]; omega⟩
  | k + 1, a, ⟨b, ⟨w, he, h0, h1⟩, _⟩ => ⟨(he.rng hd.wl).1, by have := (he.rng hd.wl).2.2.2.1; omega⟩
theorem Wn.le : ∀ {k a : Nat}, Wn list D g k a → (k : Int) ≤ D a
  | 0, a, h => by
    have h : a = g := h
    subst h; rw [hd.g0]; omega
  | k + 1, a, ⟨b, ⟨w, he, h0, h1⟩, hk⟩ => by
    have := Wn.le hk
    have := (he.rng hd.wl).2.2.2.1
    omega
/-- Where there is a way at all, one of shortest walks leads to the goal. -/
theorem on_ex (hD : ∀ a, 0 ≤ D a → Way list a g (D a)) {a : Nat} (h0 : 0 ≤ D a) (hag : a ≠ g) : ∃ b, On list D a b := by
  have hw := (hD a h0).symm
  have : ∀ {x y : Nat} {l : Int}, Way list x y l → x = g → 0 ≤ l ∧ (y = g ∨ ∃ z w, Edge list y z w ∧ 0 ≤ D z ∧ w + D z ≤ l) ∧ (0 ≤ D y) := fun {x y l} hw => by
    refine hw (fun x y l => x = g → 0 ≤ l ∧ (y = g ∨ ∃ z w, Edge list y z w ∧ 0 ≤ D z ∧ w + D z ≤ l) ∧ (0 ≤ D y)) (fun x hx => ⟨by omega, .inl hx, by rw [hx, hd.g0]; omega⟩) fun x y z l w ih he hx => ?_
    obtain ⟨h1, h2, h3⟩ := ih hx
    have hr := he.rng hd.wl
    have hz := hd.ge z y w he.symm h3
    refine ⟨by omega, .inr ⟨y, w, he.symm, h3, ?_⟩, hz.1⟩
    rcases h2 with rfl | ⟨u, v, q1, q2, q3⟩
    · rw [hd.g0]; omega
    · have := hd.ge y u v q1 q2; omega
  obtain ⟨h1, h2, h3⟩ := this hw rfl
  rcases h2 with h2 | ⟨z, w, q1, q2, q3⟩
  · exact absurd h2 hag
  · have := hd.ge a z w q1 q2
    exact ⟨z, w, q1, q2, by omega⟩
theorem wn_ex (hD : ∀ a, 0 ≤ D a → Way list a g (D a)) : ∀ (n : Nat) {a : Nat}, D a ≤ n → 0 ≤ D a → ∃ k, Wn list D g k a
  | 0, a, hn, h0 => by
    by_cases hag : a = g
    · exact ⟨0, hag⟩
    · obtain ⟨b, w, he, h1, h2⟩ := on_ex hd hD h0 hag
      have := (he.rng hd.wl).2.2.2.1
      omega
  | n + 1, a, hn, h0 => by
    by_cases hag : a = g
    · exact ⟨0, hag⟩
    · obtain ⟨b, w, he, h1, h2⟩ := on_ex hd hD h0 hag
      have := (he.rng hd.wl).2.2.2.1
      obtain ⟨k, hk⟩ := wn_ex hD n (a := b) (by omega) h1
      exact ⟨k + 1, b, ⟨w, he, h1, h2⟩, hk⟩
end
/-- The numbers of walks to the goal. -/
structure Stp (list : List Walk) (D : Nat → Int) (g : Nat) (S : Nat → Int) : Prop where
  wn : ∀ a, 0 ≤ S a → Wn list D g (S a).toNat a
  le : ∀ k a, Wn list D g k a → 0 ≤ S a ∧ S a ≤ k
def nxP (list : List Walk) (D S : Nat → Int) (a b : Nat) : Prop := S b = S a - 1 ∧ On list D a b
noncomputable instance (list : List Walk) (D S : Nat → Int) (a b : Nat) : Decidable (nxP list D S a b) := Classical.propDecidable _
noncomputable def nxt (list : List Walk) (K : Nat) (D S : Nat → Int) (a : Nat) : Nat := ((List.range K).find? fun b => decide (nxP list D S a b)).getD 0
noncomputable def gpath (list : List Walk) (K : Nat) (D S : Nat → Int) : Nat → Nat → List Int
  | 0, _ => []
  | k + 1, a => (nxt list K D S a : Int) :: gpath list K D S k (nxt list K D S a)
theorem nxt_of {list : List Walk} {K : Nat} {D S : Nat → Int} {a i : Nat} (hi : i < K) (h : nxP list D S a i) (hn : ∀ j, j < i → ¬ nxP list D S a j) : nxt list K D S a = i := by
  unfold nxt
  have e : (List.range K).find? (fun b => decide (nxP list D S a b)) = some i := by
    rw [List.find?_eq_some_iff_getElem]
    refine ⟨by simpa using h, i, by simpa using hi, by simp, fun j hj => ?_⟩
    simpa using hn j hj
  rw [e]; rfl
section
variable {list : List Walk} {K g : Nat} {D S : Nat → Int} (hd : Dst list K g D) (hs : Stp list D g S)
include hd hs
theorem stp_g : S g = 0 := by
  have h1 := hs.le 0 g rfl; have h2 := hd.gK
  omega
theorem stp_zero {a : Nat} (h : S a = 0) : a = g := by
  have this := hs.wn a (by omega); have h2 := hd.gK
  rw [h] at this; exact this
theorem nxt_ex {k a : Nat} (h : S a = ((k + 1 : Nat) : Int)) : ∃ b, b < K ∧ nxP list D S a b := by
  have h1 := hs.wn a (by omega)
  rw [show (S a).toNat = k + 1 by omega] at h1
  obtain ⟨b, hb, hk⟩ := h1
  have h2 := hs.le k b hk
  have h3 := hs.le ((S b).toNat + 1) a ⟨b, hb, hs.wn b h2.1⟩
  exact ⟨b, (Wn.lt hd hk).1, by omega, hb⟩
theorem nxt_ok {k a : Nat} (h : S a = ((k + 1 : Nat) : Int)) : nxt list K D S a < K ∧ nxP list D S a (nxt list K D S a) ∧ ∀ j, j < nxt list K D S a → ¬ nxP list D S a j := by
  obtain ⟨b, hb, hp⟩ := nxt_ex hd hs h
  unfold nxt
  cases hf : (List.range K).find? (fun b => decide (nxP list D S a b)) with
  | none =>
    have := List.find?_eq_none.1 hf b (by simpa using hb)
    simp at this; exact absurd hp this
  | some i =>
    rw [List.find?_eq_some_iff_getElem] at hf
    obtain ⟨h1, j, hj, h2, h3⟩ := hf
    simp at h2
    subst h2
    refine ⟨by simpa using hj, by simpa using h1, fun q hq => ?_⟩
    have := h3 q hq
    simpa using this
/-- Nothing ahead of the next stop leads to the goal. -/
theorem nxt_none {k a b : Nat} {w : Int} (h : S a = ((k + 1 : Nat) : Int)) (hb : b < nxt list K D S a) (he : Edge list a b w) : ¬ PT list g k b (D a - w) := by
  intro hp
  have h1 := PT.dist hd hp
  have h2 := hd.ge a b w he h1.1
  have e : D a - w = D b := by omega
  rw [e] at hp
  have hw := PT.wn hd hp
  have hon : On list D a b := ⟨w, he, h1.1, by omega⟩
  have h3 := hs.le k b hw
  have h4 := hs.le ((S b).toNat + 1) a ⟨b, hon, hs.wn b h3.1⟩
  exact (nxt_ok hd hs h).2.2 b hb ⟨by omega, hon⟩
theorem no_short {k a : Nat} (h : (k : Int) < S a) : ¬ PT list g k a (D a) := fun hp => by
  have := hs.le k a (PT.wn hd hp)
  omega
end
/-! Shortest walks: the minutes of a walk; the program's search. -/
def mt (a b : Nat) (e : Walk) : Prop := (e.A = (a : Int) ∧ e.B = (b : Int)) ∨ (e.A = (b : Int) ∧ e.B = (a : Int))
noncomputable instance (a b : Nat) (e : Walk) : Decidable (mt a b e) := Classical.propDecidable _
theorem no_edge {list : List Walk} {a b : Nat} (h : ∀ (j : Nat) e, list[j]? = some e → ¬ mt a b e) (w : Int) : ¬ Edge list a b w := by
  rintro ⟨e, h1, h2, h3⟩
  obtain ⟨j, hj⟩ := List.getElem?_of_mem h1
  exact h j e hj h2
theorem edge_uniq {K : Nat} {list : List Walk} (hl : WalksP K list) {a b : Nat} {v w : Int} (h : Edge list a b v) (h' : Edge list a b w) : v = w := by
  obtain ⟨e, h1, h2, h3⟩ := h
  obtain ⟨e', h1', h2', h3'⟩ := h'
  have w1 := walk_at hl h1
  have w2 := walk_at hl h1'
  obtain ⟨i, hi⟩ := List.getElem?_of_mem h1
  obtain ⟨j, hj⟩ := List.getElem?_of_mem h1'
  unfold WalkP at w1 w2
  have : i = j := by
    rcases Nat.lt_trichotomy i j with c | c | c
    · have := walk_lt hl c hi hj; unfold WLt at this; omega
    · exact c
    · have := walk_lt hl c hj hi; unfold WLt at this; omega
  subst this
  rw [hi] at hj; cases hj
  rw [← h3, ← h3']
theorem walkMin_ok {K : Nat} {list : List Walk} (hl : WalksP K list) (a b : Nat) : Tot (i_walkMinutes list (a : Int) (b : Int)) fun r => Edge list a b r ∨ (r = 0 ∧ ∀ w, ¬ Edge list a b w) := by
  have h12 := hl.1
  unfold i_walkMinutes
  refine .flb ((Tot.iter (fun m (v : Int) => ∃ k : Nat, v = (k : Int) ∧ m + k = list.length ∧ ∀ (j : Nat) e, j < k → list[j]? = some e → ¬ mt a b e) (Q := fun x => (∃ w, x = .ret w ∧ Edge list a b w) ∨ (x = .go () ∧ ∀ w, ¬ Edge list a b w)) (n := list.length) ⟨0, rfl, by omega, fun j e h => by omega⟩ ?_).mono fun x hx => ?_)
  · rintro m v ⟨k, rfl, hm, hn⟩
    unfold i_walkMinutes_L1
    refine .iteP (fun hc => ?_) (fun hc => .dn (.inr ⟨rfl, no_edge fun j e he => hn j e (by have := get_lt he; omega) he⟩))
    obtain ⟨e, he⟩ := get_ex (l := list) (i := k) (by omega)
    have hw := walk_at hl (List.mem_of_getElem? he)
    unfold WalkP at hw
    refine .eq (ixs he) (.call (P := fun c => c = decide (mt a b e)) (.ite (fun h => .ok ?_) (fun h => .ok ?_)) fun c hc2 => ?_)
    · have h := eq_of_beq h
      rw [Bool.eq_iff_iff, beq_iff_eq, decide_eq_true_iff]
      unfold mt
      split at h <;> split <;> omega
    · have h := ne_of_beq_false h
      refine (decide_eq_false fun hm => h ?_).symm
      unfold mt at hm
      split <;> omega
    · subst hc2
      exact .iteP (fun h => .dn (.inl ⟨_, rfl, e, List.mem_of_getElem? he, h, rfl⟩)) (fun h => .nx ⟨m - 1, by omega, k + 1, w64_succ (by omega), by omega, fun j e' hj he' => by
        by_cases hjk : j = k
        · subst hjk; rw [he] at he'; cases he'; exact h
        · exact hn j e' (by omega) he'⟩)
  · rcases hx with ⟨w, rfl, hw⟩ | ⟨rfl, hn⟩
    · exact ⟨fun r e => (by cases e; exact .inl hw), fun u e => by cases e⟩
    · exact ⟨fun r e => (by cases e), fun u _ => .ok (.inr ⟨rfl, hn⟩)⟩
/-- The table as it is for all pairs of stops. -/
structure WT (list : List Walk) (K : Nat) (T : List (List Int)) : Prop where
  wl : WalksP K list
  sq : Sq K T
  d : ∀ a b, a < K → b < K → IsDist list a b (tat T a b)
  bd : ∀ a b, a < K → b < K → tat T a b ≤ 40000
  K8 : 2 ≤ K ∧ K ≤ 8
theorem WT.row {list : List Walk} {K : Nat} {T : List (List Int)} (h : WT list K T) {a b : Nat} (ha : a < K) (hb : b < K) : ∃ r, idx T (a : Int) = some r ∧ idx r (b : Int) = some (tat T a b) := by
  obtain ⟨r, h1, _, h2⟩ := sq_row h.sq ha
  exact ⟨r, ixs h1, ixs (h2 b hb)⟩
theorem WT.dst {list : List Walk} {K : Nat} {T : List (List Int)} (h : WT list K T) {g : Nat} (hg : g < K) : Dst list K g fun a => tat T a g := dst_of h.wl hg h.d
theorem onward_eq {list : List Walk} {K : Nat} {T : List (List Int)} (h : WT list K T) {g a b : Nat} (hg : g < K) (ha : a < K) (hb : b < K) : i_ShortestWalk_1 (a : Int) (b : Int) list T (g : Int) = some (decide (On list (fun x => tat T x g) a b)) := by
  unfold i_ShortestWalk_1
  obtain ⟨rb, b1, b2⟩ := h.row hb hg
  obtain ⟨ra, a1, a2⟩ := h.row ha hg
  refine Tot.val (.call (walkMin_ok h.wl a b) fun r hr => .call (P := fun v => v = decide (On list (fun x => tat T x g) a b)) ?_ fun v hv => .ok hv)
  have hbd := h.bd b g hb hg
  refine .iteP (fun h0 => .eq b1 (.eq b2 (.iteP (fun h1 => .eq b1 (.eq b2 (.eq a1 (.eq a2 (.ok ?_))))) (fun h1 => .ok ?_)))) (fun h0 => .ok ?_)
  · rcases hr with hr | ⟨hr, _⟩
    · have hrr := hr.rng h.wl
      rw [w64_id (by omega), Bool.eq_iff_iff, beq_iff_eq, decide_eq_true_iff]
      constructor
      · intro e; exact ⟨r, hr, h1, e⟩
      · rintro ⟨w, q1, _, q2⟩
        rw [edge_uniq h.wl hr q1]; exact q2
    · omega
  · exact (decide_eq_false fun hc => h1 hc.choose_spec.2.1).symm
  · refine (decide_eq_false ?_).symm
    rintro ⟨w, q1, q2, q3⟩
    rcases hr with hr | ⟨_, hr⟩
    · have := hr.rng h.wl; omega
    · exact hr w q1
def sat (l : List Int) (a : Nat) : Int := l.getD a (-1)
theorem sat_at {l : List Int} {a : Nat} (h : a < l.length) : l[a]? = some (sat l a) := by
  obtain ⟨x, hx⟩ := get_ex h
  unfold sat
  rw [List.getD_eq_getElem?_getD, hx]; rfl
theorem sat_out {l : List Int} {a : Nat} (h : ¬ a < l.length) : sat l a = -1 := by
  unfold sat
  rw [List.getD_eq_getElem?_getD, List.getElem?_eq_none (by omega)]; rfl
theorem sat_set {l : List Int} {i : Nat} {x : Int} (h : i < l.length) (a : Nat) : sat (l.set i x) a = if a = i then x else sat l a := by
  unfold sat
  rw [List.getD_eq_getElem?_getD, List.getD_eq_getElem?_getD]
  by_cases c : a = i
  · subst c; rw [List.getElem?_set_self h, if_pos rfl]; rfl
  · rw [List.getElem?_set_ne (fun e => c e.symm), if_neg c]
theorem ninf_le (l : List Int) : ninf l ≤ (l.length : Int) := by
  unfold ninf
  have := (sum_le (l := l.map nI) (M := 1) fun x hx => by
    obtain ⟨y, _, rfl⟩ := List.mem_map.1 hx
    unfold nI; split <;> omega).2
  rw [List.length_map] at this; omega
/-- The search: what has been reached, what waits. -/
structure QI (list : List Walk) (D : Nat → Int) (g K : Nat) (out : List Int) (q : List Nat) : Prop where
  len : out.length = K
  wn : ∀ a, 0 ≤ sat out a → Wn list D g (sat out a).toNat a
  q0 : ∀ a ∈ q, 0 ≤ sat out a
  srt : q.Pairwise fun a b => sat out a ≤ sat out b
  dn : ∀ a, 0 ≤ sat out a → a ∈ q ∨ ∀ c, On list D c a → 0 ≤ sat out c ∧ sat out c ≤ sat out a + 1
  gz : sat out g = 0
  lo : ∀ a, -1 ≤ sat out a
theorem QI.put {list : List Walk} {D : Nat → Int} {g K : Nat} {out : List Int} {h : Nat} {r : List Nat} (H : QI list D g K out (h :: r)) (hm : ∀ a, sat out a ≤ sat out h + 1) {i : Nat} (hi : i < K) (hn : sat out i < 0) (ho : On list D i h) :
    QI list D g K (out.set i (sat out h + 1)) (h :: (r ++ [i])) ∧ (∀ a, sat (out.set i (sat out h + 1)) a ≤ sat (out.set i (sat out h + 1)) h + 1) ∧ (∀ c, 0 ≤ sat out c → sat (out.set i (sat out h + 1)) c = sat out c) ∧ sat (out.set i (sat out h + 1)) i = sat out h + 1 := by
  have hil : i < out.length := by rw [H.len]; exact hi
  have hs := sat_set (x := sat out h + 1) hil
  have hh := H.q0 h (List.mem_cons_self ..)
  have hkeep : ∀ c, 0 ≤ sat out c → sat (out.set i (sat out h + 1)) c = sat out c := fun c hc => by
    rw [hs c, if_neg (by rintro rfl; omega)]
  have hie : sat (out.set i (sat out h + 1)) i = sat out h + 1 := by rw [hs i, if_pos rfl]
  have hmem : ∀ a, a ∈ h :: (r ++ [i]) ↔ a ∈ h :: r ∨ a = i := fun a => by simp [or_assoc]
  refine ⟨⟨by rw [List.length_set]; exact H.len, fun a ha => ?_, fun a ha => ?_, ?_, fun a ha => ?_, ?_, fun a => ?_⟩, fun a => ?_, hkeep, hie⟩
  · by_cases c : a = i
    · subst c
      rw [hie, show (sat out h + 1).toNat = (sat out h).toNat + 1 by omega]
      exact ⟨h, ho, H.wn h hh⟩
    · rw [hs a, if_neg c] at ha ⊢
      exact H.wn a ha
  · rcases (hmem a).1 ha with ha | rfl
    · rw [hkeep a (H.q0 a ha)]; exact H.q0 a ha
    · rw [hie]; omega
  · have e : h :: (r ++ [i]) = (h :: r) ++ [i] := rfl
    rw [e, List.pairwise_append]
    refine ⟨H.srt.imp_of_mem fun {a b} ha hb hab => by rw [hkeep a (H.q0 a ha), hkeep b (H.q0 b hb)]; exact hab, by simp, fun a ha b hb => ?_⟩
    have hb : b = i := by simpa using hb
    subst hb
    rw [hkeep a (H.q0 a ha), hie]; exact hm a
  · by_cases c : a = i
    · exact .inl ((hmem a).2 (.inr c))
    · rw [hs a, if_neg c] at ha ⊢
      rcases H.dn a ha with h1 | h1
      · exact .inl ((hmem a).2 (.inl h1))
      · refine .inr fun c hc => ?_
        have := h1 c hc
        rw [hkeep c this.1]; exact this
  · rw [hkeep g (by rw [H.gz]; omega)]; exact H.gz
  · rw [hs a]; split
    · omega
    · exact H.lo a
  · rw [hkeep h hh, hs a]
    split
    · omega
    · exact hm a
/-- All that can be reached is reached, in the fewest steps. -/
theorem QI.stp {list : List Walk} {D : Nat → Int} {g K : Nat} {out : List Int} (H : QI list D g K out []) : Stp list D g (sat out) := by
  refine ⟨H.wn, fun k => ?_⟩
  induction k with
  | zero =>
    intro a ha
    have ha : a = g := ha
    subst ha; rw [H.gz]; omega
  | succ k ih =>
    rintro a ⟨b, hb, hk⟩
    have h1 := ih b hk
    rcases H.dn b h1.1 with h2 | h2
    · cases h2
    · have := h2 a hb; omega
theorem bfs1_ok (n : Network) (hK : n.Stops.length ≤ 1000) : Tot (iter (i_ShortestWalk_L1 n) ((0 : Int), List.replicate (n.Stops.length : Int).toNat (0 : Int))) fun r => r.length = n.Stops.length ∧ ∀ j, sat r j = -1 := by
  have hz : (n.Stops.length : Int).toNat = n.Stops.length := by omega
  rw [hz]
  refine (Tot.iter (fun m s => ∃ i : Nat, s.1 = (i : Int) ∧ m + i = n.Stops.length ∧ s.2.length = n.Stops.length ∧ ∀ j, j < i → sat s.2 j = -1) (Q := fun r => r.length = n.Stops.length ∧ ∀ j, j < n.Stops.length → sat r j = -1) (n := n.Stops.length) ⟨0, rfl, by omega, by simp, fun j h => by omega⟩ ?_).mono fun r hr => ⟨hr.1, fun j => ?_⟩
  · rintro m ⟨v, o⟩ ⟨i, hv, hm, hl, ho⟩
    simp only at hv hl ho
    subst hv
    unfold i_ShortestWalk_L1
    rw [hz, List.length_replicate]
    refine .iteP (fun hc => .idx (by omega) (by omega) fun _ _ => .nx ⟨m - 1, by omega, i + 1, w64_succ (by omega), by omega, by simpa using hl, fun j hj => ?_⟩) (fun hc => .dn ⟨hl, fun j hj => ho j (by omega)⟩)
    dsimp only
    rw [Int.toNat_natCast, sat_set (by omega)]
    split
    · rfl
    · exact ho j (by omega)
  · by_cases hj : j < r.length
    · exact hr.2 j (by omega)
    · exact sat_out hj
/-! Shortest walks: the search to its end, the way that is told. -/
theorem ixcast {a : Nat} {l : List Nat} : idx ((a :: l).map fun x : Nat => (x : Int)) 0 = some (a : Int) := by rw [idx0]; rfl
theorem bfs2_ok {n : Network} {list : List Walk} {T : List (List Int)} (hT : WT list n.Stops.length T) {g : Nat} (hg : g < n.Stops.length) {out : List Int} {h : Nat} {r : List Nat} (H : QI list (fun x => tat T x g) g n.Stops.length out (h :: r)) (hm : ∀ a, sat out a ≤ sat out h + 1) (hq : ((h :: r).length : Int) + ninf out ≤ 1000) :
    Tot (iter (i_ShortestWalk_L2 n list (g : Int) T) ((0 : Int), out, ((h :: r).map fun x : Nat => (x : Int)))) fun o => ∃ r', o.2 = ((h :: r').map fun x : Nat => (x : Int)) ∧ QI list (fun x => tat T x g) g n.Stops.length o.1 r' ∧ (∀ x xs, r' = x :: xs → ∀ a, sat o.1 a ≤ sat o.1 x + 1) ∧ ((h :: r').length : Int) + ninf o.1 = ((h :: r).length : Int) + ninf out := by
  have h8 := hT.K8
  refine Tot.iter (fun m s => ∃ (i : Nat) (r' : List Nat), s.1 = (i : Int) ∧ m + i = n.Stops.length ∧ s.2.2 = ((h :: r').map fun x : Nat => (x : Int)) ∧ QI list (fun x => tat T x g) g n.Stops.length s.2.1 (h :: r') ∧ (∀ a, sat s.2.1 a ≤ sat s.2.1 h + 1) ∧ (((h :: r').length : Int) + ninf s.2.1 = ((h :: r).length : Int) + ninf out) ∧ ∀ c, c < i → On list (fun x => tat T x g) c h → 0 ≤ sat s.2.1 c) (n := n.Stops.length) ⟨0, r, rfl, by omega, rfl, H, hm, rfl, fun c hc => by omega⟩ ?_
  rintro m ⟨v, o, b⟩ ⟨i, r', hv, hmi, hb, hQ, hM, hN, hP⟩
  simp only at hv hb hQ hM hN hP
  subst hv; subst hb
  unfold i_ShortestWalk_L2
  have hh := hQ.q0 h (List.mem_cons_self ..)
  refine .iteP (fun hc => ?_) (fun hc => .dn ⟨r', rfl, ⟨hQ.len, hQ.wn, fun a ha => hQ.q0 a (List.mem_cons_of_mem _ ha), (List.pairwise_cons.1 hQ.srt).2, fun a ha => ?_, hQ.gz, hQ.lo⟩, fun x xs hx a => ?_, hN⟩)
  · have hi : i < n.Stops.length := by omega
    have hhK := (Wn.lt (hT.dst hg) (hQ.wn h hh)).1
    refine .call (P := fun s => ∃ r'', s.2 = ((h :: r'').map fun x : Nat => (x : Int)) ∧ QI list (fun x => tat T x g) g n.Stops.length s.1 (h :: r'') ∧ (∀ a, sat s.1 a ≤ sat s.1 h + 1) ∧ (((h :: r'').length : Int) + ninf s.1 = ((h :: r).length : Int) + ninf out) ∧ ∀ c, c < i + 1 → On list (fun x => tat T x g) c h → 0 ≤ sat s.1 c) ?_ fun ⟨o2, b2⟩ ⟨r'', q1, q2, q3, q4, q5⟩ => .nx ⟨m - 1, by omega, i + 1, r'', w64_succ (by omega), by omega, q1, q2, q3, q4, q5⟩
    have hio := sat_at (l := o) (a := i) (by rw [hQ.len]; exact hi)
    have hho := sat_at (l := o) (a := h) (by rw [hQ.len]; exact hhK)
    refine .eq (ixs hio) (.call (P := fun c => c = decide (sat o i < 0 ∧ On list (fun x => tat T x g) i h)) (.iteP (fun h1 => .eq ixcast (.eq (onward_eq hT hg hi hhK) (.ok (by simp [h1])))) (fun h1 => .ok (by simp [h1]))) fun c hcc => ?_)
    subst hcc
    refine .iteP (fun hC => ?_) (fun hC => .ok ⟨r', rfl, hQ, hM, hN, fun c hc ho => ?_⟩)
    · obtain ⟨p1, p2, p3, p4⟩ := hQ.put hM hi hC.1 hC.2
      have hnn := ninf_nonneg o
      have hbd : sat o h ≤ 100000 := by
        have h1 := Wn.le (hT.dst hg) (hQ.wn h hh)
        have h2 := hT.bd h g hhK hg
        omega
      have hlen : (h :: r').length ≤ 1000 := by omega
      have ew : w64 (sat o h + 1) = sat o h + 1 := w64_id (by omega)
      refine .eq ixcast (.eq (ixs hho) (.eq (ixs hio) (.chk (by rw [List.length_map]; show (h :: r').length + 1 ≤ _; omega) (.ok ⟨r' ++ [i], by simp, ?_, ?_, ?_, fun c hc ho => ?_⟩))))
      · dsimp only; rw [ew, Int.toNat_natCast]; exact p1
      · dsimp only; rw [ew, Int.toNat_natCast]; exact p2
      · dsimp only
        rw [ew, Int.toNat_natCast]
        have e1 : ninf (o.set i (sat o h + 1)) = ninf o - nI (sat o i) + nI (sat o h + 1) := sum_set nI _ hio
        have e2 : nI (sat o i) = 1 := by unfold nI; rw [if_pos hC.1]
        have e3 : nI (sat o h + 1) = 0 := by unfold nI; rw [if_neg (by omega)]
        rw [e1, e2, e3, ← hN]
        simp only [List.length_cons, List.length_append, List.length_nil]; omega
      · dsimp only
        rw [ew, Int.toNat_natCast]
        by_cases hci : c = i
        · subst hci; rw [p4]; omega
        · have := hP c (by omega) ho
          rw [p3 c this]; exact this
    · by_cases hci : c = i
      · subst hci
        have : ¬ sat o c < 0 := fun h => hC ⟨h, ho⟩
        dsimp only
        omega
      · exact hP c (by omega) ho
  · rcases hQ.dn a ha with h1 | h1
    · rcases List.mem_cons.1 h1 with rfl | h1
      · refine .inr fun c ho => ⟨hP c ?_ ho, hM c⟩
        obtain ⟨w, he, _⟩ := ho
        have := (he.rng hT.wl).1
        omega
      · exact .inl h1
    · exact .inr h1
  · subst hx
    have h1 := (List.pairwise_cons.1 hQ.srt).1 x (List.mem_cons_self ..)
    have h2 := hM a
    dsimp only
    omega
theorem bfs_ok {n : Network} {list : List Walk} {T : List (List Int)} (hT : WT list n.Stops.length T) {g : Nat} (hg : g < n.Stops.length) {o0 : List Int} (hl0 : o0.length = n.Stops.length) (h0 : ∀ j, sat o0 j = -1) :
    Tot (iter (i_ShortestWalk_L3 n list (g : Int) T) (o0.set (g : Int).toNat 0, ([(g : Int)] : List Int))) fun o => o.length = n.Stops.length ∧ Stp list (fun x => tat T x g) g (sat o) ∧ ∀ a, -1 ≤ sat o a := by
  have h8 := hT.K8
  rw [Int.toNat_natCast]
  have hs := sat_set (l := o0) (i := g) (x := 0) (by omega)
  have hQ : QI list (fun x => tat T x g) g n.Stops.length (o0.set g 0) [g] := by
    refine ⟨by rw [List.length_set]; exact hl0, fun a ha => ?_, fun a ha => ?_, by simp, fun a ha => ?_, by rw [hs, if_pos rfl], fun a => ?_⟩
    · rw [hs a] at ha ⊢
      split at ha
      · rename_i c; rw [if_pos c]; exact c
      · rw [h0] at ha; omega
    · have : a = g := by simpa using ha
      rw [hs a, if_pos this]; omega
    · rw [hs a] at ha
      split at ha
      · rename_i c; exact .inl (by simp [c])
      · rw [h0] at ha; omega
    · rw [hs a, h0]; split <;> omega
  have hM : ∀ x xs, [g] = x :: xs → ∀ a, sat (o0.set g 0) a ≤ sat (o0.set g 0) x + 1 := fun x xs hx a => by
    cases hx
    rw [hs a, hs g, if_pos rfl, h0]; split <;> omega
  have hn0 := ninf_nonneg (o0.set g 0)
  have hn1 := ninf_le (o0.set g 0)
  rw [List.length_set] at hn1
  refine Tot.iter (fun m s => ∃ q : List Nat, s.2 = (q.map fun x : Nat => (x : Int)) ∧ QI list (fun x => tat T x g) g n.Stops.length s.1 q ∧ (∀ x xs, q = x :: xs → ∀ a, sat s.1 a ≤ sat s.1 x + 1) ∧ (q.length : Int) + ninf s.1 = m ∧ m ≤ 100) (n := (1 + ninf (o0.set g 0)).toNat) ⟨[g], rfl, hQ, hM, by simp; omega, by omega⟩ ?_
  rintro m ⟨o, b⟩ ⟨q, hb, hQ, hM, hN, hm⟩
  simp only at hb hQ hM hN
  subst hb
  unfold i_ShortestWalk_L3
  dsimp only
  rw [List.length_map]
  have hnn := ninf_nonneg o
  refine .iteP (fun hc => ?_) (fun hc => .dn ?_)
  · cases q with
    | nil => simp at hc
    | cons h r =>
      refine .call (bfs2_ok hT hg hQ (hM h r rfl) (by omega)) fun ⟨o2, b2⟩ ⟨r', q1, q2, q3, q4⟩ => ?_
      dsimp only at q1 q2 q3 q4 ⊢
      subst q1
      refine .chk (by simp; omega) (.nx ⟨m - 1, ?_, r', by simp, q2, q3, ?_, by omega⟩)
      · omega
      · dsimp only
        rw [List.length_cons] at q4
        omega
  · have : q = [] := by
      cases q with
      | nil => rfl
      | cons x xs => simp at hc
    subst this
    exact ⟨hQ.len, hQ.stp, hQ.lo⟩
/-- The way is gone, each time to the first next stop. -/
theorem nextW_ok {n : Network} {list : List Walk} {T : List (List Int)} (hT : WT list n.Stops.length T) {g : Nat} (hg : g < n.Stops.length) {o : List Int} (hl : o.length = n.Stops.length) (hs : Stp list (fun x => tat T x g) g (sat o)) {a k : Nat} (ha : a < n.Stops.length) (hk : sat o a = ((k + 1 : Nat) : Int)) (hkb : k ≤ 100000) :
    iter (i_ShortestWalk_L4 n list (g : Int) T o (a : Int)) (0 : Int) = some ((nxt list n.Stops.length (fun x => tat T x g) (sat o) a : Nat) : Int) := by
  have h8 := hT.K8
  obtain ⟨n1, n2, n3⟩ := nxt_ok (hT.dst hg) hs hk
  refine Tot.val (Tot.iter (fun m (v : Int) => ∃ i : Nat, v = (i : Int) ∧ m + i = nxt list n.Stops.length (fun x => tat T x g) (sat o) a) (n := nxt list n.Stops.length (fun x => tat T x g) (sat o) a) ⟨0, rfl, by omega⟩ ?_)
  rintro m v ⟨i, rfl, hm⟩
  unfold i_ShortestWalk_L4
  have hi := sat_at (l := o) (a := i) (by omega)
  have hao := sat_at (l := o) (a := a) (by omega)
  have ew : w64 (sat o a - 1) = sat o a - 1 := w64_id (by omega)
  refine .iteP (fun hc => .eq (ixs hi) (.eq (ixs hao) (.call (P := fun c => c = decide (nxP list (fun x => tat T x g) (sat o) a i)) ?_ fun c hcc => ?_))) (fun hc => by omega)
  · rw [ew]
    refine .ite (fun h => .eq (onward_eq hT hg ha (by omega)) (.ok ?_)) (fun h => .ok ?_)
    · have h := eq_of_beq h
      unfold nxP
      simp [h]
    · have h := ne_of_beq_false h
      refine (decide_eq_false fun hc => h hc.1).symm
  · subst hcc
    refine .iteP (fun h => .dn ?_) (fun h => .nx ⟨m - 1, ?_, i + 1, w64_succ (by omega), ?_⟩)
    · rw [nxt_of (by omega) h fun j hj => n3 j (by omega)]
    · have : i ≠ nxt list n.Stops.length (fun x => tat T x g) (sat o) a := fun e => h (e ▸ n2)
      omega
    · have : i ≠ nxt list n.Stops.length (fun x => tat T x g) (sat o) a := fun e => h (e ▸ n2)
      omega
theorem gpath_len (list : List Walk) (K : Nat) (D S : Nat → Int) : ∀ (k a : Nat), (gpath list K D S k a).length = k
  | 0, _ => rfl
  | k + 1, a => by
    show (gpath list K D S k _).length + 1 = k + 1
    rw [gpath_len list K D S k]
theorem go_ok {n : Network} {list : List Walk} {T : List (List Int)} (hT : WT list n.Stops.length T) {g : Nat} (hg : g < n.Stops.length) {o : List Int} (hl : o.length = n.Stops.length) (hs : Stp list (fun x => tat T x g) g (sat o)) {a k : Nat} (ha : a < n.Stops.length) (hk : sat o a = (k : Int)) (hkb : k ≤ 100000) :
    iter (i_ShortestWalk_L5 n list (g : Int) T o) ((a : Int), ([(a : Int)] : List Int)) = some ((a : Int) :: gpath list n.Stops.length (fun x => tat T x g) (sat o) k a) := by
  refine Tot.val (Tot.iter (fun m s => ∃ b : Nat, s.1 = (b : Int) ∧ b < n.Stops.length ∧ sat o b = (m : Int) ∧ s.2.length + m = k + 1 ∧ s.2 ++ gpath list n.Stops.length (fun x => tat T x g) (sat o) m b = (a : Int) :: gpath list n.Stops.length (fun x => tat T x g) (sat o) k a) (n := k) ⟨a, rfl, ha, hk, by simp; omega, rfl⟩ ?_)
  rintro m ⟨v, p⟩ ⟨b, hv, hb, hm, hpl, hp⟩
  simp only at hv hpl hp
  subst hv
  unfold i_ShortestWalk_L5
  refine .ite (fun h => ?_) (fun h => .dn ?_)
  · have hne : b ≠ g := by rintro rfl; simp at h
    have hm0 : m ≠ 0 := by rintro rfl; exact hne (stp_zero (hT.dst hg) hs hm)
    obtain ⟨q, rfl⟩ : ∃ q, m = q + 1 := ⟨m - 1, by omega⟩
    obtain ⟨n1, n2, n3⟩ := nxt_ok (hT.dst hg) hs hm
    refine .call (P := fun v => v = ((nxt list n.Stops.length (fun x => tat T x g) (sat o) b : Nat) : Int)) (.eq (nextW_ok hT hg hl hs hb hm (by omega)) (.ok rfl)) fun v hv => ?_
    subst hv
    refine .chk (by simp; omega) (.nx ⟨q, by omega, _, rfl, n1, ?_, ?_, ?_⟩)
    · have := n2.1; omega
    · simp; omega
    · dsimp only
      rw [← hp, List.append_assoc]; rfl
  · have hbg : b = g := by simp at h; omega
    have hm0 : m = 0 := by
      have := stp_g (hT.dst hg) hs
      rw [← hbg] at this; omega
    subst hm0
    rw [← hp]; simp [gpath]
def AskW (n : Network) (list : List Walk) (a b : Int) : Prop := (Good n ∧ WalksP n.Stops.length list) ∧ (0 ≤ a ∧ a < (n.Stops.length : Int)) ∧ 0 ≤ b ∧ b < (n.Stops.length : Int)
/-- What the program says. -/
theorem iWay_ok {n : Network} (hb : Bd n) {list : List Walk} {T : List (List Int)} (ht : i_walkTable n list = some T) (hg : Good n) (hT : WT list n.Stops.length T) {a g : Nat} (ha : a < n.Stops.length) (hgg : g < n.Stops.length) :
    (tat T a g < 0 ∧ i_ShortestWalk n list (a : Int) (g : Int) = some ([], false)) ∨ (0 ≤ tat T a g ∧ ∃ S k, Stp list (fun x => tat T x g) g S ∧ S a = ((k : Nat) : Int) ∧ k ≤ 40000 ∧ i_ShortestWalk n list (a : Int) (g : Int) = some ((a : Int) :: gpath list n.Stops.length (fun x => tat T x g) S k a, true)) := by
  have h8 := hT.K8
  obtain ⟨r, r1, r2⟩ := hT.row ha hgg
  have hv : Good n ∧ WalksP n.Stops.length list := ⟨hg, hT.wl⟩
  have s1 : 0 ≤ (a : Int) ∧ (a : Int) < (n.Stops.length : Int) := by omega
  have s2 : 0 ≤ (g : Int) ∧ (g : Int) < (n.Stops.length : Int) := by omega
  unfold i_ShortestWalk
  simp only [validW_eq hb, isStop_eq, hv, s1, s2, and_self, decide_true, Bool.not_true, Bool.false_eq_true, if_false, Option.bind_some, ht, r1, r2]
  by_cases h0 : tat T a g < 0
  · left; refine ⟨h0, ?_⟩; simp only [h0, decide_true, if_true]
  · right
    refine ⟨by omega, ?_⟩
    obtain ⟨o1, e1, l1, v1⟩ := bfs1_ok n (by omega)
    obtain ⟨o2, e2, l2, hs, hlo⟩ := bfs_ok hT hgg l1 v1
    obtain ⟨k0, hk0⟩ := wn_ex (hT.dst hgg) (fun x hx => by
      by_cases hxK : x < n.Stops.length
      · exact (hT.d x g hxK hgg).2.1 hx
      · exfalso
        have : tat T x g = -1 := by
          unfold tat
          have e : T.getD x [] = [] := by rw [List.getD_eq_getElem?_getD, List.getElem?_eq_none (by have := hT.sq.1; omega)]; rfl
          rw [e]; rfl
        omega) (tat T a g).toNat (a := a) (by omega) (by omega)
    have hle := hs.le k0 a hk0
    have hwl := Wn.le (hT.dst hgg) (hs.wn a hle.1)
    have hbd := hT.bd a g ha hgg
    refine ⟨sat o2, (sat o2 a).toNat, hs, by omega, by omega, ?_⟩
    have hgo := go_ok hT hgg l2 hs ha (k := (sat o2 a).toNat) (by omega) (by omega)
    have hc : (0 : Int) ≤ (n.Stops.length : Int) ∧ (n.Stops.length : Int) ≤ 4294967296 := by omega
    obtain ⟨z, hz⟩ := get_ex (l := o1) (i := g) (by omega)
    simp only [h0, decide_false, Bool.false_eq_true, if_false, chk_of hc, Option.bind_some, e1, ixs hz, e2, hgo]
/-! Shortest walks: the reference tries all ways, the shorter ones first. -/
theorem wleast_eq (a b : Int) : s_l1Least a b = some (if a < b then a else b) := by
  unfold s_l1Least; by_cases h : a < b <;> simp [h]
theorem wmost_eq (a b : Int) : s_l1Most a b = some (if b < a then a else b) := by
  unfold s_l1Most; by_cases h : b < a <;> simp [h]
theorem l7Min_ok {K : Nat} {list : List Walk} (hl : WalksP K list) (a b : Nat) : Tot (s_l7Minutes list (a : Int) (b : Int)) fun r => Edge list a b r ∨ (r = -1 ∧ ∀ w, ¬ Edge list a b w) := by
  have h12 := hl.1
  unfold s_l7Minutes
  refine .flb ((Tot.iter (fun m (v : Int) => ∃ k : Nat, v = (k : Int) ∧ m + k = list.length ∧ ∀ (j : Nat) e, j < k → list[j]? = some e → ¬ mt a b e) (Q := fun x => (∃ w, x = .ret w ∧ Edge list a b w) ∨ (x = .go () ∧ ∀ w, ¬ Edge list a b w)) (n := list.length) ⟨0, rfl, by omega, fun j e h => by omega⟩ ?_).mono fun x hx => ?_)
  · rintro m v ⟨k, rfl, hm, hn⟩
    unfold s_l7Minutes_L1
    refine .iteP (fun hc => ?_) (fun hc => .dn (.inr ⟨rfl, no_edge fun j e he => hn j e (by have := get_lt he; omega) he⟩))
    obtain ⟨e, he⟩ := get_ex (l := list) (i := k) (by omega)
    have hw := walk_at hl (List.mem_of_getElem? he)
    unfold WalkP at hw
    refine .eq (ixs he) (.eq (wleast_eq _ _) (.call (P := fun c => c = decide (mt a b e)) (.ite (fun h => .eq (ixs he) (.eq (wmost_eq _ _) (.ok ?_))) (fun h => .ok ?_)) fun c hc2 => ?_))
    · have h := eq_of_beq h
      rw [Bool.eq_iff_iff, beq_iff_eq, decide_eq_true_iff]
      unfold mt
      omega
    · have h := ne_of_beq_false h
      refine (decide_eq_false fun hm => h ?_).symm
      unfold mt at hm
      omega
    · subst hc2
      exact .iteP (fun h => .eq (ixs he) (.dn (.inl ⟨_, rfl, e, List.mem_of_getElem? he, h, rfl⟩))) (fun h => .nx ⟨m - 1, by omega, k + 1, w64_succ (by omega), by omega, fun j e' hj he' => by
        by_cases hjk : j = k
        · subst hjk; rw [he] at he'; cases he'; exact h
        · exact hn j e' (by omega) he'⟩)
  · rcases hx with ⟨w, rfl, hw⟩ | ⟨rfl, hn⟩
    · exact ⟨fun r e => (by cases e; exact .inl hw), fun u e => by cases e⟩
    · exact ⟨fun r e => (by cases e), fun u _ => .ok (.inr ⟨rfl, hn⟩)⟩
theorem own1_eq (l : List Int) (h : l.length ≤ 100000) : s_l1Own l = some l := by
  unfold s_l1Own
  rw [chk_of (by simp; omega)]; simp
theorem last_ix {p : List Int} {a : Int} (h : p.length ≤ 100000) : idx (p ++ [a]) (w64 (((p ++ [a]).length : Int) - 1)) = some a := by
  have e : w64 (((p ++ [a]).length : Int) - 1) = (p.length : Int) := by rw [List.length_append]; simp; rw [w64_id (by omega)]
  rw [e, idx_nat]; simp
theorem wayS (f : Nat) : s_l7Way_m_k (f + 1) = s_l7Way_m_F (s_l7Way_m_k f) := rfl
/-- Where there is no such way, nothing is found. -/
theorem way_none {K g : Nat} {list : List Walk} (hl : WalksP K list) (hK : K ≤ 8) : ∀ (k f a : Nat) (p : List Int) (m : Int), k ≤ f → p.length + k ≤ 90000 → 0 ≤ m → m ≤ 100000 → ¬ PT list g k a m → s_l7Way_m_k (f + 1) (K : Int) list (p ++ [(a : Int)]) (g : Int) (k : Int) m = some []
  | 0, f, a, p, m, _, hp, h0, h1, hn => by
    rw [wayS]
    unfold s_l7Way_m_F
    rw [last_ix (by omega)]
    refine Tot.val (.eq rfl (.ite (fun _ => .call (P := fun b => b = false) ?_ fun b hb => ?_) (fun h => by simp at h)))
    · refine .ite (fun h => .ok ?_) (fun h => .ok rfl)
      have h : a = g := by have := eq_of_beq h; omega
      have : m ≠ 0 := fun hm => hn ⟨h, hm⟩
      simpa using this
    · subst hb; exact .ite (fun h => by cases h) fun _ => .ok rfl
  | k + 1, f, a, p, m, hf, hp, h0, h1, hn => by
    obtain ⟨f, rfl⟩ : ∃ f', f = f' + 1 := ⟨f - 1, by omega⟩
    rw [wayS]
    unfold s_l7Way_m_F
    rw [last_ix (by omega)]
    refine Tot.val (.eq rfl (.ite (fun h => by simp at h; omega) (fun _ => ?_)))
    refine .flb ((Tot.iter (fun q (v : Int) => ∃ i : Nat, v = (i : Int) ∧ q + i = K) (Q := fun x => x = .go ()) (n := K) ⟨0, rfl, by omega⟩ ?_).mono fun x hx => ⟨fun r e => (by rw [hx] at e; cases e), fun u _ => .ok rfl⟩)
    rintro q v ⟨i, rfl, hq⟩
    unfold s_l7Way_m_L1
    refine .iteP (fun hc => .flb ?_) (fun hc => .dn rfl)
    have hnx : Tot (some (Lp.nx (w64 ((i : Int) + 1)) : Lp Int (Fl (List Int) Unit))) fun r => (∀ a', r = .nx a' → ∃ k', k' < q ∧ ∃ i : Nat, a' = (i : Int) ∧ k' + i = K) ∧ ∀ b, r = .dn b → b = .go () := .nx ⟨q - 1, by omega, i + 1, w64_succ (by omega), by omega⟩
    refine .call (l7Min_ok hl a i) fun r hr => .call (P := fun b => b = false → Edge list a i r ∧ 1 ≤ r ∧ r ≤ m) ?_ fun b hb => ?_
    · refine .iteP (fun h => .ok fun h => by cases h) (fun h => .iteP (fun h2 => .ok fun h => by cases h) (fun h2 => .eq (l1Has_eq _ (by simp; omega) _) (.ok fun _ => ?_)))
      rcases hr with hr | hr
      · have := hr.rng hl; exact ⟨hr, by omega, by omega⟩
      · omega
    · refine .ite (fun _ => .go hnx) (fun hbf => ?_)
      obtain ⟨q1, q2, q3⟩ := hb hbf
      have e1 : w64 (((k + 1 : Nat) : Int) - 1) = (k : Int) := w64_pred (by omega)
      have e2 : w64 (m - r) = m - r := w64_id (by omega)
      rw [e1, e2]
      have ih := way_none hl hK k f i (p ++ [(a : Int)]) (m - r) (by omega) (by simp; omega) (by omega) (by omega) (fun hc => hn ⟨i, r, q1, hc⟩)
      exact .eq (own1_eq _ (by simp; omega)) (.chk (by simp; omega) (.eq ih (.ite (fun h => by simp at h) fun _ => .go hnx)))
/-- The first way with the fewest stops is found. -/
theorem way_ok {K g : Nat} {list : List Walk} {D S : Nat → Int} (hd : Dst list K g D) (hs : Stp list D g S) (hD : ∀ a, a < K → D a ≤ 100000) (hK : K ≤ 8) : ∀ (k f a : Nat) (p : List Int), k ≤ f → p.length + k ≤ 90000 → a < K → S a = (k : Int) → (∀ v ∈ p ++ [(a : Int)], ∃ x : Nat, v = (x : Int) ∧ (k : Int) ≤ S x) → s_l7Way_m_k (f + 1) (K : Int) list (p ++ [(a : Int)]) (g : Int) (k : Int) (D a) = some (p ++ [(a : Int)] ++ gpath list K D S k a)
  | 0, f, a, p, _, hp, haK, hk, hv => by
    have hag := stp_zero hd hs hk
    subst hag
    rw [wayS]
    unfold s_l7Way_m_F
    rw [last_ix (by omega)]
    refine Tot.val (.eq rfl (.ite (fun _ => .call (P := fun b => b = true) ?_ fun b hb => ?_) (fun h => by simp at h)))
    · exact .ite (fun h => .ok (by rw [hd.g0]; rfl)) (fun h => by simp at h)
    · subst hb; exact .ite (fun h => .ok (by simp [gpath])) fun h => by cases h
  | k + 1, f, a, p, hf, hp, haK, hk, hv => by
    obtain ⟨f, rfl⟩ : ∃ f', f = f' + 1 := ⟨f - 1, by omega⟩
    obtain ⟨n1, n2, n3⟩ := nxt_ok hd hs hk
    have hwn := Wn.lt hd (hs.wn a (by omega))
    have hDa := hD a haK
    obtain ⟨x, hx⟩ : ∃ x, x = nxt list K D S a := ⟨_, rfl⟩
    rw [← hx] at n1 n2 n3
    obtain ⟨hSx, w, hw, hDx, hsum⟩ := n2
    have hwr := hw.rng hd.wl
    rw [wayS]
    unfold s_l7Way_m_F
    rw [last_ix (by omega)]
    refine Tot.val (.eq rfl (.ite (fun h => by simp at h; omega) (fun _ => ?_)))
    refine .flb ((Tot.iter (fun q (v : Int) => ∃ i : Nat, v = (i : Int) ∧ q + i = x) (Q := fun y => y = .ret (p ++ [(a : Int)] ++ gpath list K D S (k + 1) a)) (n := x) ⟨0, rfl, by omega⟩ ?_).mono fun y hy => ⟨fun r e => (by rw [hy] at e; cases e; rfl), fun u e => by rw [hy] at e; cases e⟩)
    rintro q v ⟨i, rfl, hq⟩
    unfold s_l7Way_m_L1
    refine .iteP (fun hc => .flb ?_) (fun hc => by omega)
    refine .call (l7Min_ok hd.wl a i) fun r hr => ?_
    have e1 : w64 (((k + 1 : Nat) : Int) - 1) = (k : Int) := w64_pred (by omega)
    rw [e1]
    by_cases hix : i = x
    · subst hix
      have hrw : r = w := by
        rcases hr with hr | ⟨_, hr⟩
        · exact edge_uniq hd.wl hr hw
        · exact absurd hw (hr w)
      subst hrw
      have hnot : (i : Int) ∉ p ++ [(a : Int)] := fun hm => by
        obtain ⟨y, hy, hy2⟩ := hv _ hm
        have : y = i := by omega
        subst this; omega
      have e2 : w64 (D a - r) = D i := by rw [w64_id (by omega)]; omega
      refine .call (P := fun b => b = false) (.iteP (fun h => by omega) (fun h => .iteP (fun h2 => by omega) (fun h2 => .eq (l1Has_eq _ (by simp; omega) _) (.ok (decide_eq_false hnot))))) fun b hb => ?_
      subst hb
      have ih := way_ok hd hs hD hK k f i (p ++ [(a : Int)]) (by omega) (by simp; omega) n1 (by omega) (fun v hv2 => by
        rcases List.mem_append.1 hv2 with hv2 | hv2
        · obtain ⟨y, hy, hy2⟩ := hv v hv2
          exact ⟨y, hy, by omega⟩
        · have : v = (i : Int) := by simpa using hv2
          exact ⟨i, this, by omega⟩)
      rw [e2]
      refine .ite (fun h => by cases h) fun _ => .eq (own1_eq _ (by simp; omega)) (.chk (by simp; omega) (.eq ih (.ite (fun h => .ret ⟨fun a' e => (by cases e), fun b e => ?_⟩) fun h => (by simp at h; omega))))
      cases e
      congr 1
      show _ = p ++ [(a : Int)] ++ ((nxt list K D S a : Nat) : Int) :: gpath list K D S k (nxt list K D S a)
      rw [← hx]; simp
    · have hnx : Tot (some (Lp.nx (w64 ((i : Int) + 1)) : Lp Int (Fl (List Int) Unit))) fun r => (∀ a', r = .nx a' → ∃ k', k' < q ∧ ∃ i : Nat, a' = (i : Int) ∧ k' + i = x) ∧ ∀ b, r = .dn b → b = .ret (p ++ [(a : Int)] ++ gpath list K D S (k + 1) a) := .nx ⟨q - 1, by omega, i + 1, w64_succ (by omega), by omega⟩
      refine .call (P := fun b => b = false → Edge list a i r ∧ 1 ≤ r ∧ r ≤ D a) ?_ fun b hb => ?_
      · refine .iteP (fun h => .ok fun h => by cases h) (fun h => .iteP (fun h2 => .ok fun h => by cases h) (fun h2 => .eq (l1Has_eq _ (by simp; omega) _) (.ok fun _ => ?_)))
        rcases hr with hr | hr
        · have := hr.rng hd.wl; exact ⟨hr, by omega, by omega⟩
        · omega
      · refine .ite (fun _ => .go hnx) (fun hbf => ?_)
        obtain ⟨q1, q2, q3⟩ := hb hbf
        have e2 : w64 (D a - r) = D a - r := w64_id (by omega)
        rw [e2]
        have ih := way_none hd.wl hK k f i (p ++ [(a : Int)]) (D a - r) (by omega) (by simp; omega) (by omega) (by omega) (nxt_none hd hs hk (by omega) q1)
        exact .eq (own1_eq _ (by simp; omega)) (.chk (by simp; omega) (.eq ih (.ite (fun h => by simp at h) fun _ => .go hnx)))
theorem wayK (K to_ more m : Int) (list : List Walk) (p : List Int) : s_l7Way_m K list p to_ more m = s_l7Way_m_k (4294967295 + 1) K list p to_ more m := rfl
/-- What the reference says. -/
theorem sWay_ok {n : Network} {list : List Walk} {T : List (List Int)} (hT : WT list n.Stops.length T) {a g : Nat} (ha : a < n.Stops.length) (hgg : g < n.Stops.length) {S : Nat → Int} (hs : Stp list (fun x => tat T x g) g S) {k : Nat} (hk : S a = (k : Int)) (hkb : k ≤ 80000) {r : List Int × Bool} (hr : idx r.1 (g : Int) = some (tat T a g)) :
    iter (s_ShortestWalk_L1 n list (a : Int) (g : Int) r) (0 : Int) = some ((a : Int) :: gpath list n.Stops.length (fun x => tat T x g) S k a, true) := by
  have h8 := hT.K8
  have h0 := (Wn.lt (hT.dst hgg) (hs.wn a (by omega))).2
  have hbd := hT.bd a g ha hgg
  refine Tot.val (Tot.iter (fun m (v : Int) => ∃ i : Nat, v = (i : Int) ∧ m + i = k) (n := k) ⟨0, rfl, by omega⟩ ?_)
  rintro m v ⟨i, rfl, hm⟩
  unfold s_ShortestWalk_L1
  refine .eq hr ?_
  rw [wayK]
  by_cases hik : i = k
  · subst hik
    have h := way_ok (hT.dst hgg) hs (fun x hx => by have := hT.bd x g hx hgg; omega) h8.2 i 4294967295 a [] (by omega) (by simp; omega) ha hk (fun v hv => by
      have : v = (a : Int) := by simpa using hv
      exact ⟨a, this, by omega⟩)
    exact .eq h (.ite (fun _ => .dn rfl) fun h => by simp at h)
  · have h := way_none hT.wl h8.2 i 4294967295 a [] (tat T a g) (by omega) (by simp; omega) h0 (by omega) (no_short (hT.dst hgg) hs (by omega))
    exact .eq h (.ite (fun h => by simp at h) fun _ => .nx ⟨m - 1, by omega, i + 1, w64_succ (by omega), by omega⟩)
/-! Walks: the table for all pairs; the shortest walk, both programs; closing walks. -/
theorem wt_of {n : Network} {list : List Walk} (hg : Good n) (hl : WalksP n.Stops.length list) : ∃ T, i_walkTable n list = some T ∧ WT list n.Stops.length T ∧ ∀ s : Nat, s < n.Stops.length → ∃ r, T[s]? = some r ∧ r.length = n.Stops.length ∧ (∀ j, j < n.Stops.length → r[j]? = some (tat T s j)) ∧ s_l7Times (n.Stops.length : Int) list (s : Int) = some r := by
  obtain ⟨T, h1, h2, h3, h4⟩ := walk_rows hg.1 hl
  refine ⟨T, h1, ⟨hl, h2, h3, fun a b ha hb => ?_, hg.1⟩, fun s hs => ?_⟩
  · obtain ⟨r, _, q2, q3, q4, _⟩ := h4 a ha
    exact (q4 _ (List.mem_of_getElem? (q3 b hb))).2
  · obtain ⟨r, q1, q2, q3, q4, q5⟩ := h4 s hs
    exact ⟨r, q1, q2, q3, q5⟩
theorem sTimes_eq {n : Network} (hb : Bd n) (list : List Walk) (s : Int) : s_WalkingTimes n list s = i_WalkingTimes n list s := by
  unfold s_WalkingTimes
  simp only [l7Good_eq hb, l1In_eq, Option.bind_some]
  by_cases h1 : Good n ∧ WalksP n.Stops.length list
  · have h8 := h1.1.1
    have e : w64 ((n.Stops.length : Int) - 1) = (n.Stops.length : Int) - 1 := w64_id (by omega)
    rw [e]
    rcases WalkingTimes_eq hb list s with ⟨_, _, z0, z1, T', r', q1, q2, q3⟩ | ⟨q, q3⟩
    · obtain ⟨T, t1, _, t4⟩ := wt_of h1.1 h1.2
      obtain ⟨r, r1, _, _, r4⟩ := t4 s.toNat (by omega)
      have es : ((s.toNat : Nat) : Int) = s := by omega
      rw [es] at r4
      have hq := Option.some.inj (t1.symm.trans q1); subst hq; have hq := Option.some.inj (r1.symm.trans q2); subst hq
      have h2 : 0 ≤ s ∧ s ≤ (n.Stops.length : Int) - 1 := by omega
      rw [q3]
      simp only [h1, h2, and_self, decide_true, Bool.not_true, Bool.false_eq_true, if_false, Option.bind_some, r4]
    · have h2 : ¬ (0 ≤ s ∧ s ≤ (n.Stops.length : Int) - 1) := fun h => q ⟨h1.1, h1.2, h.1, by omega⟩
      rw [q3]
      simp only [h1, h2, and_self, decide_true, decide_false, Bool.not_true, Bool.not_false, Bool.false_eq_true, if_false, if_true, Option.bind_some]
  · rcases WalkingTimes_eq hb list s with ⟨z0, z1, _⟩ | ⟨_, q3⟩
    · exact absurd ⟨z0, z1⟩ h1
    · rw [q3]
      simp only [h1, decide_false, Bool.not_false, if_true, Option.bind_some]
/-- What is known of a shortest walk that is found. -/
def Shw (n : Network) (list : List Walk) (a g : Int) (p : List Int) : Prop := ∃ (T : List (List Int)) (a' g' k : Nat) (S : Nat → Int), a = (a' : Int) ∧ g = (g' : Int) ∧ a' < n.Stops.length ∧ g' < n.Stops.length ∧ Good n ∧ WalksP n.Stops.length list ∧ i_walkTable n list = some T ∧ WT list n.Stops.length T ∧
    0 ≤ tat T a' g' ∧ Stp list (fun x => tat T x g') g' S ∧ S a' = (k : Int) ∧ k ≤ 40000 ∧ p = (a' : Int) :: gpath list n.Stops.length (fun x => tat T x g') S k a'
theorem short_ok {n : Network} (hb : Bd n) (list : List Walk) (a g : Int) : ∃ p ok, i_ShortestWalk n list a g = some (p, ok) ∧ s_ShortestWalk n list a g = some (p, ok) ∧ p.length ≤ 100000 ∧ (ok = true → Shw n list a g p) := by
  by_cases hv : Good n ∧ WalksP n.Stops.length list
  · have h8 := hv.1.1
    have e : w64 ((n.Stops.length : Int) - 1) = (n.Stops.length : Int) - 1 := w64_id (by omega)
    rcases WalkingTimes_eq hb list a with ⟨_, _, z0, z1, T', r', q1, q2, q3⟩ | ⟨q, q3⟩
    · by_cases hg : 0 ≤ g ∧ g < (n.Stops.length : Int)
      · obtain ⟨T, t1, hT, t4⟩ := wt_of hv.1 hv.2
        have hq := Option.some.inj (t1.symm.trans q1); subst hq
        obtain ⟨a', rfl⟩ : ∃ x : Nat, a = (x : Int) := ⟨a.toNat, by omega⟩
        obtain ⟨g', rfl⟩ : ∃ x : Nat, g = (x : Int) := ⟨g.toNat, by omega⟩
        have ha' : a' < n.Stops.length := by omega
        have hg' : g' < n.Stops.length := by omega
        obtain ⟨r, r1, r2, r3, r4⟩ := t4 a' ha'
        rw [Int.toNat_natCast] at q2; have hq := Option.some.inj (r1.symm.trans q2); subst hq
        have hr := ixs (r3 g' hg')
        have h2 : 0 ≤ (g' : Int) ∧ (g' : Int) ≤ (n.Stops.length : Int) - 1 := by omega
        have hs : s_ShortestWalk n list (a' : Int) (g' : Int) = if decide (tat T a' g' < 0) = true then some ([], false) else iter (s_ShortestWalk_L1 n list (a' : Int) (g' : Int) (r, true)) (0 : Int) := by
          unfold s_ShortestWalk
          rw [sTimes_eq hb, q3]
          simp only [Option.bind_some, Bool.not_true, Bool.false_eq_true, if_false, l1In_eq, e, h2, and_self, decide_true, hr]
        rcases iWay_ok hb t1 hv.1 hT ha' hg' with ⟨c, i1⟩ | ⟨c, S, k, s1, s2, s3, i1⟩
        · refine ⟨[], false, i1, ?_, by simp, fun h => by cases h⟩
          rw [hs, if_pos (by simp [c])]
        · refine ⟨_, true, i1, ?_, ?_, fun _ => ⟨T, a', g', k, S, rfl, rfl, ha', hg', hv.1, hv.2, t1, hT, c, s1, s2, s3, rfl⟩⟩
          · rw [hs, if_neg (by simp; omega)]
            exact sWay_ok hT ha' hg' s1 s2 (by omega) hr
          · simp only [List.length_cons, gpath_len]; omega
      · have h2 : ¬ (0 ≤ g ∧ g ≤ (n.Stops.length : Int) - 1) := fun h => hg ⟨h.1, by omega⟩
        refine ⟨[], false, ?_, ?_, by simp, fun h => by cases h⟩
        · unfold i_ShortestWalk
          have z : 0 ≤ a ∧ a < (n.Stops.length : Int) := ⟨z0, z1⟩
          simp only [validW_eq hb, isStop_eq, hv, z, hg, and_self, decide_true, decide_false, Bool.not_true, Bool.not_false, Bool.false_eq_true, if_false, if_true, Option.bind_some]
        · unfold s_ShortestWalk
          rw [sTimes_eq hb, q3]
          simp only [Option.bind_some, Bool.not_true, Bool.not_false, Bool.false_eq_true, if_false, if_true, l1In_eq, e, h2, decide_false]
    · have z : ¬ (0 ≤ a ∧ a < (n.Stops.length : Int)) := fun h => q ⟨hv.1, hv.2, h.1, h.2⟩
      refine ⟨[], false, ?_, ?_, by simp, fun h => by cases h⟩
      · unfold i_ShortestWalk
        simp only [validW_eq hb, isStop_eq, hv, z, and_self, decide_true, decide_false, Bool.not_true, Bool.not_false, Bool.false_eq_true, if_false, if_true, Option.bind_some]
      · unfold s_ShortestWalk
        rw [sTimes_eq hb, q3]
        simp only [Option.bind_some, Bool.not_false, if_true]
  · refine ⟨[], false, ?_, ?_, by simp, fun h => by cases h⟩
    · unfold i_ShortestWalk
      simp only [validW_eq hb, hv, decide_false, Bool.not_false, if_true, Option.bind_some]
    · rcases WalkingTimes_eq hb list a with ⟨z0, z1, _⟩ | ⟨_, q3⟩
      · exact absurd ⟨z0, z1⟩ hv
      · unfold s_ShortestWalk
        rw [sTimes_eq hb, q3]
        simp only [Option.bind_some, Bool.not_false, if_true]
/-! Closing walks. -/
def clS (T : List (List Int)) (a j : Nat) : List Walk := ((List.range' (a + 1) j).filter fun b : Nat => decide (0 ≤ tat T a b)).map fun b : Nat => ⟨(a : Int), (b : Int), tat T a b⟩
def clA (T : List (List Int)) (K i : Nat) : List Walk := (List.range i).flatMap fun a => clS T a (K - (a + 1))
theorem clS_succ (T : List (List Int)) (a j : Nat) : clS T a (j + 1) = clS T a j ++ if 0 ≤ tat T a (a + 1 + j) then [⟨(a : Int), ((a + 1 + j : Nat) : Int), tat T a (a + 1 + j)⟩] else [] := by
  unfold clS
  rw [List.range'_1_concat, List.filter_append, List.map_append]
  by_cases h : 0 ≤ tat T a (a + 1 + j) <;> simp [h]
theorem clS_len (T : List (List Int)) (a j : Nat) : (clS T a j).length ≤ j := by
  unfold clS
  rw [List.length_map]
  exact Nat.le_trans (List.length_filter_le _ _) (by simp)
theorem clA_succ (T : List (List Int)) (K i : Nat) : clA T K (i + 1) = clA T K i ++ clS T i (K - (i + 1)) := by
  unfold clA
  rw [List.range_succ, List.flatMap_append]; simp
theorem clA_len (T : List (List Int)) (K : Nat) (hK : K ≤ 8) : ∀ i, (clA T K i).length ≤ 8 * i
  | 0 => by simp [clA]
  | i + 1 => by
    rw [clA_succ, List.length_append]
    have := clA_len T K hK i
    have := clS_len T i (K - (i + 1))
    omega
theorem clA_mem {T : List (List Int)} {K : Nat} {e : Walk} : e ∈ clA T K K ↔ ∃ a b, a < b ∧ b < K ∧ 0 ≤ tat T a b ∧ e = ⟨(a : Int), (b : Int), tat T a b⟩ := by
  unfold clA clS
  simp only [List.mem_flatMap, List.mem_map, List.mem_filter, List.mem_range, List.mem_range'_1, decide_eq_true_eq]
  constructor
  · rintro ⟨a, ha, b, ⟨hb, h0⟩, rfl⟩
    exact ⟨a, b, by omega, by omega, h0, rfl⟩
  · rintro ⟨a, b, h1, h2, h3, rfl⟩
    exact ⟨a, by omega, b, ⟨by omega, h3⟩, rfl⟩
theorem iClose1_ok {n : Network} {list : List Walk} {T : List (List Int)} (hT : WT list n.Stops.length T) {a : Nat} (ha : a < n.Stops.length) :
    iter (i_CloseWalks_L1 n T (a : Int)) (w64 ((a : Int) + 1), clA T n.Stops.length a) = some (clA T n.Stops.length (a + 1)) := by
  have h8 := hT.K8
  have hl := clA_len T n.Stops.length h8.2 a
  rw [clA_succ]
  refine Tot.val (Tot.iter (fun m s => ∃ j : Nat, s.1 = ((a + 1 + j : Nat) : Int) ∧ m + j = n.Stops.length - (a + 1) ∧ s.2 = clA T n.Stops.length a ++ clS T a j) (n := n.Stops.length - (a + 1)) ⟨0, w64_succ (by omega), by omega, by simp [clS]⟩ ?_)
  rintro m ⟨v, b⟩ ⟨j, hv, hm, hb⟩
  simp only at hv hb
  subst hv
  unfold i_CloseWalks_L1
  have hjl := clS_len T a j
  refine .iteP (fun hc => ?_) (fun hc => .dn (by rw [hb, show n.Stops.length - (a + 1) = j by omega]))
  obtain ⟨r, r1, r2⟩ := hT.row ha (b := a + 1 + j) (by omega)
  refine .call (P := fun o => o = clA T n.Stops.length a ++ clS T a (j + 1)) (.eq r1 (.eq r2 (.iteP (fun h => .eq r1 (.eq r2 (.chk (by rw [hb]; simp; omega) (.ok ?_)))) (fun h => .ok ?_)))) fun o ho => .nx ⟨m - 1, by omega, j + 1, by rw [w64_succ (by omega)]; rfl, by omega, ho⟩
  · rw [clS_succ, if_pos h, hb, List.append_assoc]
  · rw [clS_succ, if_neg h, hb, List.append_nil]
theorem sClose1_ok {n : Network} {list : List Walk} {T : List (List Int)} (hT : WT list n.Stops.length T) {a : Nat} (ha : a < n.Stops.length) {r : List Int} (hr : ∀ j, j < n.Stops.length → r[j]? = some (tat T a j)) :
    iter (s_CloseWalks_L1 n (a : Int) r) (w64 ((a : Int) + 1), clA T n.Stops.length a) = some (clA T n.Stops.length (a + 1)) := by
  have h8 := hT.K8
  have hl := clA_len T n.Stops.length h8.2 a
  rw [clA_succ]
  refine Tot.val (Tot.iter (fun m s => ∃ j : Nat, s.1 = ((a + 1 + j : Nat) : Int) ∧ m + j = n.Stops.length - (a + 1) ∧ s.2 = clA T n.Stops.length a ++ clS T a j) (n := n.Stops.length - (a + 1)) ⟨0, w64_succ (by omega), by omega, by simp [clS]⟩ ?_)
  rintro m ⟨v, b⟩ ⟨j, hv, hm, hb⟩
  simp only at hv hb
  subst hv
  unfold s_CloseWalks_L1
  have hjl := clS_len T a j
  refine .iteP (fun hc => ?_) (fun hc => .dn (by rw [hb, show n.Stops.length - (a + 1) = j by omega]))
  have r2 := ixs (hr (a + 1 + j) (by omega))
  have hp := (hT.d a (a + 1 + j) ha (by omega)).pos hT.wl (by omega)
  refine .call (P := fun o => o = clA T n.Stops.length a ++ clS T a (j + 1)) (.eq r2 (.iteP (fun h => .eq r2 (.chk (by rw [hb]; simp; omega) (.ok ?_))) (fun h => .ok ?_))) fun o ho => .nx ⟨m - 1, by omega, j + 1, by rw [w64_succ (by omega)]; rfl, by omega, ho⟩
  · rw [clS_succ, if_pos (by omega), hb, List.append_assoc]
  · rw [clS_succ, if_neg (fun h0 => h (by have := hp h0; omega)), hb, List.append_nil]
theorem close_ok {n : Network} (hb : Bd n) (list : List Walk) : ∃ l ok, i_CloseWalks n list = some (l, ok) ∧ s_CloseWalks n list = some (l, ok) ∧ l.length ≤ 100 ∧ (ok = true → Good n ∧ WalksP n.Stops.length list ∧ WalksP n.Stops.length l ∧ ∀ T, i_walkTable n list = some T → l = clA T n.Stops.length n.Stops.length) := by
  by_cases hv : Good n ∧ WalksP n.Stops.length list
  · obtain ⟨T, t1, hT, t4⟩ := wt_of hv.1 hv.2
    have h8 := hT.K8
    have hl := clA_len T n.Stops.length h8.2 n.Stops.length
    have e1 : iter (i_CloseWalks_L2 n T) ((0 : Int), ([] : List Walk)) = some (clA T n.Stops.length n.Stops.length) := by
      refine Tot.val (Tot.iter (fun m s => ∃ j : Nat, s.1 = (j : Int) ∧ m + j = n.Stops.length ∧ s.2 = clA T n.Stops.length j) (n := n.Stops.length) ⟨0, rfl, by omega, rfl⟩ ?_)
      rintro m ⟨v, b⟩ ⟨j, hv, hm, hb⟩
      simp only at hv hb
      subst hv; subst hb
      unfold i_CloseWalks_L2
      exact .iteP (fun hc => .eq (iClose1_ok hT (by omega)) (.nx ⟨m - 1, by omega, j + 1, w64_succ (by omega), by omega, rfl⟩)) (fun hc => .dn (by rw [show n.Stops.length = j by omega]))
    have e2 : iter (s_CloseWalks_L2 n list) ((0 : Int), ([] : List Walk)) = some (clA T n.Stops.length n.Stops.length) := by
      refine Tot.val (Tot.iter (fun m s => ∃ j : Nat, s.1 = (j : Int) ∧ m + j = n.Stops.length ∧ s.2 = clA T n.Stops.length j) (n := n.Stops.length) ⟨0, rfl, by omega, rfl⟩ ?_)
      rintro m ⟨v, b⟩ ⟨j, hv, hm, hb⟩
      simp only at hv hb
      subst hv; subst hb
      unfold s_CloseWalks_L2
      refine .iteP (fun hc => ?_) (fun hc => .dn (by rw [show n.Stops.length = j by omega]))
      obtain ⟨r, r1, r2, r3, r4⟩ := t4 j (by omega)
      exact .eq r4 (.eq (sClose1_ok hT (by omega) r3) (.nx ⟨m - 1, by omega, j + 1, w64_succ (by omega), by omega, rfl⟩))
    by_cases hc : WalksP n.Stops.length (clA T n.Stops.length n.Stops.length)
    · refine ⟨_, true, ?_, ?_, by omega, fun _ => ⟨hv.1, hv.2, hc, fun T' h => by rw [t1] at h; cases h; rfl⟩⟩
      · unfold i_CloseWalks
        simp only [validW_eq hb, hv, and_self, decide_true, Bool.not_true, Bool.false_eq_true, if_false, Option.bind_some, t1, e1, areWalks_eq, hc]
      · unfold s_CloseWalks
        simp only [l7Good_eq hb, hv, and_self, decide_true, Bool.not_true, Bool.false_eq_true, if_false, Option.bind_some, e2, hc]
    · refine ⟨[], false, ?_, ?_, by simp, fun h => by cases h⟩
      · unfold i_CloseWalks
        simp only [validW_eq hb, hv, and_self, decide_true, decide_false, Bool.not_true, Bool.not_false, Bool.false_eq_true, if_false, if_true, Option.bind_some, t1, e1, areWalks_eq, hc]
      · unfold s_CloseWalks
        simp only [l7Good_eq hb, hv, and_self, and_false, decide_true, decide_false, Bool.not_true, Bool.not_false, Bool.false_eq_true, if_false, if_true, Option.bind_some, e2, hc]
  · refine ⟨[], false, ?_, ?_, by simp, fun h => by cases h⟩
    · unfold i_CloseWalks
      simp only [validW_eq hb, hv, decide_false, Bool.not_false, if_true, Option.bind_some]
    · unfold s_CloseWalks
      simp only [l7Good_eq hb, hv, decide_false, Bool.not_false, if_true, Option.bind_some]
theorem tat_symm {list : List Walk} {K : Nat} {T : List (List Int)} (hT : WT list K T) {a b : Nat} (ha : a < K) (hb : b < K) : tat T a b = tat T b a := (hT.d a b ha hb).uniq (hT.d b a hb ha).symm
theorem cl_edge {list : List Walk} {K : Nat} {T : List (List Int)} (hT : WT list K T) {a b : Nat} {w : Int} (he : Edge (clA T K K) a b w) : a < K ∧ b < K ∧ 0 ≤ tat T a b ∧ w = tat T a b := by
  obtain ⟨e, h1, h2, h3⟩ := he
  obtain ⟨x, y, q1, q2, q3, rfl⟩ := clA_mem.1 h1
  simp only at h2 h3
  rcases h2 with ⟨p1, p2⟩ | ⟨p1, p2⟩
  · obtain rfl : x = a := by omega
    obtain rfl : y = b := by omega
    exact ⟨by omega, by omega, q3, h3.symm⟩
  · obtain rfl : x = b := by omega
    obtain rfl : y = a := by omega
    rw [tat_symm hT (a := y) (b := x) (by omega) (by omega)]
    exact ⟨by omega, by omega, q3, h3.symm⟩
theorem cl_dist {list : List Walk} {K : Nat} {T : List (List Int)} (hT : WT list K T) {a b : Nat} (ha : a < K) (hb : b < K) : IsDist (clA T K K) a b (tat T a b) := by
  refine ⟨(hT.d a b ha hb).1, fun h0 => ?_, fun L hL => (hT.d a b ha hb).2.2 L ?_⟩
  · by_cases hab : a = b
    · subst hab
      rw [(hT.d a a ha ha).self hT.wl]; exact .refl a
    · refine .one ?_
      by_cases hlt : a < b
      · exact ⟨_, clA_mem.2 ⟨a, b, hlt, hb, h0, rfl⟩, .inl ⟨rfl, rfl⟩, rfl⟩
      · have e := tat_symm hT ha hb
        exact ⟨_, clA_mem.2 ⟨b, a, by omega, ha, by omega, rfl⟩, .inr ⟨rfl, rfl⟩, e.symm⟩
  · refine hL (fun x y l => Way list x y l) (fun x => .refl x) fun x y z l w ih he => ?_
    obtain ⟨q1, q2, q3, rfl⟩ := cl_edge hT he
    exact ih.trans ((hT.d y z q1 q2).2.1 q3)
/-! FnWalking: the law. -/
theorem rMin_ok {K : Nat} {list : List Walk} (hl : WalksP K list) {a b : Nat} {w : Int} (he : Edge list a b w) : v_rMinutes list (a : Int) (b : Int) = some w := by
  have h12 := hl.1
  unfold v_rMinutes
  refine Tot.val (.flb ((Tot.iter (fun m (v : Int) => ∃ k : Nat, v = (k : Int) ∧ m + k = list.length ∧ ∀ (j : Nat) e, j < k → list[j]? = some e → ¬ mt a b e) (Q := fun x => x = .ret w) (n := list.length) ⟨0, rfl, by omega, fun j e h => by omega⟩ ?_).mono fun x hx => ?_))
  · rintro m v ⟨k, rfl, hm, hn⟩
    unfold v_rMinutes_L1
    refine .iteP (fun hc => ?_) (fun hc => absurd he (no_edge (fun j e he => hn j e (by have := get_lt he; omega) he) w))
    obtain ⟨e, he'⟩ := get_ex (l := list) (i := k) (by omega)
    have hi := ixs he'
    refine .eq hi (.call (P := fun c => c = decide (mt a b e)) (.ite (fun h => .eq hi (.ite (fun h2 => .ok ?_) (fun h2 => .eq hi (.ite (fun h3 => .eq hi (.ok ?_)) (fun h3 => .ok ?_))))) (fun h => .eq hi (.ite (fun h3 => .eq hi (.ok ?_)) (fun h3 => .ok ?_)))) fun c hc2 => ?_)
    · have h := eq_of_beq h; have h2 := eq_of_beq h2
      exact (decide_eq_true (.inl ⟨h, h2⟩)).symm
    · have h := eq_of_beq h; have h2 := ne_of_beq_false h2; have h3 := eq_of_beq h3
      rw [Bool.eq_iff_iff, beq_iff_eq, decide_eq_true_iff]
      unfold mt; omega
    · have h := eq_of_beq h; have h2 := ne_of_beq_false h2; have h3 := ne_of_beq_false h3
      exact (decide_eq_false (by unfold mt; omega)).symm
    · have h := ne_of_beq_false h; have h3 := eq_of_beq h3
      rw [Bool.eq_iff_iff, beq_iff_eq, decide_eq_true_iff]
      unfold mt; omega
    · have h := ne_of_beq_false h; have h3 := ne_of_beq_false h3
      exact (decide_eq_false (by unfold mt; omega)).symm
    · subst hc2
      exact .iteP (fun h => .eq hi (.dn (by rw [edge_uniq hl ⟨e, List.mem_of_getElem? he', h, rfl⟩ he]))) (fun h => .nx ⟨m - 1, by omega, k + 1, w64_succ (by omega), by omega, fun j e' hj he2 => by
        by_cases hjk : j = k
        · subst hjk; rw [he'] at he2; cases he2; exact h
        · exact hn j e' (by omega) he2⟩)
  · subst hx
    exact ⟨fun r e => (by cases e; rfl), fun u e => by cases e⟩
theorem rWalks_refl (a : List Walk) (h : a.length ≤ 100000) : v_rWalks a a = some true := by
  unfold v_rWalks
  simp only [bne_self_eq_false, Bool.false_eq_true, if_false]
  rw [all_val (hd := Classical.propDecidable _) a (fun _ _ => True) (fun i x hx => ?_) (by unfold v_rWalks_L1; simp)]
  · rw [if_pos (fun _ _ _ => trivial)]
  · have hi := get_lt hx
    unfold v_rWalks_L1
    have hlt : decide ((i : Int) < (a.length : Int)) = true := by simp; omega
    left
    simp only [hlt, if_true, idx_nat, hx, Option.bind_some, beq_self_eq_true, Bool.and_self, Bool.not_true, Bool.false_eq_true, if_false, w64_succ (n := i) (by omega), and_self]
/-- The stops of the shortest walk. -/
noncomputable def pth (list : List Walk) (K : Nat) (D S : Nat → Int) : Nat → Nat → Nat
  | 0, a => a
  | j + 1, a => pth list K D S j (nxt list K D S a)
theorem pth_succ (list : List Walk) (K : Nat) (D S : Nat → Int) : ∀ j a, pth list K D S (j + 1) a = nxt list K D S (pth list K D S j a)
  | 0, a => rfl
  | j + 1, a => by
    rw [pth, pth_succ list K D S j, ← pth]
theorem pth_at (list : List Walk) (K : Nat) (D S : Nat → Int) : ∀ (k a j : Nat), j ≤ k → ((a : Int) :: gpath list K D S k a)[j]? = some ((pth list K D S j a : Nat) : Int)
  | k, a, 0, _ => rfl
  | k + 1, a, j + 1, h => by
    rw [List.getElem?_cons_succ]
    unfold gpath
    exact pth_at list K D S k _ j (by omega)
theorem pth_ok {list : List Walk} {K g : Nat} {D S : Nat → Int} (hd : Dst list K g D) (hs : Stp list D g S) {a k : Nat} (ha : a < K) (hk : S a = (k : Int)) : ∀ j, j ≤ k → pth list K D S j a < K ∧ S (pth list K D S j a) = ((k - j : Nat) : Int)
  | 0, _ => ⟨ha, hk⟩
  | j + 1, h => by
    have ih := pth_ok hd hs ha hk j (by omega)
    rw [pth_succ]
    obtain ⟨n1, n2, _⟩ := nxt_ok hd hs (k := k - j - 1) (a := pth list K D S j a) (by rw [ih.2]; omega)
    exact ⟨n1, by rw [n2.1, ih.2]; omega⟩
theorem useless_ok {n : Network} (hb : Bd n) {l : List Walk} (hg : Good n) (hl : WalksP n.Stops.length l) {T : List (List Int)} (ht : i_walkTable n l = some T) (hT : WT l n.Stops.length T) (hs : ∀ e ∈ l, e.Minutes ≤ tat T e.A.toNat e.B.toNat) : i_UselessWalks n l = some ([], true) := by
  have hv : Good n ∧ WalksP n.Stops.length l := ⟨hg, hl⟩
  have h12 := hl.1
  unfold i_UselessWalks
  simp only [validW_eq hb, hv, and_self, decide_true, Bool.not_true, Bool.false_eq_true, if_false, Option.bind_some, ht]
  refine Tot.val (.call (P := fun o => o = []) ?_ fun o ho => by subst ho; exact .ok rfl)
  refine Tot.iter (fun m s => ∃ j : Nat, s.1 = (j : Int) ∧ m + j = l.length ∧ s.2 = []) (n := l.length) ⟨0, rfl, by omega, rfl⟩ ?_
  rintro m ⟨v, b⟩ ⟨j, hv, hm, hb⟩
  simp only at hv hb
  subst hv; subst hb
  unfold i_UselessWalks_L1
  refine .iteP (fun hc => ?_) (fun hc => .dn rfl)
  obtain ⟨e, he⟩ := get_ex (l := l) (i := j) (by omega)
  have hme := List.mem_of_getElem? he
  have hw := walk_at hl hme
  unfold WalkP at hw
  obtain ⟨r, r1, r2⟩ := hT.row (a := e.A.toNat) (b := e.B.toNat) (by omega) (by omega)
  rw [show ((e.A.toNat : Nat) : Int) = e.A by omega] at r1
  rw [show ((e.B.toNat : Nat) : Int) = e.B by omega] at r2
  have := hs e hme
  refine .call (P := fun o => o = []) (.eq (ixs he) (.eq r1 (.eq r2 (.iteP (fun h => by omega) (fun h => .ok rfl))))) fun o ho => .nx ⟨m - 1, by omega, j + 1, w64_succ (by omega), by omega, ho⟩
theorem drawWalk_ok (code : List UInt8) : Tot (s_DrawWalkingTimes code) fun r => Bd r.1 := by
  have h0 := (cur0 code).mono (k' := 10) (by omega)
  unfold s_DrawWalkingTimes
  exact .call (anyNetwork_ok h0 (by omega)) fun r ⟨hc, hb⟩ => .call (walks_ok hc (by omega) hb.1) fun r1 ⟨hc1, _⟩ => .call (t_pick _ hc1 (by omega)) fun r4 ⟨hc4, _⟩ => .call (t_pick _ hc4 (by omega)) fun r5 ⟨hc5, _⟩ => .chk (by decide) (.ok hb)
theorem drawShort_ok (code : List UInt8) : Tot (s_DrawShortestWalk code) fun r => Bd r.1 := by
  have h0 := (cur0 code).mono (k' := 10) (by omega)
  unfold s_DrawShortestWalk
  exact .call (drawWalk_ok code) fun r hb => .call (t_pick _ h0 (by omega)) fun r3 ⟨hc3, _⟩ => .call (t_pick _ hc3 (by omega)) fun r4 ⟨hc4, _⟩ => .chk (by decide) (.ok hb)
/-- The walking times that are told. -/
def Wtm (n : Network) (list : List Walk) (a : Int) (r : List Int) : Prop := Good n ∧ WalksP n.Stops.length list ∧ ∃ (T : List (List Int)) (a' : Nat), a = (a' : Int) ∧ a' < n.Stops.length ∧ i_walkTable n list = some T ∧ WT list n.Stops.length T ∧ r.length = n.Stops.length ∧ ∀ j, j < n.Stops.length → r[j]? = some (tat T a' j)
theorem times_ok {n : Network} (hb : Bd n) (list : List Walk) (a : Int) : ∃ r fine, i_WalkingTimes n list a = some (r, fine) ∧ r.length ≤ 100000 ∧ (fine = true → Wtm n list a r) ∧ (Good n → WalksP n.Stops.length list → 0 ≤ a → a < (n.Stops.length : Int) → fine = true) := by
  rcases WalkingTimes_eq hb list a with ⟨g1, g2, z0, z1, T', r', q1, q2, q3⟩ | ⟨q, q3⟩
  · obtain ⟨T, t1, hT, t4⟩ := wt_of g1 g2
    obtain ⟨r, r1, r2, r3, r4⟩ := t4 a.toNat (by omega)
    have hq := Option.some.inj (t1.symm.trans q1); subst hq; have hq := Option.some.inj (r1.symm.trans q2); subst hq
    have := g1.1
    exact ⟨r, true, q3, by omega, fun _ => ⟨g1, g2, T, a.toNat, by omega, by omega, t1, hT, r2, r3⟩, fun _ _ _ _ => rfl⟩
  · exact ⟨[], false, q3, by simp, fun h => (by cases h), fun h1 h2 h3 h4 => absurd ⟨h1, h2, h3, h4⟩ q⟩
/-- The minutes of the walks of the shortest walk. -/
theorem sum_ok {n : Network} {list : List Walk} {a g : Int} {p : List Int} (hp : Shw n list a g p) {T : List (List Int)} (ht : i_walkTable n list = some T) (x : Network × (List Walk) × Int × Int) (hx : x.2.1 = list) (b : Bool) : ∃ a' g' : Nat, a = (a' : Int) ∧ g = (g' : Int) ∧ a' < n.Stops.length ∧ g' < n.Stops.length ∧ iter (v_FnWalking_L1 x (p, b)) ((0 : Int), (1 : Int)) = some (.go (tat T a' g')) ∧ p[0]? = some a ∧ 1 ≤ p.length ∧ p.length ≤ 100000 ∧ p[p.length - 1]? = some g := by
  obtain ⟨T', a', g', k, S, rfl, rfl, ha, hg, g1, g2, t1, hT, h0, hs, hk, hkb, rfl⟩ := hp
  have hq := Option.some.inj (ht.symm.trans t1); subst hq
  have hd := hT.dst hg
  obtain ⟨P, hP⟩ : ∃ P, P = (a' : Int) :: gpath list n.Stops.length (fun x => tat T x g') S k a' := ⟨_, rfl⟩
  have hlen : P.length = k + 1 := by rw [hP]; simp [gpath_len]
  have hat : ∀ j, j ≤ k → P[j]? = some ((pth list n.Stops.length (fun x => tat T x g') S j a' : Nat) : Int) := fun j hj => by rw [hP]; exact pth_at _ _ _ _ k a' j hj
  have hok := pth_ok hd hs ha hk
  rw [← hP]
  refine ⟨a', g', rfl, rfl, ha, hg, ?_, by rw [hat 0 (by omega)]; rfl, by omega, by omega, ?_⟩
  · refine Tot.val (Tot.iter (fun m s => ∃ j : Nat, s.2 = ((j + 1 : Nat) : Int) ∧ m + j = k ∧ s.1 = tat T a' g' - tat T (pth list n.Stops.length (fun x => tat T x g') S j a') g') (n := k) ⟨0, rfl, by omega, by simp [pth]⟩ ?_)
    rintro m ⟨v, w⟩ ⟨j, hw, hm, hv⟩
    simp only at hw hv
    subst hw
    unfold v_FnWalking_L1
    refine .iteP (fun hc => ?_) (fun hc => .dn ?_)
    · dsimp only at hc ⊢
      have hjk : j + 1 ≤ k := by omega
      have hj := hok j (by omega)
      obtain ⟨n1, n2, _⟩ := nxt_ok hd hs (k := k - j - 1) (a := pth list n.Stops.length (fun x => tat T x g') S j a') (by rw [hj.2]; omega)
      obtain ⟨_, w, he, hD, hsum⟩ := n2
      rw [← pth_succ] at he hD hsum n1
      have hr := he.rng g2
      have e1 : idx P (w64 (((j + 1 : Nat) : Int) - 1)) = some ((pth list n.Stops.length (fun x => tat T x g') S j a' : Nat) : Int) := by rw [w64_pred (by omega)]; exact ixs (hat j (by omega))
      refine .eq e1 (.eq (ixs (hat (j + 1) hjk)) ?_)
      rw [hx]
      have b1 := hT.bd _ _ hj.1 hg
      have b2 := hT.bd _ _ ha hg
      have b3 := hT.bd _ _ n1 hg
      refine .eq (rMin_ok g2 he) (.iteP (fun h => by omega) (fun h => .nx ⟨m - 1, by omega, j + 1, w64_succ (by omega), by omega, ?_⟩))
      dsimp only at hsum hD ⊢
      rw [hv, w64_id (by omega)]; omega
    · have e : j = k := by dsimp only at hc; omega
      subst e
      have hj := hok j (by omega)
      have hz := stp_zero hd hs (a := pth list n.Stops.length (fun x => tat T x g') S j a') (by rw [hj.2]; simp)
      rw [hv, hz]
      have h00 : tat T g' g' = 0 := hd.g0
      rw [h00]; simp
  · have hj := hok k (by omega)
    have hz := stp_zero hd hs (a := pth list n.Stops.length (fun x => tat T x g') S k a') (by rw [hj.2]; simp)
    rw [show P.length - 1 = k by omega, hat k (by omega), hz]
theorem walking_true (code : List UInt8) : v_FnWalking code = some true := by
  unfold v_FnWalking
  rw [rBig_eq]
  refine Tot.val (Tot.eq rfl (.iteP (fun _ => .ok rfl) (fun hlen => ?_)))
  refine .call (drawShort_ok code) fun ⟨n, list, a, g⟩ hb => ?_
  dsimp only at hb ⊢
  obtain ⟨p, ok, c1, c2, c3, c4⟩ := short_ok hb list a g
  obtain ⟨r, fine, d1, d2, d3, d4⟩ := times_ok hb list a
  refine .eq c1 (.eq c2 (.call (P := fun v => v = false) (.ite (fun h => by simp at h) (fun _ => .eq (rInts_refl p c3) (.ok rfl))) fun v hv => ?_))
  subst hv
  refine .ite (fun h => by cases h) (fun _ => ?_)
  refine .eq d1 (.eq (by rw [sTimes_eq hb]; exact d1) (.call (P := fun v => v = false) (.ite (fun h => by simp at h) (fun _ => .eq (rInts_refl r d2) (.ite (fun h => by cases h) (fun _ => .ite (fun hf => .eq (validW_eq hb list) (.ok ?_)) (fun _ => .ok rfl))))) fun v hv => ?_))
  · obtain ⟨g1, g2, _⟩ := d3 hf
    simp [g1, g2]
  subst hv
  refine .ite (fun h => by cases h) (fun _ => ?_)
  refine .flb (Tot.mono (P := fun v => v = .go ()) (.ite (fun hok => ?_) (fun _ => .ok rfl)) fun v hv => ⟨fun r e => (by rw [hv] at e; cases e), fun u _ => ?_⟩)
  · have hp := c4 hok
    obtain ⟨T', a', g', k, S, e1, e2, ha, hg, g1, g2, t1, hT, _⟩ := hp
    have hf := d4 g1 g2 (by omega) (by omega)
    obtain ⟨_, _, T, a2, e3, ha2, t2, hT2, hrl, hr⟩ := d3 hf
    obtain ⟨a3, g3, q1, q2, q3, q4, q5, q6, q7, q8, q9⟩ := sum_ok (c4 hok) t2 (n, list, a, g) rfl ok
    obtain rfl : a3 = a2 := by omega
    refine .flb (Tot.mono (P := fun v => v = .go (tat T a3 g3)) (.of q5 rfl) fun v hv => ⟨fun r e => (by rw [hv] at e; cases e), fun u hu => ?_⟩)
    rw [hv] at hu; cases hu
    refine .call (P := fun v => v = false) (.ite (fun h => by simp [hf] at h) (fun _ => ?_)) fun v hv => by subst hv; exact .ite (fun h => by cases h) (fun _ => .ok rfl)
    have h1 : idx r g = some (tat T a3 g3) := by rw [q2]; exact ixs (hr g3 q4)
    have h2 : idx p 0 = some a := by rw [idx0]; exact q6
    have h3 : idx p (w64 ((p.length : Int) - 1)) = some g := by
      rw [w64_id (by omega), show ((p.length : Int) - 1) = ((p.length - 1 : Nat) : Int) by omega]; exact ixs q9
    exact .eq h1 (.ite (fun h => by simp at h) (fun _ => .eq h2 (.ite (fun h => by simp at h) (fun _ => .eq h3 (.ok (by simp))))))
  refine .flb (Tot.mono (P := fun v => v = .go ()) ?_ fun v hv => ⟨fun r e => (by rw [hv] at e; cases e), fun u _ => ?_⟩)
  · refine Tot.iter (fun m (s : Int) => ∃ j : Nat, s = (j : Int) ∧ (fine = true → m + j = list.length)) (n := list.length) ⟨0, rfl, fun _ => by omega⟩ ?_
    rintro m s ⟨j, rfl, hm⟩
    unfold v_FnWalking_L2
    dsimp only
    refine .call (P := fun b => b = true → fine = true ∧ j < list.length) (.iteP (fun h => .ok fun hf => ⟨hf, by omega⟩) (fun _ => .ok fun h => by cases h)) fun b hb2 => .ite (fun hbt => ?_) (fun _ => .dn rfl)
    obtain ⟨hf, hj⟩ := hb2 hbt
    have hm := hm hf
    obtain ⟨g1, g2, T, a', e3, ha, t2, hT, hrl, hr⟩ := d3 hf
    obtain ⟨e, he⟩ := get_ex hj
    have hme := List.mem_of_getElem? he
    have hw := walk_at g2 hme
    have h12 := g2.1
    unfold WalkP at hw
    have hA : idx r e.A = some (tat T a' e.A.toNat) := idx_of hw.1 (hr _ (by omega))
    have hB : idx r e.B = some (tat T a' e.B.toNat) := idx_of (by omega) (hr _ (by omega))
    have dA := hT.d a' e.A.toNat ha (by omega)
    have dB := hT.d a' e.B.toNat ha (by omega)
    have bA := hT.bd a' e.A.toNat ha (by omega)
    have bB := hT.bd a' e.B.toNat ha (by omega)
    have hE : Edge list e.A.toNat e.B.toNat e.Minutes := ⟨e, hme, .inl ⟨by omega, by omega⟩, rfl⟩
    have k1 : 0 ≤ tat T a' e.A.toNat → 0 ≤ tat T a' e.B.toNat ∧ tat T a' e.B.toNat ≤ tat T a' e.A.toNat + e.Minutes := fun h => dB.2.2 _ ((dA.2.1 h).step hE)
    have k2 : 0 ≤ tat T a' e.B.toNat → 0 ≤ tat T a' e.A.toNat ∧ tat T a' e.A.toNat ≤ tat T a' e.B.toNat + e.Minutes := fun h => dA.2.2 _ ((dB.2.1 h).step hE.symm)
    have lA := dA.1
    have lB := dB.1
    refine .eq (ixs he) (.eq hA (.eq (ixs he) (.eq hB ?_)))
    refine .call (P := fun v => v = false) (.ite (fun h => ?_) (fun _ => .eq (ixs he) (.iteP (fun h => ?_) (fun _ => .eq (ixs he) (.ok (decide_eq_false ?_)))))) fun v hv => by subst hv; exact .ite (fun h => by cases h) (fun _ => .nx ⟨m - 1, by omega, j + 1, w64_succ (by omega), fun _ => by omega⟩)
    · exfalso
      by_cases hz : 0 ≤ tat T a' e.A.toNat
      · have := k1 hz
        simp only [show ¬ tat T a' e.A.toNat < 0 by omega, show ¬ tat T a' e.B.toNat < 0 by omega, decide_false, beq_self_eq_true, Bool.not_true] at h; cases h
      · have : ¬ 0 ≤ tat T a' e.B.toNat := fun hq => hz (k2 hq).1
        simp only [show tat T a' e.A.toNat < 0 by omega, show tat T a' e.B.toNat < 0 by omega, decide_true, beq_self_eq_true, Bool.not_true] at h; cases h
    · rw [w64_id (by omega)] at h; omega
    · rw [w64_id (by omega)]; omega
  obtain ⟨l, told, m1, m2, m3, m4⟩ := close_ok hb list
  refine .eq m1 (.eq m2 (.call (P := fun v => v = false) (.ite (fun h => by simp at h) (fun _ => .eq (rWalks_refl l (by omega)) (.ok rfl))) fun v hv => ?_))
  subst hv
  refine .ite (fun h => by cases h) (fun _ => ?_)
  refine .flb (Tot.mono (P := fun v => v = .go ()) (.call (P := fun b => b = true → told = true ∧ fine = true) (.ite (fun h => .ok fun h2 => ⟨h, h2⟩) (fun _ => .ok fun h => by cases h)) fun b hb2 => .ite (fun hbt => ?_) (fun _ => .ok rfl)) fun v hv => ⟨fun r e => (by rw [hv] at e; cases e), fun u _ => .ok rfl⟩)
  obtain ⟨ht, hf⟩ := hb2 hbt
  obtain ⟨g1, g2, g3, g4⟩ := m4 ht
  obtain ⟨_, _, T, a', e3, ha, t2, hT, hrl, hr⟩ := d3 hf
  have hl := g4 T t2
  obtain ⟨r', fine', p1, p2, p3, p4⟩ := times_ok hb l a
  have hf' := p4 g1 g3 (by omega) (by omega)
  obtain ⟨_, _, T', a2, e4, ha2, t3, hT', hrl', hr'⟩ := p3 hf'
  obtain rfl : a2 = a' := by omega
  have heq : ∀ x y, x < n.Stops.length → y < n.Stops.length → tat T' x y = tat T x y := fun x y hx hy => by
    have := cl_dist hT hx hy
    rw [← hl] at this
    exact (hT'.d x y hx hy).uniq this
  have hrr : r' = r := by
    apply List.ext_getElem?
    intro j
    by_cases hj : j < n.Stops.length
    · rw [hr' j hj, hr j hj, heq a2 j ha hj]
    · rw [List.getElem?_eq_none (by omega), List.getElem?_eq_none (by omega)]
  have hu := useless_ok hb g1 g3 t3 hT' fun e he => by
    rw [hl] at he
    obtain ⟨x, y, q1, q2, q3, rfl⟩ := clA_mem.1 he
    simp only [Int.toNat_natCast]
    rw [heq x y (by omega) q2]; omega
  refine .eq p1 (.eq hu (.call (P := fun v => v = false) (.ite (fun h => by simp [hf'] at h) (fun _ => .ite (fun h => by cases h) (fun _ => .eq (by rw [hrr]; exact rInts_refl r d2) (.ite (fun h => by cases h) (fun _ => .ok rfl))))) fun v hv => ?_))
  subst hv
  exact .ite (fun h => by cases h) (fun _ => .ok rfl)
end Go.Proofs.Ytfknbpimkleimaa
