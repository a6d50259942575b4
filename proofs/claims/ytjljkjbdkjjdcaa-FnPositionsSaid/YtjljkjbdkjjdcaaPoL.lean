/- The plain law: what the models compute, no program in sight. -/
import Derived.Test.YtjljkjbdkjjdcaaPoM
import Derived.Test.YtjljkjbdkjjdcaaAbStb
namespace Go.Proofs.Ytjljkjbdkjjdcaa
open Go Go.Ab
set_option maxHeartbeats 4000000
set_option linter.unusedVariables false
set_option linter.unusedSimpArgs false
/-! The cursor of the draws: it always answers. -/
def Cur (k : Nat) (c : l1Cur) : Prop := 0 ≤ c.at_ ∧ c.at_ ≤ k
theorem Cur.mono {k k' : Nat} {c : l1Cur} (h : Cur k c) (hk : k ≤ k') : Cur k' c := ⟨h.1, by have := h.2; omega⟩
theorem next_ok {k : Nat} {c : l1Cur} (h : Cur k c) (hk : k ≤ 4000000000) : ∃ r, s_l1Cur_next c = some r ∧ Cur (k + 1) r.2 ∧ 0 ≤ r.1 ∧ r.1 ≤ 255 := by
  obtain ⟨h0, h1⟩ := h
  have hw : w64 (c.at_ + 1) = c.at_ + 1 := w64_id (by omega)
  have hcur : ∀ s, Cur (k + 1) ⟨c.code_, w64 (c.at_ + 1), s⟩ := fun s => by rw [hw]; exact ⟨by show 0 ≤ c.at_ + 1; omega, by show c.at_ + 1 ≤ _; omega⟩
  unfold s_l1Cur_next
  have hv : ∃ v, (if (decide (c.at_ < (c.code_.length : Int))) = true then (idx c.code_ c.at_).bind fun e1 => some (w64 ((e1.toNat : Int))) else some 0) = some v ∧ 0 ≤ v ∧ v ≤ 255 := by
    by_cases hlt : c.at_ < c.code_.length
    · obtain ⟨x, hx, _, _⟩ := idx_lt h0 hlt
      have := x.toNat_lt
      refine ⟨(x.toNat : Int), ?_, by omega, by omega⟩
      simp only [hlt, decide_true, if_true, hx, Option.bind_some]
      rw [w64_id (by omega)]
    · exact ⟨0, by simp [hlt], by omega, by omega⟩
  obtain ⟨v, hv, hv0, hv1⟩ := hv
  rw [hv]
  simp only [Option.bind_some]
  split
  · exact ⟨_, rfl, hcur _, hv0, hv1⟩
  · rw [chk_of (by omega)]
    exact ⟨_, rfl, hcur _, and255 _⟩
theorem pick_ok {k : Nat} {c : l1Cur} (n : Int) (h : Cur k c) (hk : k ≤ 3000000000) : ∃ r, s_l1Cur_pick c n = some r ∧ Cur (k + 2) r.2 ∧ 0 ≤ r.1 ∧ (r.1 < n ∨ r.1 = 0) := by
  unfold s_l1Cur_pick
  by_cases hn : n ≤ 1
  · exact ⟨(0, c), by simp [hn], h.mono (by omega), by simp, .inr rfl⟩
  · obtain ⟨r, hr, hc, h0, h1⟩ := next_ok h (by omega)
    have hn' : decide (n ≤ 1) = false := by simpa using hn
    simp only [hn', Bool.false_eq_true, if_false, hr, Option.bind_some]
    have hne : chk (n ≠ 0) = some () := chk_of (by omega)
    by_cases h2 : 200 < n
    · obtain ⟨r', hr', hc', h0', h1'⟩ := next_ok hc (by omega)
      have e1 : w64 (r.1 * 256) = r.1 * 256 := w64_id (by omega)
      have e2 : w64 (r.1 * 256 + r'.1) = r.1 * 256 + r'.1 := w64_id (by omega)
      have h3 := tmod_rng (a := r.1 * 256 + r'.1) (b := n) (by omega) (by omega)
      simp only [h2, decide_true, if_true, hr', Option.bind_some, hne, e1, e2]
      exact ⟨_, rfl, hc'.mono (by omega), h3.1, .inl h3.2⟩
    · have h2' : decide (200 < n) = false := by simpa using h2
      have h3 := tmod_rng (a := r.1) (b := n) (by omega) (by omega)
      simp only [h2', Bool.false_eq_true, if_false, Option.bind_some, hne]
      exact ⟨_, rfl, hc.mono (by omega), h3.1, .inl h3.2⟩
theorem amongw_ok {k : Nat} {c : l1Cur} (l : List Int) (hl : l ≠ []) (h : Cur k c) (hk : k ≤ 3000000000) : ∃ r, s_l1Cur_among_w c l = some r ∧ Cur (k + 2) r.2 ∧ r.1 ∈ l := by
  unfold s_l1Cur_among_w
  obtain ⟨r, hr, hc, h0, h1⟩ := pick_ok (l.length : Int) h hk
  have hpos : 0 < l.length := List.length_pos_iff.2 hl
  obtain ⟨x, hx, _, hm⟩ := idx_lt (l := l) h0 (by omega)
  simp only [hr, Option.bind_some, hx]
  exact ⟨_, rfl, hc, hm⟩
theorem among_ok {k : Nat} {c : l1Cur} (l : List Int) (hl : l ≠ []) (h : Cur k c) (hk : k ≤ 3000000000) : ∃ r, s_l1Cur_among c l = some r ∧ Cur (k + 2) r.2 ∧ r.1 ∈ l := by
  have : s_l1Cur_among c l = s_l1Cur_among_w c l := rfl
  rw [this]; exact amongw_ok l hl h hk
theorem one_ok {k : Nat} {c : l1Cur} (n : Int) (h : Cur k c) (hk : k ≤ 3000000000) : ∃ r, s_l1Cur_one c n = some r ∧ Cur (k + 2) r.2 := by
  unfold s_l1Cur_one
  obtain ⟨r, hr, hc, _, _⟩ := pick_ok n h hk
  simp only [hr, Option.bind_some]
  exact ⟨_, rfl, hc⟩
theorem of_ok {k : Nat} {c : l1Cur} (l : List ByteArray) (hl : l ≠ []) (h : Cur k c) (hk : k ≤ 3000000000) : ∃ r, s_l1Cur_of c l = some r ∧ Cur (k + 2) r.2 ∧ r.1 ∈ l := by
  unfold s_l1Cur_of
  obtain ⟨r, hr, hc, h0, h1⟩ := pick_ok (l.length : Int) h hk
  have hpos : 0 < l.length := List.length_pos_iff.2 hl
  obtain ⟨x, hx, _, hm⟩ := idx_lt (l := l) h0 (by omega)
  simp only [hr, Option.bind_some, hx]
  exact ⟨_, rfl, hc, hm⟩
theorem ofw_ok {k : Nat} {c : l1Cur} (l : List ByteArray) (hl : l ≠ []) (h : Cur k c) (hk : k ≤ 3000000000) : ∃ r, s_l1Cur_of_w c l = some r ∧ Cur (k + 2) r.2 ∧ r.1 ∈ l := by
  have : s_l1Cur_of_w c l = s_l1Cur_of c l := rfl
  rw [this]; exact of_ok l hl h hk
theorem cur0 (code : List UInt8) : Cur 0 ⟨code, 0, ⟨0⟩⟩ := ⟨by show (0 : Int) ≤ 0; omega, by show (0 : Int) ≤ _; omega⟩
/-! Networks: when they are valid, for the program and for the reference. -/
theorem within_eq (n lo hi : Int) : i_within n lo hi = some (decide (lo ≤ n ∧ n ≤ hi)) := by
  unfold i_within
  by_cases h : lo ≤ n <;> simp [h]
theorem l1In_eq (n lo hi : Int) : s_l1In n lo hi = some (decide (lo ≤ n ∧ n ≤ hi)) := by
  unfold s_l1In
  by_cases h : lo ≤ n <;> simp [h]
/-- Byte i of a name. -/
def ChOK (i : Nat) (c : UInt8) : Prop := (97 ≤ (c.toNat : Int) ∧ (c.toNat : Int) ≤ 122) ∨ (i ≠ 0 ∧ 48 ≤ (c.toNat : Int) ∧ (c.toNat : Int) ≤ 57)
def NameOK (s : ByteArray) : Prop := (1 ≤ s.size ∧ s.size ≤ 8) ∧ ∀ (i : Nat) c, s.data.toList[i]? = some c → ChOK i c
open Classical in
noncomputable instance (s : ByteArray) : Decidable (NameOK s) := Classical.propDecidable _
theorem size_list (s : ByteArray) : s.data.toList.length = s.size := by simp
theorem getD_of {α : Type} {l : List α} {i : Nat} {x d : α} (h : l[i]? = some x) : l.getD i d = x := by rw [List.getD_eq_getElem?_getD, h]; rfl

theorem isName_eq (s : ByteArray) : i_isName s = some (decide (NameOK s)) := by
  unfold i_isName
  by_cases h1 : 1 ≤ s.size ∧ s.size ≤ 8
  · have e1 : decide ((s.size : Int) < 1) = false := by simp; omega
    have e2 : decide (8 < (s.size : Int)) = false := by simp; omega
    simp only [e1, e2, Bool.false_eq_true, if_false, Option.bind_some]
    have hsz := size_list s
    have key := all_loop s.data.toList ChOK (step := i_isName_L1 s) ?_ ?_ 0 0 rfl (by omega)
    · rcases key with ⟨g1, g2⟩ | ⟨g1, g2⟩
      · rw [g1, flb_go]
        have : NameOK s := ⟨h1, fun i c hc => g2 i c (by omega) hc⟩
        simp [this]
      · rw [g1, flb_ret]
        have : ¬ NameOK s := fun hn => g2 fun i c _ hc => hn.2 i c hc
        simp [this]
    · intro i x hx
      have hi := (List.getElem?_eq_some_iff.1 hx).1
      have hg : s.data.toList.getD (i : Int).toNat 0 = x := by rw [Int.toNat_natCast]; exact getD_of hx
      have hc : chk ((0 : Int) ≤ (i : Int) ∧ (i : Int) < (s.size : Int)) = some () := chk_of (by omega)
      have hlt : decide ((i : Int) < (s.size : Int)) = true := by simp; omega
      unfold i_isName_L1
      simp only [hlt, if_true, hc, hg, Option.bind_some, w64_succ (n := i) (by omega)]
      unfold ChOK
      by_cases a1 : (97 : Int) ≤ (x.toNat : Int)
      · by_cases a2 : (x.toNat : Int) ≤ 122
        · left; refine ⟨by simp [a1, a2], .inl ⟨a1, a2⟩⟩
        · right
          refine ⟨?_, by omega⟩
          have b1 : decide ((x.toNat : Int) < 48) = false := by simp; omega
          have b2 : decide ((57 : Int) < (x.toNat : Int)) = true := by simp; omega
          have c1 : ¬ (x.toNat : Int) < 48 := by omega
          have c2 : (57 : Int) < (x.toNat : Int) := by omega
          by_cases hi0 : i = 0
          · simp [a1, a2, hi0]
          · have hi0' : ((i : Int) == 0) = false := by simp; omega
            simp [a1, a2, hi0', c1, c2]
      · by_cases hi0 : i = 0
        · right
          refine ⟨by simp [a1, hi0], by omega⟩
        · have hi0' : ((i : Int) == 0) = false := by simp; omega
          by_cases b1 : (x.toNat : Int) < 48
          · right
            refine ⟨by simp [a1, hi0', b1], by omega⟩
          · by_cases b2 : (57 : Int) < (x.toNat : Int)
            · right
              refine ⟨by simp [a1, hi0', b1, b2], by omega⟩
            · left
              refine ⟨by simp [a1, hi0', b1, b2], .inr ⟨hi0, by omega, by omega⟩⟩
    · unfold i_isName_L1
      rw [hsz]
      simp
  · have : ¬ NameOK s := fun h => h1 h.1
    have e : (if (decide ((s.size : Int) < 1)) = true then some true else some (decide (8 < (s.size : Int)))) = some true := by
      by_cases h2 : s.size < 1
      · have : decide ((s.size : Int) < 1) = true := by simp; omega
        simp [this]
      · have e1 : decide ((s.size : Int) < 1) = false := by simp; omega
        have e2 : decide (8 < (s.size : Int)) = true := by simp; omega
        simp [e1, e2]
    rw [e]
    simp [this]

theorem l2Name_eq (s : ByteArray) : s_l2Name s = some (decide (NameOK s)) := by
  unfold s_l2Name
  rw [l1In_eq]
  simp only [Option.bind_some]
  by_cases h1 : 1 ≤ s.size ∧ s.size ≤ 8
  · have e1 : decide ((1 : Int) ≤ (s.size : Int) ∧ (s.size : Int) ≤ 8) = true := by simp; omega
    have hsz := size_list s
    obtain ⟨x0, hx0⟩ := get_ex (l := s.data.toList) (i := 0) (by omega)
    have hg0 : s.data.toList.getD (0 : Int).toNat 0 = x0 := getD_of hx0
    have hc0 : chk ((0 : Int) ≤ 0 ∧ 0 < (s.size : Int)) = some () := chk_of (by omega)
    simp only [e1, Bool.not_true, Bool.false_eq_true, if_false, hc0, hg0, Option.bind_some]
    by_cases a0 : 97 ≤ (x0.toNat : Int) ∧ (x0.toNat : Int) ≤ 122
    · have b1 : decide ((x0.toNat : Int) < 97) = false := by simp; omega
      have b2 : decide ((122 : Int) < (x0.toNat : Int)) = false := by simp; omega
      simp only [b1, b2, Bool.false_eq_true, if_false, Option.bind_some]
      have key := all_loop s.data.toList ChOK (step := s_l2Name_L1 s) ?_ ?_ 0 0 rfl (by omega)
      · rcases key with ⟨g1, g2⟩ | ⟨g1, g2⟩
        · rw [g1, flb_go]
          have : NameOK s := ⟨h1, fun i c hc => g2 i c (by omega) hc⟩
          simp [this]
        · rw [g1, flb_ret]
          have : ¬ NameOK s := fun hn => g2 fun i c _ hc => hn.2 i c hc
          simp [this]
      · intro i x hx
        have hi := (List.getElem?_eq_some_iff.1 hx).1
        have hg : s.data.toList.getD (i : Int).toNat 0 = x := by rw [Int.toNat_natCast]; exact getD_of hx
        have hc : chk ((0 : Int) ≤ (i : Int) ∧ (i : Int) < (s.size : Int)) = some () := chk_of (by omega)
        have hlt : decide ((i : Int) < (s.size : Int)) = true := by simp; omega
        have h0 : i = 0 → x = x0 := fun h => by subst h; rw [hx0] at hx; cases hx; rfl
        unfold s_l2Name_L1
        simp only [hlt, if_true, hc, hg, Option.bind_some, w64_succ (n := i) (by omega)]
        unfold ChOK
        by_cases a1 : (x.toNat : Int) < 97
        · have hi0 : i ≠ 0 := fun h => by have := h0 h; subst this; omega
          by_cases c1 : (x.toNat : Int) < 48
          · right; refine ⟨by simp [a1, c1], by omega⟩
          · by_cases c2 : (57 : Int) < (x.toNat : Int)
            · right; refine ⟨by simp [a1, c1, c2], by omega⟩
            · left; refine ⟨by simp [a1, c1, c2], .inr ⟨hi0, by omega, by omega⟩⟩
        · by_cases a2 : (122 : Int) < (x.toNat : Int)
          · right
            have c1 : ¬ (x.toNat : Int) < 48 := by omega
            have c2 : (57 : Int) < (x.toNat : Int) := by omega
            refine ⟨by simp [a1, a2, c1, c2], by omega⟩
          · left; refine ⟨by simp [a1, a2], .inl ⟨by omega, by omega⟩⟩
      · unfold s_l2Name_L1
        rw [hsz]
        simp
    · have : ¬ NameOK s := fun hn => by
        have := hn.2 0 x0 hx0
        unfold ChOK at this
        omega
      have e : (if (decide ((x0.toNat : Int) < 97)) = true then some true else some (decide ((122 : Int) < (x0.toNat : Int)))) = some true := by
        by_cases h2 : (x0.toNat : Int) < 97
        · simp [h2]
        · have : (122 : Int) < (x0.toNat : Int) := by omega
          simp [h2, this]
      rw [e]
      simp [this]
  · have e1 : decide ((1 : Int) ≤ (s.size : Int) ∧ (s.size : Int) ≤ 8) = false := by simp; omega
    have : ¬ NameOK s := fun h => h1 h.1
    simp [e1, this]

/-! Searches -/
theorem index_str_eq (l : List ByteArray) (hl : l.length ≤ 4000000000) (v : ByteArray) : slices_Index_string l v = some (fixI (fun e => v.toList == e.toList) l) := by
  unfold slices_Index_string
  refine find_val l (fun e => v.toList == e.toList) (fun i x hx => ?_) (by unfold slices_Index_string_L1; simp)
  have hi := (List.getElem?_eq_some_iff.1 hx).1
  unfold slices_Index_string_L1
  have hlt : decide ((i : Int) < (l.length : Int)) = true := by simp; omega
  simp only [hlt, if_true, idx_nat, hx, Option.bind_some, w64_succ (n := i) (by omega)]
  split <;> rfl
theorem index_int_eq (l : List Int) (hl : l.length ≤ 4000000000) (v : Int) : slices_Index_int l v = some (fixI (fun e => v == e) l) := by
  unfold slices_Index_int
  refine find_val l (fun e => v == e) (fun i x hx => ?_) (by unfold slices_Index_int_L1; simp)
  have hi := (List.getElem?_eq_some_iff.1 hx).1
  unfold slices_Index_int_L1
  have hlt : decide ((i : Int) < (l.length : Int)) = true := by simp; omega
  simp only [hlt, if_true, idx_nat, hx, Option.bind_some, w64_succ (n := i) (by omega)]
  split <;> rfl
theorem l2Place_eq (x : Line) (hl : x.Stops.length ≤ 4000000000) (v : Int) : s_l2Place x v = some (fixI (fun e => v == e) x.Stops) := by
  have hc : fixI (fun e => v == e) x.Stops = fixI (fun e => e == v) x.Stops := fixI_congr _ fun e => BEq.comm
  rw [hc]
  unfold s_l2Place
  refine find_val x.Stops (fun e => e == v) (fun i y hx => ?_) (by unfold s_l2Place_L1; simp)
  have hi := (List.getElem?_eq_some_iff.1 hx).1
  unfold s_l2Place_L1
  have hlt : decide ((i : Int) < (x.Stops.length : Int)) = true := by simp; omega
  simp only [hlt, if_true, idx_nat, hx, Option.bind_some, w64_succ (n := i) (by omega)]
  split <;> rfl
theorem bl_comm (a b : List UInt8) : (a == b) = (b == a) := BEq.comm
theorem l2Find_eq (l : List ByteArray) (hl : l.length ≤ 4000000000) (v : ByteArray) : s_l2Find l v = some (fixI (fun e => v.toList == e.toList) l) := by
  rw [fixI_congr l (q := fun e => e.toList == v.toList) fun e => bl_comm _ _]
  unfold s_l2Find
  refine find_val l (fun e => e.toList == v.toList) (fun i x hx => ?_) (by unfold s_l2Find_L1; simp)
  have hi := (List.getElem?_eq_some_iff.1 hx).1
  unfold s_l2Find_L1
  have hlt : decide ((i : Int) < (l.length : Int)) = true := by simp; omega
  simp only [hlt, if_true, idx_nat, hx, Option.bind_some, w64_succ (n := i) (by omega)]
  split <;> rfl
theorem l2LineNamed_eq (n : Network) (hl : n.Lines.length ≤ 4000000000) (v : ByteArray) : s_l2LineNamed n v = some (fixI (fun e => v.toList == e.toList) (n.Lines.map (·.Name))) := by
  rw [fixI_map, fixI_congr n.Lines (q := fun e => e.Name.toList == v.toList) fun e => bl_comm _ _]
  unfold s_l2LineNamed
  refine find_val n.Lines (fun e => e.Name.toList == v.toList) (fun i x hx => ?_) (by unfold s_l2LineNamed_L1; simp)
  have hi := (List.getElem?_eq_some_iff.1 hx).1
  unfold s_l2LineNamed_L1
  have hlt : decide ((i : Int) < (n.Lines.length : Int)) = true := by simp; omega
  simp only [hlt, if_true, idx_nat, hx, Option.bind_some, w64_succ (n := i) (by omega)]
  split <;> rfl
def NamesP (l : List ByteArray) : Prop := ∀ (i : Nat) x, l[i]? = some x → NameOK x ∧ fixI (fun e => x.toList == e.toList) l = (i : Int)
def LineP (st : Nat) (x : Line) : Prop := (2 ≤ x.Stops.length ∧ x.Stops.length ≤ 6) ∧ (x.Runs.length : Int) = (x.Stops.length : Int) - 1 ∧
  (∀ (i : Nat) e, x.Stops[i]? = some e → (0 ≤ e ∧ e < (st : Int)) ∧ fixI (fun y => e == y) x.Stops = (i : Int)) ∧ ∀ (i : Nat) r, x.Runs[i]? = some r → 1 ≤ r ∧ r ≤ 60
def Good (n : Network) : Prop := (2 ≤ n.Stops.length ∧ n.Stops.length ≤ 8) ∧ (1 ≤ n.Lines.length ∧ n.Lines.length ≤ 5) ∧ NamesP n.Stops ∧ NamesP (n.Lines.map (·.Name)) ∧ ∀ (i : Nat) x, n.Lines[i]? = some x → LineP n.Stops.length x
noncomputable instance (l : List ByteArray) : Decidable (NamesP l) := Classical.propDecidable _
noncomputable instance (st : Nat) (x : Line) : Decidable (LineP st x) := Classical.propDecidable _
noncomputable instance (n : Network) : Decidable (Good n) := Classical.propDecidable _
/-- No list is too long. -/
def Bd (n : Network) : Prop := n.Stops.length ≤ 1000 ∧ n.Lines.length ≤ 1000 ∧ ∀ x ∈ n.Lines, x.Stops.length ≤ 1000 ∧ x.Runs.length ≤ 1000

theorem areNames_eq (l : List ByteArray) (hl : l.length ≤ 1000) : i_areNames l = some (decide (NamesP l)) := by
  unfold i_areNames
  rw [all_val (hd := Classical.propDecidable _) l (fun i x => NameOK x ∧ fixI (fun e => x.toList == e.toList) l = (i : Int)) (fun i x hx => ?_) (by unfold i_areNames_L1; simp)]
  · by_cases h : NamesP l
    · rw [if_pos (show ∀ (i : Nat) x, l[i]? = some x → NameOK x ∧ fixI (fun e => x.toList == e.toList) l = (i : Int) from h)]; simp [h]
    · rw [if_neg (show ¬ ∀ (i : Nat) x, l[i]? = some x → NameOK x ∧ fixI (fun e => x.toList == e.toList) l = (i : Int) from h)]; simp [h]
  · have hi := (List.getElem?_eq_some_iff.1 hx).1
    unfold i_areNames_L1
    have hlt : decide ((i : Int) < (l.length : Int)) = true := by simp; omega
    simp only [hlt, if_true, idx_nat, hx, Option.bind_some, isName_eq, index_str_eq l (by omega), w64_succ (n := i) (by omega)]
    by_cases h1 : NameOK x
    · by_cases h2 : fixI (fun e => x.toList == e.toList) l = (i : Int)
      · left; simp [h1, h2]
      · right; simp [h1, h2]
    · right; simp [h1]

theorem lineNames_eq (n : Network) (hl : n.Lines.length ≤ 1000) : i_lineNames n = some (n.Lines.map (·.Name)) := by
  unfold i_lineNames
  rw [chk_of (by omega)]
  simp only [Option.bind_some]
  rw [fill_loop (fun x : Line => x.Name) n.Lines _ (by simp) (fun i a x y ha hy hx => ?_) (fun a ha => ?_)]
  · rfl
  · have hi := (List.getElem?_eq_some_iff.1 hx).1
    unfold i_lineNames_L1
    have hlt : decide ((i : Int) < (n.Lines.length : Int)) = true := by simp; omega
    simp only [hlt, if_true, idx_nat, hx, hy, Option.bind_some, w64_succ (n := i) (by omega), Int.toNat_natCast]
  · unfold i_lineNames_L1; simp

theorem isStop_eq (n : Network) (e : Int) : i_isStop n e = some (decide (0 ≤ e ∧ e < (n.Stops.length : Int))) := by
  unfold i_isStop
  by_cases h : 0 ≤ e <;> simp [h]
theorem isLine_eq (n : Network) (e : Int) : i_isLine n e = some (decide (0 ≤ e ∧ e < (n.Lines.length : Int))) := by
  unfold i_isLine
  by_cases h : 0 ≤ e <;> simp [h]

theorem isValidLine_eq (n : Network) (l : Line) (h1 : l.Stops.length ≤ 1000) (h2 : l.Runs.length ≤ 1000) : i_isValidLine n l = some (decide (LineP n.Stops.length l)) := by
  unfold i_isValidLine
  rw [within_eq]
  have e0 : w64 ((l.Stops.length : Int) - 1) = (l.Stops.length : Int) - 1 := w64_id (by omega)
  simp only [Option.bind_some, e0]
  by_cases a1 : 2 ≤ l.Stops.length ∧ l.Stops.length ≤ 6
  · have d1 : decide ((2 : Int) ≤ (l.Stops.length : Int) ∧ (l.Stops.length : Int) ≤ 6) = true := by simp; omega
    simp only [d1, Bool.not_true, Bool.false_eq_true, if_false]
    by_cases a2 : (l.Runs.length : Int) = (l.Stops.length : Int) - 1
    · have d2 : ((l.Runs.length : Int) != (l.Stops.length : Int) - 1) = false := by simp [a2]
      simp only [d2, Option.bind_some, Bool.false_eq_true, if_false]
      rw [all_val (hd := Classical.propDecidable _) l.Stops (fun i e => (0 ≤ e ∧ e < (n.Stops.length : Int)) ∧ fixI (fun y => e == y) l.Stops = (i : Int)) (fun i x hx => ?_) (by unfold i_isValidLine_L1; simp)]
      · rw [all_val (hd := Classical.propDecidable _) l.Runs (fun i r => 1 ≤ r ∧ r ≤ 60) (fun i x hx => ?_) (by unfold i_isValidLine_L2; simp)]
        · by_cases b1 : ∀ (i : Nat) e, l.Stops[i]? = some e → (0 ≤ e ∧ e < (n.Stops.length : Int)) ∧ fixI (fun y => e == y) l.Stops = (i : Int)
          · rw [if_pos b1]
            by_cases b2 : ∀ (i : Nat) r, l.Runs[i]? = some r → 1 ≤ r ∧ r ≤ 60
            · rw [if_pos b2]
              have : LineP n.Stops.length l := ⟨a1, a2, b1, b2⟩
              simp [this]
            · rw [if_neg b2]
              have : ¬ LineP n.Stops.length l := fun h => b2 h.2.2.2
              simp [this]
          · rw [if_neg b1]
            have : ¬ LineP n.Stops.length l := fun h => b1 h.2.2.1
            simp [this]
        · have hi := (List.getElem?_eq_some_iff.1 hx).1
          unfold i_isValidLine_L2
          have hlt : decide ((i : Int) < (l.Runs.length : Int)) = true := by simp; omega
          simp only [hlt, if_true, idx_nat, hx, Option.bind_some, within_eq, w64_succ (n := i) (by omega)]
          by_cases b : 1 ≤ x ∧ x ≤ 60
          · left; simp [b]
          · right; simp [b]
      · have hi := (List.getElem?_eq_some_iff.1 hx).1
        unfold i_isValidLine_L1
        have hlt : decide ((i : Int) < (l.Stops.length : Int)) = true := by simp; omega
        simp only [hlt, if_true, idx_nat, hx, Option.bind_some, isStop_eq, index_int_eq l.Stops (by omega), w64_succ (n := i) (by omega)]
        by_cases b1 : 0 ≤ x ∧ x < (n.Stops.length : Int)
        · by_cases b2 : fixI (fun y => x == y) l.Stops = (i : Int)
          · left; simp [b1, b2]
          · right; simp [b1, b2]
        · right; simp [b1]
    · have d2 : ((l.Runs.length : Int) != (l.Stops.length : Int) - 1) = true := by simp [a2]
      have : ¬ LineP n.Stops.length l := fun h => a2 h.2.1
      simp [d2, this]
  · have d1 : decide ((2 : Int) ≤ (l.Stops.length : Int) ∧ (l.Stops.length : Int) ≤ 6) = false := by simp; omega
    have : ¬ LineP n.Stops.length l := fun h => a1 h.1
    simp [d1, this]

theorem l2Line_eq (l : Line) (st : Nat) (hst : st ≤ 1000) (h1 : l.Stops.length ≤ 1000) (h2 : l.Runs.length ≤ 1000) : s_l2Line l (st : Int) = some (decide (NameOK l.Name ∧ LineP st l)) := by
  unfold s_l2Line
  rw [l2Name_eq]
  have e0 : w64 ((l.Stops.length : Int) - 1) = (l.Stops.length : Int) - 1 := w64_id (by omega)
  have e1 : w64 ((st : Int) - 1) = (st : Int) - 1 := w64_id (by omega)
  simp only [Option.bind_some, e0, l1In_eq]
  by_cases a0 : NameOK l.Name
  · simp only [a0, decide_true, Bool.not_true, Bool.false_eq_true, if_false, true_and]
    by_cases a1 : 2 ≤ l.Stops.length ∧ l.Stops.length ≤ 6
    · have d1 : decide ((2 : Int) ≤ (l.Stops.length : Int) ∧ (l.Stops.length : Int) ≤ 6) = true := by simp; omega
      simp only [d1, Bool.not_true, Bool.false_eq_true, if_false]
      by_cases a2 : (l.Runs.length : Int) = (l.Stops.length : Int) - 1
      · have d2 : ((l.Runs.length : Int) != (l.Stops.length : Int) - 1) = false := by simp [a2]
        simp only [d2, Option.bind_some, Bool.false_eq_true, if_false]
        rw [all_val (hd := Classical.propDecidable _) l.Stops (fun i e => (0 ≤ e ∧ e < (st : Int)) ∧ fixI (fun y => e == y) l.Stops = (i : Int)) (fun i x hx => ?_) (by unfold s_l2Line_L1; simp)]
        · rw [all_val (hd := Classical.propDecidable _) l.Runs (fun i r => 1 ≤ r ∧ r ≤ 60) (fun i x hx => ?_) (by unfold s_l2Line_L2; simp)]
          · by_cases b1 : ∀ (i : Nat) e, l.Stops[i]? = some e → (0 ≤ e ∧ e < (st : Int)) ∧ fixI (fun y => e == y) l.Stops = (i : Int)
            · rw [if_pos b1]
              by_cases b2 : ∀ (i : Nat) r, l.Runs[i]? = some r → 1 ≤ r ∧ r ≤ 60
              · rw [if_pos b2]
                have : LineP st l := ⟨a1, a2, b1, b2⟩
                simp [this]
              · rw [if_neg b2]
                have : ¬ LineP st l := fun h => b2 h.2.2.2
                simp [this]
            · rw [if_neg b1]
              have : ¬ LineP st l := fun h => b1 h.2.2.1
              simp [this]
          · have hi := (List.getElem?_eq_some_iff.1 hx).1
            unfold s_l2Line_L2
            have hlt : decide ((i : Int) < (l.Runs.length : Int)) = true := by simp; omega
            simp only [hlt, if_true, idx_nat, hx, Option.bind_some, l1In_eq, w64_succ (n := i) (by omega)]
            by_cases b : 1 ≤ x ∧ x ≤ 60
            · left; simp [b]
            · right; simp [b]
        · have hi := (List.getElem?_eq_some_iff.1 hx).1
          unfold s_l2Line_L1
          have hlt : decide ((i : Int) < (l.Stops.length : Int)) = true := by simp; omega
          simp only [hlt, if_true, idx_nat, hx, Option.bind_some, l1In_eq, e1, l2Place_eq l (by omega), w64_succ (n := i) (by omega)]
          by_cases b1 : 0 ≤ x ∧ x < (st : Int)
          · have d3 : decide (0 ≤ x ∧ x ≤ (st : Int) - 1) = true := by simp; omega
            by_cases b2 : fixI (fun y => x == y) l.Stops = (i : Int)
            · left; simp only [d3]; simp [b1, b2]
            · right; simp only [d3]; simp [b1, b2]
          · have d3 : decide (0 ≤ x ∧ x ≤ (st : Int) - 1) = false := by simp; omega
            right; simp only [d3]; simp [b1]
      · have d2 : ((l.Runs.length : Int) != (l.Stops.length : Int) - 1) = true := by simp [a2]
        have : ¬ LineP st l := fun h => a2 h.2.1
        simp [d2, this]
    · have d1 : decide ((2 : Int) ≤ (l.Stops.length : Int) ∧ (l.Stops.length : Int) ≤ 6) = false := by simp; omega
      have : ¬ LineP st l := fun h => a1 h.1
      simp [d1, this]
  · simp [a0]

theorem valid_eq (n : Network) (h : Bd n) : i_IsValidNetwork n = some (decide (Good n)) := by
  obtain ⟨h1, h2, h3⟩ := h
  unfold i_IsValidNetwork
  simp only [within_eq, Option.bind_some, areNames_eq n.Stops h1, lineNames_eq n h2, areNames_eq (n.Lines.map (·.Name)) (by simpa using h2)]
  by_cases a1 : 2 ≤ n.Stops.length ∧ n.Stops.length ≤ 8
  · have d1 : decide ((2 : Int) ≤ (n.Stops.length : Int) ∧ (n.Stops.length : Int) ≤ 8) = true := by simp; omega
    simp only [d1, Bool.not_true, Bool.false_eq_true, if_false]
    by_cases a2 : 1 ≤ n.Lines.length ∧ n.Lines.length ≤ 5
    · have d2 : decide ((1 : Int) ≤ (n.Lines.length : Int) ∧ (n.Lines.length : Int) ≤ 5) = true := by simp; omega
      simp only [d2, Bool.not_true, Bool.false_eq_true, if_false]
      by_cases a3 : NamesP n.Stops
      · simp only [a3, decide_true, Bool.not_true, Bool.false_eq_true, if_false]
        by_cases a4 : NamesP (n.Lines.map (·.Name))
        · simp only [a4, decide_true, Bool.not_true, Option.bind_some, Bool.false_eq_true, if_false]
          rw [all_val (hd := Classical.propDecidable _) n.Lines (fun i x => LineP n.Stops.length x) (fun i x hx => ?_) (by unfold i_IsValidNetwork_L1; simp)]
          · by_cases b1 : ∀ (i : Nat) x, n.Lines[i]? = some x → LineP n.Stops.length x
            · rw [if_pos b1]
              have : Good n := ⟨a1, a2, a3, a4, b1⟩
              simp [this]
            · rw [if_neg b1]
              have : ¬ Good n := fun h => b1 h.2.2.2.2
              simp [this]
          · have hi := (List.getElem?_eq_some_iff.1 hx).1
            obtain ⟨g1, g2⟩ := h3 x (List.mem_of_getElem? hx)
            unfold i_IsValidNetwork_L1
            have hlt : decide ((i : Int) < (n.Lines.length : Int)) = true := by simp; omega
            simp only [hlt, if_true, idx_nat, hx, Option.bind_some, isValidLine_eq n x g1 g2, w64_succ (n := i) (by omega)]
            by_cases b : LineP n.Stops.length x
            · left; simp [b]
            · right; simp [b]
        · have : ¬ Good n := fun h => a4 h.2.2.2.1
          simp [a4, this]
      · have : ¬ Good n := fun h => a3 h.2.2.1
        simp [a3, this]
    · have d2 : decide ((1 : Int) ≤ (n.Lines.length : Int) ∧ (n.Lines.length : Int) ≤ 5) = false := by simp; omega
      have : ¬ Good n := fun h => a2 h.2.1
      simp [d2, this]
  · have d1 : decide ((2 : Int) ≤ (n.Stops.length : Int) ∧ (n.Stops.length : Int) ≤ 8) = false := by simp; omega
    have : ¬ Good n := fun h => a1 h.1
    simp [d1, this]

theorem good_eq (n : Network) (h : Bd n) : s_l2Good n = some (decide (Good n)) := by
  obtain ⟨h1, h2, h3⟩ := h
  unfold s_l2Good
  simp only [l1In_eq, Option.bind_some]
  by_cases a1 : 2 ≤ n.Stops.length ∧ n.Stops.length ≤ 8
  · have d1 : decide ((2 : Int) ≤ (n.Stops.length : Int) ∧ (n.Stops.length : Int) ≤ 8) = true := by simp; omega
    simp only [d1, Bool.not_true, Bool.false_eq_true, if_false]
    by_cases a2 : 1 ≤ n.Lines.length ∧ n.Lines.length ≤ 5
    · have d2 : decide ((1 : Int) ≤ (n.Lines.length : Int) ∧ (n.Lines.length : Int) ≤ 5) = true := by simp; omega
      simp only [d2, Bool.not_true, Option.bind_some, Bool.false_eq_true, if_false]
      rw [all_val (hd := Classical.propDecidable _) n.Stops (fun i x => NameOK x ∧ fixI (fun e => x.toList == e.toList) n.Stops = (i : Int)) (fun i x hx => ?_) (by unfold s_l2Good_L1; simp)]
      · rw [all_val (hd := Classical.propDecidable _) n.Lines (fun i x => (NameOK x.Name ∧ LineP n.Stops.length x) ∧ fixI (fun e => x.Name.toList == e.toList) (n.Lines.map (·.Name)) = (i : Int)) (fun i x hx => ?_) (by unfold s_l2Good_L2; simp)]
        · by_cases b1 : NamesP n.Stops
          · rw [if_pos (show ∀ (i : Nat) x, n.Stops[i]? = some x → NameOK x ∧ fixI (fun e => x.toList == e.toList) n.Stops = (i : Int) from b1)]
            by_cases b2 : ∀ (i : Nat) x, n.Lines[i]? = some x → (NameOK x.Name ∧ LineP n.Stops.length x) ∧ fixI (fun e => x.Name.toList == e.toList) (n.Lines.map (·.Name)) = (i : Int)
            · rw [if_pos b2]
              have : Good n := ⟨a1, a2, b1, fun i y hy => by
                rw [List.getElem?_map] at hy
                obtain ⟨x, hx, rfl⟩ := Option.map_eq_some_iff.1 hy
                exact ⟨(b2 i x hx).1.1, (b2 i x hx).2⟩, fun i x hx => (b2 i x hx).1.2⟩
              simp [this]
            · rw [if_neg b2]
              have : ¬ Good n := fun h => b2 fun i x hx => by
                have h4 := h.2.2.2.1 i x.Name (by rw [List.getElem?_map, hx]; rfl)
                exact ⟨⟨h4.1, h.2.2.2.2 i x hx⟩, h4.2⟩
              simp [this]
          · rw [if_neg (show ¬ ∀ (i : Nat) x, n.Stops[i]? = some x → NameOK x ∧ fixI (fun e => x.toList == e.toList) n.Stops = (i : Int) from b1)]
            have : ¬ Good n := fun h => b1 h.2.2.1
            simp [this]
        · have hi := (List.getElem?_eq_some_iff.1 hx).1
          obtain ⟨g1, g2⟩ := h3 x (List.mem_of_getElem? hx)
          unfold s_l2Good_L2
          have hlt : decide ((i : Int) < (n.Lines.length : Int)) = true := by simp; omega
          simp only [hlt, if_true, idx_nat, hx, Option.bind_some, l2Line_eq x n.Stops.length h1 g1 g2, l2LineNamed_eq n (by omega), w64_succ (n := i) (by omega)]
          by_cases b1 : NameOK x.Name ∧ LineP n.Stops.length x
          · by_cases b2 : fixI (fun e => x.Name.toList == e.toList) (n.Lines.map (·.Name)) = (i : Int)
            · left; simp [b1, b2]
            · right; simp [b1, b2]
          · right; simp [b1]
      · have hi := (List.getElem?_eq_some_iff.1 hx).1
        unfold s_l2Good_L1
        have hlt : decide ((i : Int) < (n.Stops.length : Int)) = true := by simp; omega
        simp only [hlt, if_true, idx_nat, hx, Option.bind_some, l2Name_eq, l2Find_eq n.Stops (by omega), w64_succ (n := i) (by omega)]
        by_cases b1 : NameOK x
        · by_cases b2 : fixI (fun e => x.toList == e.toList) n.Stops = (i : Int)
          · left; simp [b1, b2]
          · right; simp [b1, b2]
        · right; simp [b1]
    · have d2 : decide ((1 : Int) ≤ (n.Lines.length : Int) ∧ (n.Lines.length : Int) ≤ 5) = false := by simp; omega
      have : ¬ Good n := fun h => a2 h.2.1
      simp [d2, this]
  · have d1 : decide ((2 : Int) ≤ (n.Stops.length : Int) ∧ (n.Stops.length : Int) ≤ 8) = false := by simp; omega
    have : ¬ Good n := fun h => a1 h.1
    simp [d1, this]
/-! Copies, reversed lists, the reversed line. -/
theorem l1Own_eq (l : List Int) (h : l.length ≤ 1000) : s_l1Own_f l = some l := by
  unfold s_l1Own_f
  rw [chk_of (by simp; omega)]; rfl
theorem l2Own_eq (n : Network) (h : Bd n) : s_l2Own n = some n := by
  obtain ⟨h1, h2, h3⟩ := h
  unfold s_l2Own
  rw [chk_of (by simp; omega)]
  simp only [Option.bind_some]
  rw [app_loop (fun x : Line => x) n.Lines (fun i a x ha hx => ?_) (fun a ha => ?_)]
  · simp only [Option.bind_some, List.map_id', List.nil_append]
  · have hi := (List.getElem?_eq_some_iff.1 hx).1
    obtain ⟨g1, g2⟩ := h3 x (List.mem_of_getElem? hx)
    unfold s_l2Own_L1
    have hlt : decide ((i : Int) < (n.Lines.length : Int)) = true := by simp; omega
    have hch : ∀ y : Line, chk (a.length + ([y] : List Line).length ≤ 4294967296) = some () := fun y => chk_of (by simp; omega)
    simp only [hlt, if_true, idx_nat, hx, Option.bind_some, l1Own_eq _ g1, l1Own_eq _ g2, hch, w64_succ (n := i) (by omega)]
  · unfold s_l2Own_L1; simp
theorem l2Own_t_eq (n : Network) (h : Bd n) : s_l2Own_t n = some n := by
  have : s_l2Own_t n = s_l2Own n := rfl
  rw [this]; exact l2Own_eq n h

theorem l2Back_eq (s : List Int) (hs : s.length ≤ 1000) : s_l2Back s = some s.reverse := by
  unfold s_l2Back
  have e0 : w64 ((s.length : Int) - 1) = (s.length : Int) - 1 := w64_id (by omega)
  rw [e0]
  have h := iter_rule (step := s_l2Back_L1 s) (fun m a => ∃ j : Nat, a.1 = (s.length : Int) - 1 - j ∧ m + j = s.length ∧ a.2 = s.reverse.take j) (fun b => b = s.reverse) ?_ (k := s.length) (a := ((s.length : Int) - 1, [])) ⟨0, by simp, by omega, by simp⟩
  · obtain ⟨b, hb, rfl⟩ := h
    rw [hb]; rfl
  rintro m ⟨v, i⟩ ⟨j, hv, hm, hi⟩
  simp only at hv hi
  subst hv
  by_cases hlt : j < s.length
  · left
    have ev : (s.length : Int) - 1 - j = ((s.length - 1 - j : Nat) : Int) := by omega
    rw [ev]
    obtain ⟨e, he⟩ := get_ex (l := s) (i := s.length - 1 - j) (by omega)
    have hd : decide ((0 : Int) ≤ ((s.length - 1 - j : Nat) : Int)) = true := by simp
    have hlen : i.length = j := by rw [hi]; simp; omega
    have hch : chk (i.length + ([e] : List Int).length ≤ 4294967296) = some () := chk_of (by simp; omega)
    have ev2 : w64 (((s.length - 1 - j : Nat) : Int) - 1) = (s.length : Int) - 1 - ((j + 1 : Nat) : Int) := by rw [w64_id (by omega)]; omega
    refine ⟨((s.length : Int) - 1 - ((j + 1 : Nat) : Int), i ++ [e]), m - 1, ?_, by omega, j + 1, rfl, by omega, ?_⟩
    · unfold s_l2Back_L1
      simp only [hd, if_true, idx_nat, he, hch, Option.bind_some, ev2]
    · show i ++ [e] = _
      rw [take_succ (x := e) (by rw [List.getElem?_reverse hlt]; exact he), hi]
  · right
    have ej : j = s.length := by omega
    subst ej
    have hd : decide ((0 : Int) ≤ (s.length : Int) - 1 - (s.length : Int)) = false := by simp; omega
    refine ⟨i, by unfold s_l2Back_L1; simp only [hd, Bool.false_eq_true, if_false], ?_⟩
    rw [hi, List.take_of_length_le (by simp)]
theorem l2BackF_eq (s : List Int) (hs : s.length ≤ 1000) : s_l2Back_f s = some s.reverse := l2Back_eq s hs

/-- The network with the reversed line. -/
def Rev (n : Network) (e : Line) (name : ByteArray) : Network := ⟨n.Stops, n.Lines ++ [⟨name, e.Stops.reverse, e.Runs.reverse⟩]⟩
def Asked (n : Network) (line : Int) (name : ByteArray) : Prop := Good n ∧ 0 ≤ line ∧ ∃ e, n.Lines[line.toNat]? = some e ∧ Good (Rev n e name)
theorem good_lines {n : Network} (h : Good n) : n.Lines.length ≤ 5 := h.2.1.2
theorem rev_bd {n : Network} {e : Line} {name : ByteArray} (h : Bd n) (hg : Good n) (he : e ∈ n.Lines) : Bd (Rev n e name) := by
  obtain ⟨h1, h2, h3⟩ := h
  have := good_lines hg
  refine ⟨h1, by simp [Rev]; omega, fun x hx => ?_⟩
  rcases List.mem_append.1 hx with hx | hx
  · exact h3 x hx
  · simp at hx
    subst hx
    obtain ⟨g1, g2⟩ := h3 e he
    exact ⟨by simpa using g1, by simpa using g2⟩

/-! The draws: they answer, with bounds. -/
/-- A drawn line. -/
def LB (x : Line) : Prop := (2 ≤ x.Stops.length ∧ x.Stops.length ≤ 10) ∧ 1 ≤ x.Runs.length ∧ x.Runs.length ≤ 10
def NB (n : Network) : Prop := (2 ≤ n.Stops.length ∧ n.Stops.length ≤ 6) ∧ (1 ≤ n.Lines.length ∧ n.Lines.length ≤ 8) ∧ ∀ x ∈ n.Lines, LB x
theorem NB.bd {n : Network} (h : NB n) : Bd n := ⟨by have := h.1; omega, by have := h.2.1; omega, fun x hx => by have := h.2.2 x hx; unfold LB at this; omega⟩
theorem l1Num_ok (n : Int) (h0 : 0 ≤ n) (h1 : n < 10) : ∃ r, s_l1Num n = some r ∧ r.size ≤ 10 := by
  have e : s_l1Num n = s_l1Num_F (s_l1Num_k 4294967295) n := rfl
  rw [e]
  unfold s_l1Num_F
  have d1 : decide (n < 0) = false := by simp; omega
  have d2 : decide (n < 10) = true := by simp; omega
  have e1 : w64 (n + 1) = n + 1 := w64_id (by omega)
  have hs : (str [48, 49, 50, 51, 52, 53, 54, 55, 56, 57]).size = 10 := rfl
  simp only [d1, d2, Bool.false_eq_true, if_false, if_true, e1, hs]
  rw [chk_of (by omega)]
  refine ⟨_, rfl, ?_⟩
  rw [ByteArray.size_extract, hs]
  omega

theorem line_ok {k : Nat} {c : l1Cur} (name : ByteArray) (stops : Int) (hs : 2 ≤ stops ∧ stops ≤ 1000) (h : Cur k c) (hk : k ≤ 1000000000) : ∃ r, s_l1Cur_line c name stops = some r ∧ Cur (k + 40) r.2 ∧ LB r.1 := by
  unfold s_l1Cur_line
  obtain ⟨r, hr, hc, h0, h1⟩ := pick_ok stops h (by omega)
  obtain ⟨r1, hr1, hc1, h10, h11⟩ := pick_ok 3 hc (by omega)
  simp only [hr, hr1, Option.bind_some]
  have e1 : w64 (2 + r1.1) = ((2 + r1.1.toNat : Nat) : Int) := by rw [w64_id (by omega)]; omega
  rw [e1]
  have loop : ∃ b, iter (s_l1Cur_line_L1 name stops) (r.1, ((2 + r1.1.toNat : Nat) : Int), r1.2.code_, r1.2.at_, r1.2.seed_.v, []) = some b ∧ (Cur (k + 4 + 2 * 4) ⟨b.1, b.2.1, ⟨b.2.2.1⟩⟩ ∧ 1 ≤ b.2.2.2.length ∧ b.2.2.2.length ≤ 4) := by
    refine iter_rule (fun m a => (0 ≤ a.1 ∧ a.1 < stops) ∧ a.2.1 = (m : Int) ∧ m + a.2.2.2.2.2.length ≤ 4 ∧ (1 ≤ m ∨ 1 ≤ a.2.2.2.2.2.length) ∧ Cur (k + 4 + 2 * (4 - m)) ⟨a.2.2.1, a.2.2.2.1, ⟨a.2.2.2.2.1⟩⟩) _ ?_ (k := 2 + r1.1.toNat) ⟨⟨h0, by show r.1 < stops; omega⟩, rfl, by simp; omega, .inl (by omega), hc1.mono (by omega)⟩
    rintro m ⟨v, v1, v2, v3, v4, v5⟩ ⟨hv, hv1, hl, hne, hcur⟩
    simp only at hv hv1 hl hne hcur
    subst hv1
    unfold s_l1Cur_line_L1
    cases m with
    | zero => right; exact ⟨_, by simp; rfl, hcur, by show 1 ≤ v5.length; omega, by show v5.length ≤ 4; omega⟩
    | succ m =>
      left
      have hpos : decide ((0 : Int) < ((m + 1 : Nat) : Int)) = true := by simp
      obtain ⟨r3, hr3, hc3, h30, h31⟩ := pick_ok 2 hcur (by omega)
      have hpl := l2Place_eq (⟨name, v5, []⟩ : Line) (by show v5.length ≤ _; omega) v
      have hch : chk (v5.length + ([v] : List Int).length ≤ 4294967296) = some () := chk_of (by simp; omega)
      have hne0 : chk (stops ≠ 0) = some () := chk_of (by omega)
      have w1 : w64 (v + 1) = v + 1 := w64_id (by omega)
      have w2 : w64 (v + 1 + r3.1) = v + 1 + r3.1 := w64_id (by omega)
      have ht := tmod_rng (a := v + 1 + r3.1) (b := stops) (by omega) (by omega)
      simp only [hpos, if_true, hpl, hch, hr3, hne0, w1, w2, Option.bind_some]
      have w3 : w64 (((m + 1 : Nat) : Int) - 1) = (m : Int) := w64_pred (by omega)
      split
      · refine ⟨_, m, by simp only [Option.bind_some]; rfl, by omega, ht, w3, ?_, .inr ?_, ?_⟩
        · simp; omega
        · simp
        · exact hc3.mono (by omega)
      · rename_i hn
        refine ⟨_, m, by simp only [Option.bind_some]; rfl, by omega, ht, w3, ?_, .inr ?_, ?_⟩
        · show m + v5.length ≤ 4; omega
        · show 1 ≤ v5.length
          cases v5 with
          | nil => simp [fixI] at hn
          | cons a l => simp
        · exact hc3.mono (by omega)
  obtain ⟨⟨v7, v8, v9, v10⟩, hb, hcb, hlb⟩ := loop
  simp only at hcb hlb
  rw [hb]
  simp only [Option.bind_some]
  -- at least two stops
  have two : ∃ v11 : List Int, (if decide ((v10.length : Int) < 2) = true then (idx v10 0).bind fun e1 => (chk ((stops : Int) ≠ 0)).bind fun u4 => (chk (v10.length + ([((w64 (e1 + 1)).tmod stops)] : List Int).length ≤ 4294967296)).bind fun u5 => some (v10 ++ ([((w64 (e1 + 1)).tmod stops)] : List Int)) else some v10) = some v11 ∧ 2 ≤ v11.length ∧ v11.length ≤ 5 := by
    by_cases h2 : (v10.length : Int) < 2
    · obtain ⟨e, he, _⟩ := idx_lt (l := v10) (i := 0) (by omega) (by omega)
      have hch : ∀ y : Int, chk (v10.length + ([y] : List Int).length ≤ 4294967296) = some () := fun y => chk_of (by simp; omega)
      have hne0 : chk (stops ≠ 0) = some () := chk_of (by omega)
      refine ⟨v10 ++ [(w64 (e + 1)).tmod stops], by simp only [h2, decide_true, if_true, he, hne0, hch, Option.bind_some], ?_, ?_⟩
      · simp; omega
      · simp; omega
    · exact ⟨v10, by simp [h2], by omega, by omega⟩
  obtain ⟨v11, hv11, l1, l2⟩ := two
  rw [hv11]
  simp only [Option.bind_some]
  have loop2 : ∃ b, iter (s_l1Cur_line_L2 v11) (1, v7, v8, v9, []) = some b ∧ (Cur (k + 40) ⟨b.1, b.2.1, ⟨b.2.2.1⟩⟩ ∧ b.2.2.2.length + 1 = v11.length) := by
    refine iter_rule (fun m a => ∃ i : Nat, a.1 = (i : Int) ∧ m + i = v11.length ∧ a.2.2.2.2.length + 1 = i ∧ Cur (k + 12 + 2 * i) ⟨a.2.1, a.2.2.1, ⟨a.2.2.2.1⟩⟩) _ ?_ (k := v11.length - 1) ⟨1, rfl, by omega, rfl, hcb.mono (by omega)⟩
    rintro m ⟨v12, v13, v14, v15, v16⟩ ⟨i, hi, hm, hl, hcur⟩
    simp only at hi hl hcur
    subst hi
    unfold s_l1Cur_line_L2
    by_cases hlt : i < v11.length
    · left
      have hd : decide ((i : Int) < (v11.length : Int)) = true := by simp; omega
      obtain ⟨r5, hr5, hc5, _⟩ := pick_ok 12 hcur (by omega)
      have hch : ∀ y : Int, chk (v16.length + ([y] : List Int).length ≤ 4294967296) = some () := fun y => chk_of (by simp; omega)
      refine ⟨_, m - 1, by simp only [hd, if_true, hr5, hch, Option.bind_some, w64_succ (n := i) (by omega)]; rfl, by omega, i + 1, rfl, by omega, ?_, ?_⟩
      · simp; omega
      · exact hc5.mono (by omega)
    · right
      have hd : decide ((i : Int) < (v11.length : Int)) = false := by simp; omega
      refine ⟨_, by simp only [hd, Bool.false_eq_true, if_false]; rfl, ?_, ?_⟩
      · exact hcur.mono (by omega)
      · show v16.length + 1 = _; omega
  obtain ⟨⟨v17, v18, v19, v20⟩, hb2, hcb2, hl2⟩ := loop2
  simp only at hcb2 hl2
  rw [hb2]
  simp only [Option.bind_some]
  exact ⟨_, rfl, hcb2, ⟨l1, by show v11.length ≤ 10; omega⟩, by show 1 ≤ v20.length; omega, by show v20.length ≤ 10; omega⟩
theorem lineF_ok {k : Nat} {c : l1Cur} (name : ByteArray) (stops : Int) (hs : 2 ≤ stops ∧ stops ≤ 1000) (h : Cur k c) (hk : k ≤ 1000000000) : ∃ r, s_l1Cur_line_f c name stops = some r ∧ Cur (k + 40) r.2 ∧ LB r.1 := line_ok name stops hs h hk

theorem six_len (i : Nat) (h2 : 2 ≤ i) (h6 : i ≤ 6) (l : List ByteArray) (hl : l.length = 6) : 2 ≤ ((l.take i).drop (0 : Int).toNat).length ∧ ((l.take i).drop (0 : Int).toNat).length ≤ 6 := by
  simp; omega

theorem networkT_ok {k : Nat} {c : l1Cur} (h : Cur k c) (hk : k ≤ 500000000) : ∃ r, s_l1Cur_network_t c = some r ∧ Cur (k + 300) r.2 ∧ NB r.1 := by
  unfold s_l1Cur_network_t
  obtain ⟨r, hr, hc, h0, h1⟩ := pick_ok 5 h (by omega)
  have e1 : w64 (2 + r.1) = 2 + r.1 := w64_id (by omega)
  have hsix : ([(str [112, 111, 114, 116]), (str [109, 105, 108, 108]), (str [112, 97, 114, 107]), (str [104, 97, 108, 108]), (str [100, 111, 99, 107]), (str [102, 97, 105, 114])] : List ByteArray).length = 6 := rfl
  simp only [hr, Option.bind_some, e1, hsix]
  rw [chk_of (by omega)]
  obtain ⟨r1, hr1, hc1, h10, h11⟩ := pick_ok 3 hc (by omega)
  have e2 : w64 (1 + r1.1) = ((1 + r1.1.toNat : Nat) : Int) := by rw [w64_id (by omega)]; omega
  simp only [hr1, Option.bind_some, e2]
  have loop : ∃ b, iter (s_l1Cur_network_t_L1 r) (((1 + r1.1.toNat : Nat) : Int), r1.2.code_, r1.2.at_, r1.2.seed_.v, []) = some b ∧ (Cur (k + 4 + 40 * 3) ⟨b.1, b.2.1, ⟨b.2.2.1⟩⟩ ∧ (1 ≤ b.2.2.2.length ∧ b.2.2.2.length ≤ 3) ∧ ∀ x ∈ b.2.2.2, LB x) := by
    refine iter_rule (fun m a => a.1 = (m : Int) ∧ m + a.2.2.2.2.length ≤ 3 ∧ 1 ≤ m + a.2.2.2.2.length ∧ (∀ x ∈ a.2.2.2.2, LB x) ∧ Cur (k + 4 + 40 * (3 - m)) ⟨a.2.1, a.2.2.1, ⟨a.2.2.2.1⟩⟩) _ ?_ (k := 1 + r1.1.toNat) ⟨rfl, by simp; omega, by simp, by simp, hc1.mono (by omega)⟩
    rintro m ⟨x, v, v1, v2, v3⟩ ⟨hx, hl, hl1, hlb, hcur⟩
    simp only at hx hl hl1 hlb hcur
    subst hx
    unfold s_l1Cur_network_t_L1
    cases m with
    | zero => right; exact ⟨_, by simp; rfl, hcur, ⟨by show 1 ≤ v3.length; omega, by show v3.length ≤ 3; omega⟩, hlb⟩
    | succ m =>
      left
      have hpos : decide ((0 : Int) < ((m + 1 : Nat) : Int)) = true := by simp
      obtain ⟨r4, hr4, hs4⟩ := l1Num_ok ((m + 1 : Nat) : Int) (by omega) (by omega)
      have hs : (str [108]).size = 1 := rfl
      have hch : chk ((str [108]).size + r4.size ≤ 4294967296) = some () := chk_of (by omega)
      obtain ⟨r5, hr5, hc5, hb5⟩ := lineF_ok (str [108] ++ r4) (2 + r.1) (by omega) hcur (by omega)
      have hch2 : ∀ y : Line, chk (v3.length + ([y] : List Line).length ≤ 4294967296) = some () := fun y => chk_of (by simp; omega)
      refine ⟨_, m, by simp only [hpos, if_true, hr4, hch, e1, hr5, hch2, Option.bind_some]; rfl, by omega, ?_, ?_, ?_, ?_, ?_⟩
      · exact w64_pred (by omega)
      · simp; omega
      · simp; omega
      · intro y hy
        rcases List.mem_append.1 hy with hy | hy
        · exact hlb y hy
        · simp at hy; subst hy; exact hb5
      · exact hc5.mono (by omega)
  obtain ⟨⟨v4, v5, v6, v7⟩, hb, hcb, hlb, hall⟩ := loop
  simp only at hcb hlb hall
  rw [hb]
  simp only [Option.bind_some]
  obtain ⟨r6, hr6, hc6⟩ := one_ok 2 hcb (by omega)
  simp only [hr6, Option.bind_some]
  have fin : ∀ (v8 : List UInt8) (v9 v10 : Int) (v11 : List Line), Cur (k + 200) ⟨v8, v9, ⟨v10⟩⟩ → (1 ≤ v11.length ∧ v11.length ≤ 8) → (∀ x ∈ v11, LB x) →
      ∃ r', ((s_l2Own_t (⟨((([(str [112, 111, 114, 116]), (str [109, 105, 108, 108]), (str [112, 97, 114, 107]), (str [104, 97, 108, 108]), (str [100, 111, 99, 107]), (str [102, 97, 105, 114])] : List ByteArray).take (2 + r.1).toNat).drop (0 : Int).toNat), v11⟩ : Network)).bind fun r11 => some ((⟨r11.Stops, r11.Lines⟩ : Network), (⟨v8, v9, (⟨v10⟩ : IK .u64)⟩ : l1Cur))) = some r' ∧ Cur (k + 300) r'.2 ∧ NB r'.1 := by
    intro v8 v9 v10 v11 g1 g2 g3
    have hst := six_len (2 + r.1).toNat (by omega) (by omega) _ hsix
    have hnb : NB (⟨((([(str [112, 111, 114, 116]), (str [109, 105, 108, 108]), (str [112, 97, 114, 107]), (str [104, 97, 108, 108]), (str [100, 111, 99, 107]), (str [102, 97, 105, 114])] : List ByteArray).take (2 + r.1).toNat).drop (0 : Int).toNat), v11⟩ : Network) := ⟨hst, g2, g3⟩
    rw [l2Own_t_eq _ hnb.bd]
    exact ⟨_, rfl, g1.mono (by omega), hnb⟩
  split
  · obtain ⟨e, he, _, hem⟩ := idx_lt (l := v7) (i := 0) (by omega) (by omega)
    obtain ⟨g1, g2⟩ := hall e hem
    have hch2 : ∀ y : Line, chk (v7.length + ([y] : List Line).length ≤ 4294967296) = some () := fun y => chk_of (by simp; omega)
    simp only [he, l2BackF_eq e.Stops (by omega), l2BackF_eq e.Runs (by omega), hch2, Option.bind_some]
    refine fin _ _ _ _ (hc6.mono (by omega)) (by simp; omega) fun y hy => ?_
    rcases List.mem_append.1 hy with hy | hy
    · exact hall y hy
    · simp at hy; subst hy
      exact ⟨by simpa using g1, by simpa using g2⟩
  · simp only [Option.bind_some]
    exact fin _ _ _ _ (hc6.mono (by omega)) (by omega) hall

theorem anyNetwork_ok {k : Nat} {c : l1Cur} (h : Cur k c) (hk : k ≤ 200000000) : ∃ r, s_l1Cur_anyNetwork c = some r ∧ Cur (k + 1000) r.2 ∧ Bd r.1 := by
  unfold s_l1Cur_anyNetwork
  obtain ⟨r, hr, hc, hnb⟩ := networkT_ok h (by omega)
  obtain ⟨n1, n2, n3⟩ := hnb
  obtain ⟨r1, hr1, hc1, h10, h11⟩ := pick_ok (r.1.Lines.length : Int) hc (by omega)
  obtain ⟨e, he, he2, hem⟩ := idx_lt (l := r.1.Lines) (i := r1.1) h10 (by omega)
  obtain ⟨g1, g2⟩ := n3 e hem
  obtain ⟨r2, hr2, hc2, _⟩ := pick_ok 24 hc1 (by omega)
  simp only [hr, hr1, he, hr2, Option.bind_some]
  have fin : ∀ (v : List UInt8) (v1 v2 : Int) (v3 : ByteArray) (v4 : List ByteArray) (v5 : List Line) (v6 : List Int), Cur (k + 900) ⟨v, v1, ⟨v2⟩⟩ → v4.length ≤ 6 → v5.length = r.1.Lines.length → (∀ x ∈ v5, LB x) → v6.length ≤ 11 →
      ∃ r', ((idx v5 r1.1).bind fun e9 => some ((⟨v4, (v5.set r1.1.toNat (⟨v3, e9.Stops, v6⟩ : Line))⟩ : Network), (⟨v, v1, (⟨v2⟩ : IK .u64)⟩ : l1Cur))) = some r' ∧ Cur (k + 1000) r'.2 ∧ Bd r'.1 := by
    intro v v1 v2 v3 v4 v5 v6 q1 q2 q3 q4 q5
    obtain ⟨e9, he9, _, hm9⟩ := idx_lt (l := v5) (i := r1.1) h10 (by omega)
    rw [he9]
    refine ⟨_, rfl, q1.mono (by omega), by show v4.length ≤ _; omega, by simp; omega, fun x hx => ?_⟩
    rcases List.mem_or_eq_of_mem_set hx with hx | hx
    · have := q4 x hx
      unfold LB at this; omega
    · subst hx
      have := q4 e9 hm9
      unfold LB at this
      exact ⟨by show e9.Stops.length ≤ _; omega, by show v6.length ≤ _; omega⟩
  split
  · obtain ⟨r4, hr4, hc4, _⟩ := ofw_ok ([(str [109, 105, 108, 108]), (str []), (str [65]), (str [97, 98, 99, 100, 101, 102, 103, 104]), (str [97, 98, 99, 100, 101, 102, 103, 104, 105])] : List ByteArray) (by simp) hc2 (by omega)
    obtain ⟨e2, he2', _⟩ := idx_lt (l := r.1.Stops) (i := 0) (by omega) (by omega)
    simp only [hr4, he2', Option.bind_some, flb_go]
    exact fin _ _ _ _ _ _ _ (hc4.mono (by omega)) (by simp; omega) rfl n3 (by omega)
  split
  · obtain ⟨r5, hr5, hc5, _⟩ := ofw_ok ([(str [114, 49]), (str [108, 49]), (str []), (str [88])] : List ByteArray) (by simp) hc2 (by omega)
    simp only [hr5, Option.bind_some, flb_go]
    exact fin _ _ _ _ _ _ _ (hc5.mono (by omega)) (by omega) rfl n3 (by omega)
  split
  · obtain ⟨r8, hr8, hc8, h80, h81⟩ := pick_ok (e.Stops.length : Int) hc2 (by omega)
    obtain ⟨r9, hr9, hc9, _⟩ := pick_ok 10 hc8 (by omega)
    obtain ⟨e4, he4, _⟩ := idx_lt (l := e.Stops) (i := r8.1) h80 (by omega)
    simp only [hr8, hr9, he4, Option.bind_some, flb_go]
    refine fin _ _ _ _ _ _ _ (hc9.mono (by omega)) (by omega) (by simp) (fun x hx => ?_) (by show e.Runs.length ≤ 11; omega)
    rcases List.mem_or_eq_of_mem_set hx with hx | hx
    · exact n3 x hx
    · subst hx; exact ⟨by simpa using g1, g2⟩
  split
  · obtain ⟨r12, hr12, hc12, h120, h121⟩ := pick_ok (e.Runs.length : Int) hc2 (by omega)
    obtain ⟨r13, hr13, hc13, _⟩ := amongw_ok ([0, 60, 61, (-1)] : List Int) (by simp) hc12 (by omega)
    obtain ⟨e6, he6, _⟩ := idx_lt (l := e.Runs) (i := r12.1) h120 (by omega)
    simp only [hr12, hr13, he6, Option.bind_some, flb_go]
    refine fin _ _ _ _ _ _ _ (hc13.mono (by omega)) (by omega) (by simp) (fun x hx => ?_) (by simp; omega)
    rcases List.mem_or_eq_of_mem_set hx with hx | hx
    · exact n3 x hx
    · subst hx; exact ⟨g1, by simpa using g2⟩
  split
  · have hch : chk (e.Runs.length + ([3] : List Int).length ≤ 4294967296) = some () := chk_of (by simp; omega)
    simp only [hch, Option.bind_some, flb_go]
    exact fin _ _ _ _ _ _ _ (hc2.mono (by omega)) (by omega) rfl n3 (by simp; omega)
  split
  · simp only [flb_ret]
    exact ⟨_, rfl, hc2.mono (by omega), by show r.1.Stops.length ≤ _; omega, by simp, by simp⟩
  split
  · have loop : ∃ b, iter (s_l1Cur_anyNetwork_L1 r) (0, r2.2.code_, r2.2.at_, r2.2.seed_.v, r.1.Lines) = some b ∧ (Cur (k + 900) ⟨b.1, b.2.1, ⟨b.2.2.1⟩⟩ ∧ b.2.2.2.length ≤ 20 ∧ ∀ x ∈ b.2.2.2, LB x) := by
      refine iter_rule (fun m a => ∃ i : Nat, a.1 = (i : Int) ∧ m + i = 8 ∧ i ≤ 7 ∧ a.2.2.2.2.length ≤ 8 + i ∧ (∀ x ∈ a.2.2.2.2, LB x) ∧ Cur (k + 310 + 50 * i) ⟨a.2.1, a.2.2.1, ⟨a.2.2.2.1⟩⟩) _ ?_ (k := 8) ⟨0, rfl, rfl, by omega, by simpa using n2.2, n3, hc2.mono (by omega)⟩
      rintro m ⟨v7, v8, v9, v10, v11⟩ ⟨i, hi, hm, hi7, hl, hlb, hcur⟩
      simp only at hi hl hlb hcur
      subst hi
      unfold s_l1Cur_anyNetwork_L1
      obtain ⟨r16, hr16, hc16, h160, h161⟩ := pick_ok 2 hcur (by omega)
      have w1 : w64 (5 + r16.1) = 5 + r16.1 := w64_id (by omega)
      simp only [hr16, w1, Option.bind_some]
      by_cases a1 : (v11.length : Int) < 5 + r16.1 ∧ (i : Int) < 7
      · left
        have d1 : decide ((v11.length : Int) < 5 + r16.1) = true := by simp; omega
        have d2 : decide ((i : Int) < 7) = true := by simp; omega
        obtain ⟨r19, hr19, hs19⟩ := l1Num_ok (i : Int) (by omega) (by omega)
        have hs : (str [120]).size = 1 := rfl
        have hch : chk ((str [120]).size + r19.size ≤ 4294967296) = some () := chk_of (by omega)
        obtain ⟨r20, hr20, hc20, hb20⟩ := line_ok (str [120] ++ r19) (r.1.Stops.length : Int) (by omega) hc16 (by omega)
        have hch2 : ∀ y : Line, chk (v11.length + ([y] : List Line).length ≤ 4294967296) = some () := fun y => chk_of (by simp; omega)
        refine ⟨_, m - 1, by simp only [d1, d2, if_true, hr19, hch, hr20, hch2, Option.bind_some, w64_succ (n := i) (by omega)]; rfl, by omega, i + 1, rfl, by omega, by omega, ?_, fun x hx => ?_, ?_⟩
        · simp; omega
        · rcases List.mem_append.1 hx with hx | hx
          · exact hlb x hx
          · simp at hx; subst hx; exact hb20
        · exact hc20.mono (by omega)
      · right
        have hcond : (if decide ((v11.length : Int) < 5 + r16.1) = true then some (decide ((i : Int) < 7)) else some false) = some false := by
          by_cases b1 : (v11.length : Int) < 5 + r16.1
          · have : decide ((i : Int) < 7) = false := by simp; omega
            simp [b1, this]
          · simp [b1]
        refine ⟨_, by simp only [hcond, Option.bind_some, Bool.false_eq_true, if_false]; rfl, ?_, ?_, hlb⟩
        · exact hc16.mono (by omega)
        · show v11.length ≤ 20; omega
    obtain ⟨⟨v13, v14, v15, v16⟩, hb, hcb, hlb, hall⟩ := loop
    simp only at hcb hlb hall
    rw [hb]
    simp only [Option.bind_some, flb_ret]
    refine ⟨_, rfl, hcb.mono (by omega), by show r.1.Stops.length ≤ _; omega, by show v16.length ≤ _; omega, fun x hx => ?_⟩
    have := hall x hx
    unfold LB at this; omega
  · simp only [flb_go]
    exact fin _ _ _ _ _ _ _ (hc2.mono (by omega)) (by omega) rfl n3 (by omega)

/-! Timetables: when they are valid. -/
def TB (t : Timetable) : Prop := Bd t.Network ∧ t.Trips.length ≤ 1000
def TripP (n : Network) (x : Trip) : Prop := (1 ≤ x.Id ∧ x.Id ≤ 999) ∧ ∃ l, idx n.Lines x.Line = some l ∧ (0 ≤ x.Start ∧ x.Start ≤ 1799) ∧ 0 ≤ x.Start + l.Runs.sum ∧ x.Start + l.Runs.sum ≤ 1799
def GoodT (t : Timetable) : Prop := Good t.Network ∧ t.Trips.length ≤ 12 ∧ (∀ (i : Nat) x, t.Trips[i]? = some x → TripP t.Network x) ∧ ∀ (i : Nat) a b, t.Trips[i]? = some a → t.Trips[i + 1]? = some b → a.Id < b.Id
noncomputable instance (t : Timetable) : Decidable (GoodT t) := Classical.propDecidable _
noncomputable instance (n : Network) (x : Trip) : Decidable (TripP n x) := Classical.propDecidable _
theorem time_eq (t : Int) : i_IsValidTime t = some (decide (0 ≤ t ∧ t ≤ 1799)) := by
  unfold i_IsValidTime; rw [within_eq]; rfl
theorem l4Time_eq (t : Int) : s_l4Time t = some (decide (0 ≤ t ∧ t ≤ 1799)) := by
  unfold s_l4Time; rw [l1In_eq]; rfl
theorem total_eq (l : List Int) (h1 : l.length ≤ 1000000) (h2 : ∀ x ∈ l, 0 ≤ x ∧ x ≤ 1000000) : i_total l = some l.sum := by
  unfold i_total
  rw [sum_loop (fun x : Int => x) l h1 h2 (fun i s x hx => ?_) (fun s => ?_)]
  · simp
  · have := get_lt hx
    unfold i_total_L1
    simp (disch := omega) only [if_pos, if_neg, decide_eq_true_eq, decide_true, decide_false, Bool.not_true, Bool.not_false, Bool.false_eq_true, Bool.not_eq_true', decide_eq_false_iff_not, if_true, if_false, w64_id, chk_of, idx_nat, Option.bind_some, Option.map_some, Int.toNat_natCast, not_true_eq_false, not_false_eq_true, true_and, and_true, and_self, false_and, and_false, reduceIte, flb_go, flb_ret, beq_self_eq_true, ne_eq, bne_self_eq_false, Int.ofNat_lt.2 this, hx]
  · unfold i_total_L1; simp
theorem l2Run_eq (x : Line) (a b : Nat) (hab : a ≤ b) (hb : b ≤ x.Runs.length) (hl : x.Runs.length ≤ 1000) (h2 : ∀ r ∈ x.Runs, 0 ≤ r ∧ r ≤ 1000000) : s_l2Run x (a : Int) (b : Int) = some (((x.Runs.take b).drop a).sum) := by
  unfold s_l2Run
  refine Tot.val (.call (P := fun v => v = ((x.Runs.take b).drop a).sum) ?_ fun v h => .ok h)
  refine .iter (fun m s => ∃ k : Nat, s.2 = ((a + k : Nat) : Int) ∧ m + k = b - a ∧ s.1 = (((x.Runs.take b).drop a).take k).sum) (n := b - a) ⟨0, by simp, by omega, by simp⟩ ?_
  rintro m ⟨s, v⟩ ⟨k, hk, hm, hs⟩
  simp only at hk hs
  subst hk
  unfold s_l2Run_L1
  refine .iteP (fun hc => ?_) (fun hc => .dn ?_)
  · obtain ⟨r, hr⟩ := get_ex (l := x.Runs) (i := a + k) (by omega)
    have hr2 : ((x.Runs.take b).drop a)[k]? = some r := by
      rw [List.getElem?_drop, List.getElem?_take_of_lt (by omega)]; exact hr
    have hb1 := h2 r (List.mem_of_getElem? hr)
    have hb2 := sum_bd (l := ((x.Runs.take b).drop a).take k) (M := 1000000) fun y hy => h2 y (List.mem_of_mem_take (List.mem_of_mem_drop (List.mem_of_mem_take hy)))
    have hlen : ((((x.Runs.take b).drop a).take k).length : Int) ≤ 1000 := by simp; omega
    rw [← hs] at hb2
    refine .eq (by rw [idx_nat]; exact hr) (.nx ⟨m - 1, by omega, k + 1, ?_, by omega, ?_⟩)
    · show w64 (((a + k : Nat) : Int) + 1) = _
      rw [w64_id (by omega)]; omega
    · show w64 (s + r) = _
      rw [w64_id (by omega), sum_take_succ hr2, hs]
  · rw [hs, List.take_of_length_le (by rw [List.length_drop, List.length_take]; omega)]
theorem good_line {n : Network} (h : Good n) {k : Int} {l : Line} (hl : idx n.Lines k = some l) : LineP n.Stops.length l := h.2.2.2.2 _ l (idx_some hl).2.2
theorem line_stop {st : Nat} {l : Line} (h : LineP st l) {j : Nat} {s : Int} (hs : l.Stops[j]? = some s) : 0 ≤ s ∧ s < (st : Int) := (h.2.2.1 j s hs).1
theorem line_runs {st : Nat} {l : Line} (h : LineP st l) : (l.Runs.length + 1 = l.Stops.length ∧ 1 ≤ l.Runs.length ∧ l.Runs.length ≤ 5) ∧ ∀ r ∈ l.Runs, 1 ≤ r ∧ r ≤ 60 := by
  obtain ⟨h1, h2, h3, h4⟩ := h
  refine ⟨by omega, fun r hr => ?_⟩
  obtain ⟨i, hi⟩ := List.getElem?_of_mem hr
  exact h4 i r hi
theorem runs_sum {st : Nat} {l : Line} (h : LineP st l) (k : Nat) : 0 ≤ (l.Runs.take k).sum ∧ (l.Runs.take k).sum ≤ 300 := by
  obtain ⟨⟨h1, h2, h3⟩, h4⟩ := line_runs h
  have := sum_bd (l := l.Runs.take k) (M := 60) fun x hx => by have := h4 x (List.mem_of_mem_take hx); omega
  have hl : ((l.Runs.take k).length : Int) ≤ 5 := by simp; omega
  omega
theorem runs_sum' {st : Nat} {l : Line} (h : LineP st l) : 0 ≤ l.Runs.sum ∧ l.Runs.sum ≤ 300 := by
  have := runs_sum h l.Runs.length
  rwa [List.take_length] at this
theorem endOf_eq {t : Timetable} (hg : Good t.Network) {x : Trip} {l : Line} (hl : idx t.Network.Lines x.Line = some l) (hs : 0 ≤ x.Start ∧ x.Start ≤ 1799) : i_endOf t x = some (x.Start + l.Runs.sum) := by
  have h := good_line hg hl
  obtain ⟨⟨h1, h2, h3⟩, h4⟩ := line_runs h
  have h5 := runs_sum' h
  unfold i_endOf
  rw [hl]
  simp only [Option.bind_some]
  rw [total_eq l.Runs (by omega) (fun x hx => by have := h4 x hx; omega)]
  simp (disch := omega) only [if_pos, if_neg, decide_eq_true_eq, decide_true, decide_false, Bool.not_true, Bool.not_false, Bool.false_eq_true, Bool.not_eq_true', decide_eq_false_iff_not, if_true, if_false, w64_id, chk_of, idx_nat, Option.bind_some, Option.map_some, Int.toNat_natCast, not_true_eq_false, not_false_eq_true, true_and, and_true, and_self, false_and, and_false, reduceIte, flb_go, flb_ret, beq_self_eq_true, ne_eq, bne_self_eq_false]
theorem l5Line_eq {t : Timetable} {i : Nat} {x : Trip} {l : Line} (hx : t.Trips[i]? = some x) (hl : idx t.Network.Lines x.Line = some l) : s_l5Line t (i : Int) = some l := by
  unfold s_l5Line
  simp (disch := omega) only [if_pos, if_neg, decide_eq_true_eq, decide_true, decide_false, Bool.not_true, Bool.not_false, Bool.false_eq_true, Bool.not_eq_true', decide_eq_false_iff_not, if_true, if_false, w64_id, chk_of, idx_nat, Option.bind_some, Option.map_some, Int.toNat_natCast, not_true_eq_false, not_false_eq_true, true_and, and_true, and_self, false_and, and_false, reduceIte, flb_go, flb_ret, beq_self_eq_true, ne_eq, bne_self_eq_false, hx, hl]
theorem l5Stops_eq {t : Timetable} {i : Nat} {x : Trip} {l : Line} (hx : t.Trips[i]? = some x) (hl : idx t.Network.Lines x.Line = some l) : s_l5Stops t (i : Int) = some l.Stops := by
  unfold s_l5Stops
  rw [l5Line_eq hx hl]; rfl
theorem l5At_eq {t : Timetable} (hg : Good t.Network) {i : Nat} {x : Trip} {l : Line} (hx : t.Trips[i]? = some x) (hl : idx t.Network.Lines x.Line = some l) (hs : 0 ≤ x.Start ∧ x.Start ≤ 1799) {k : Nat} (hk : k ≤ l.Runs.length) : s_l5At t (i : Int) (k : Int) = some (x.Start + (l.Runs.take k).sum) := by
  have h := good_line hg hl
  obtain ⟨⟨h1, h2, h3⟩, h4⟩ := line_runs h
  have h5 := runs_sum h k
  have e := l2Run_eq l 0 k (by omega) hk (by omega) (fun x hx => by have := h4 x hx; omega)
  rw [List.drop_zero] at e
  have e' : s_l2Run l 0 (k : Int) = some (l.Runs.take k).sum := e
  unfold s_l5At
  simp (disch := omega) only [if_pos, if_neg, decide_eq_true_eq, decide_true, decide_false, Bool.not_true, Bool.not_false, Bool.false_eq_true, Bool.not_eq_true', decide_eq_false_iff_not, if_true, if_false, w64_id, chk_of, idx_nat, Option.bind_some, Option.map_some, Int.toNat_natCast, not_true_eq_false, not_false_eq_true, true_and, and_true, and_self, false_and, and_false, reduceIte, flb_go, flb_ret, beq_self_eq_true, ne_eq, bne_self_eq_false, hx, l5Line_eq hx hl, e']
theorem l5End_eq {t : Timetable} (hg : Good t.Network) {i : Nat} {x : Trip} {l : Line} (hx : t.Trips[i]? = some x) (hl : idx t.Network.Lines x.Line = some l) (hs : 0 ≤ x.Start ∧ x.Start ≤ 1799) : s_l5End t (i : Int) = some (x.Start + l.Runs.sum) := by
  have h := good_line hg hl
  obtain ⟨⟨h1, h2, h3⟩, h4⟩ := line_runs h
  have e : w64 ((l.Stops.length : Int) - 1) = (l.Runs.length : Int) := by rw [w64_id (by omega)]; omega
  unfold s_l5End
  rw [l5Stops_eq hx hl]
  simp only [Option.bind_some, e, l5At_eq hg hx hl hs (Nat.le_refl _), List.take_length]
def TripsP (t : Timetable) : Prop := (∀ (i : Nat) x, t.Trips[i]? = some x → TripP t.Network x) ∧ ∀ (i : Nat) a b, t.Trips[i]? = some a → t.Trips[i + 1]? = some b → a.Id < b.Id
noncomputable instance (t : Timetable) : Decidable (TripsP t) := Classical.propDecidable _
/-- One trip's check in the program. -/
theorem trip_i {t : Timetable} (hb : TB t) (hg : Good t.Network) (x : Trip) (last : Int) (hlast : 0 ≤ last) : ((if (decide (x.Id ≤ last)) = true then some true else if (decide (999 < x.Id)) = true then some true else (i_isLine t.Network x.Line).bind fun r =>
      if (!r) = true then some true else (i_IsValidTime x.Start).bind fun r1 =>
      if (!r1) = true then some true else (i_endOf t x).bind fun r2 =>
      (i_IsValidTime r2).bind fun r3 =>
      some (!r3))) = some (!decide (last < x.Id ∧ TripP t.Network x)) := by
  by_cases c1 : x.Id ≤ last
  · have : ¬ (last < x.Id ∧ TripP t.Network x) := fun h => by omega
    simp [c1, this]
  · by_cases c2 : 999 < x.Id
    · have : ¬ (last < x.Id ∧ TripP t.Network x) := fun h => by have := h.2.1; omega
      simp [c1, c2, this]
    · simp only [isLine_eq, time_eq, Option.bind_some, c1, c2, decide_false, Bool.false_eq_true, if_false]
      by_cases c3 : 0 ≤ x.Line ∧ x.Line < (t.Network.Lines.length : Int)
      · obtain ⟨l, hl, _⟩ := idx_lt (l := t.Network.Lines) c3.1 c3.2
        by_cases c4 : 0 ≤ x.Start ∧ x.Start ≤ 1799
        · have hT : (last < x.Id ∧ TripP t.Network x) ↔ (0 ≤ x.Start + l.Runs.sum ∧ x.Start + l.Runs.sum ≤ 1799) := by
            constructor
            · rintro ⟨_, _, l', hl', _, h⟩
              rw [hl] at hl'; cases hl'; exact h
            · intro h; exact ⟨by omega, ⟨by omega, by omega⟩, l, hl, c4, h⟩
          simp only [c3, c4, and_self, decide_true, Bool.not_true, Bool.false_eq_true, if_false, endOf_eq hg hl c4, time_eq, Option.bind_some, hT]
        · have : ¬ (last < x.Id ∧ TripP t.Network x) := fun h => by
            obtain ⟨_, _, l', _, h4, _⟩ := h
            exact c4 h4
          simp only [c3, c4, this, and_self, decide_true, decide_false, Bool.not_true, Bool.not_false, Bool.false_eq_true, if_false, if_true]
      · have : ¬ (last < x.Id ∧ TripP t.Network x) := fun h => by
          obtain ⟨_, _, l', hl', _⟩ := h
          have := idx_some hl'
          exact c3 ⟨this.1, this.2.1⟩
        simp only [c3, this, decide_false, Bool.not_false, if_true]
theorem areTrips_eq {t : Timetable} (hb : TB t) (hg : Good t.Network) : i_areTrips t = some (decide (t.Trips.length ≤ 12 ∧ TripsP t)) := by
  unfold i_areTrips
  by_cases h12 : t.Trips.length ≤ 12
  · have d : decide ((12 : Int) < (t.Trips.length : Int)) = false := by simp; omega
    have e : decide (t.Trips.length ≤ 12 ∧ TripsP t) = decide (TripsP t) := by simp [h12]
    rw [d, e]
    simp only [Bool.false_eq_true, if_false]
    refine flb_dec (.iter (fun m a => ∃ i : Nat, a.2 = (i : Int) ∧ m + i = t.Trips.length ∧ 0 ≤ a.1 ∧ (∀ y, 0 < i → t.Trips[i - 1]? = some y → a.1 = y.Id) ∧ (i = 0 → a.1 = 0) ∧ (∀ (j : Nat) x, j < i → t.Trips[j]? = some x → TripP t.Network x) ∧ ∀ (j : Nat) a b, j + 1 < i → t.Trips[j]? = some a → t.Trips[j + 1]? = some b → a.Id < b.Id)
      (n := t.Trips.length) ⟨0, rfl, rfl, by simp, by simp, by simp, fun j x h => by omega, fun j a b h => by omega⟩ ?_)
    rintro m ⟨last, v⟩ ⟨i, hv, hm, h0, h1, h2, h3, h4⟩
    simp only at hv h0 h1 h2
    subst hv
    unfold i_areTrips_L1
    refine .iteP (fun hc => ?_) (fun hc => .dn (.inl ⟨rfl, fun j x hx => h3 j x (by have := get_lt hx; omega) hx, fun j a b ha hb' => h4 j a b (by have := get_lt hb'; omega) ha hb'⟩))
    obtain ⟨x, hx⟩ := get_ex (l := t.Trips) (i := i) (by omega)
    refine .eq (by rw [idx_nat]; exact hx) (.eq (trip_i hb hg x last h0) (.iteN (fun hn => .dn (.inr ⟨rfl, fun hp => hn ⟨?_, hp.1 i x hx⟩⟩)) (fun hp => .nx ⟨m - 1, by omega, i + 1, w64_succ (by omega), by omega, ?_, ?_, by simp, ?_, ?_⟩)))
    · by_cases hi : i = 0
      · rw [h2 hi]; have := (hp.1 i x hx).1; omega
      · obtain ⟨y, hy⟩ := get_ex (l := t.Trips) (i := i - 1) (by omega)
        rw [h1 y (by omega) hy]
        exact hp.2 (i - 1) y x hy (by rw [show i - 1 + 1 = i by omega]; exact hx)
    · show 0 ≤ x.Id
      have := hp.2.1; omega
    · intro y _ hy
      rw [show i + 1 - 1 = i by omega, hx] at hy; cases hy; rfl
    · intro j y hj hy
      by_cases hji : j = i
      · subst hji; rw [hx] at hy; cases hy; exact hp.2
      · exact h3 j y (by omega) hy
    · intro j a b hj ha hb'
      by_cases hji : j + 1 = i
      · subst hji; rw [hx] at hb'; cases hb'
        have := h1 a (by omega) (by simpa using ha)
        omega
      · exact h4 j a b (by omega) ha hb'
  · have d : decide ((12 : Int) < (t.Trips.length : Int)) = true := by simp; omega
    simp [d, h12]
/-- A trip is as it should be, and behind the one before it. -/
def TripQ (t : Timetable) (i : Nat) (x : Trip) : Prop := TripP t.Network x ∧ ∀ y, 0 < i → t.Trips[i - 1]? = some y → y.Id < x.Id
noncomputable instance (t : Timetable) (i : Nat) (x : Trip) : Decidable (TripQ t i x) := Classical.propDecidable _
theorem goodT_iff (t : Timetable) : GoodT t ↔ Good t.Network ∧ t.Trips.length ≤ 12 ∧ TripsP t := Iff.rfl
theorem validT_eq {t : Timetable} (hb : TB t) : i_IsValidTimetable t = some (decide (GoodT t)) := by
  unfold i_IsValidTimetable
  rw [valid_eq _ hb.1]
  by_cases hg : Good t.Network
  · simp only [hg, decide_true, if_true, Option.bind_some, areTrips_eq hb hg, goodT_iff, true_and]
  · have : ¬ GoodT t := fun h => hg h.1
    simp [hg, this]
theorem goodT_eq {t : Timetable} (hb : TB t) : s_l5Good t = some (decide (GoodT t)) := by
  unfold s_l5Good
  rw [good_eq _ hb.1]
  by_cases hg : Good t.Network
  · by_cases h12 : t.Trips.length ≤ 12
    · have d : decide ((12 : Int) < (t.Trips.length : Int)) = false := by simp; omega
      have e : decide (GoodT t) = decide (TripsP t) := by rw [decide_eq_decide, goodT_iff]; simp [hg, h12]
      simp only [hg, decide_true, Bool.not_true, Bool.false_eq_true, if_false, Option.bind_some, d, e]
      refine flb_dec (.iter (fun m a => ∃ i : Nat, a = (i : Int) ∧ m + i = t.Trips.length ∧ (∀ (j : Nat) x, j < i → t.Trips[j]? = some x → TripP t.Network x) ∧ ∀ (j : Nat) a b, j + 1 < i → t.Trips[j]? = some a → t.Trips[j + 1]? = some b → a.Id < b.Id)
        (n := t.Trips.length) ⟨0, rfl, rfl, fun j x h => by omega, fun j a b h => by omega⟩ ?_)
      rintro m v ⟨i, hv, hm, h3, h4⟩
      subst hv
      unfold s_l5Good_L1
      refine .iteP (fun hc => ?_) (fun hc => .dn (.inl ⟨rfl, fun j x hx => h3 j x (by have := get_lt hx; omega) hx, fun j a b ha hb' => h4 j a b (by have := get_lt hb'; omega) ha hb'⟩))
      obtain ⟨x, hx⟩ := get_ex (l := t.Trips) (i := i) (by omega)
      refine .eq (by rw [idx_nat]; exact hx) ?_
      have hll := hg.2.1
      have ew : w64 ((t.Network.Lines.length : Int) - 1) = (t.Network.Lines.length : Int) - 1 := w64_id (by omega)
      have key : ((s_l1In x.Id 1 999).bind fun r6 =>
      (if (!r6) = true then some true else (s_l1In x.Line 0 (w64 ((t.Network.Lines.length : Int) - 1))).bind fun r7 =>
      if (!r7) = true then some true else (s_l4Time x.Start).bind fun r8 =>
      if (!r8) = true then some true else (s_l5End t (i : Int)).bind fun r9 =>
      (s_l4Time r9).bind fun r10 =>
      if (!r10) = true then some true else if (decide (0 < (i : Int))) = true then (idx t.Trips (w64 ((i : Int) - 1))).bind fun e2 =>
      some (decide (x.Id ≤ e2.Id)) else some false)) = some (!decide (TripQ t i x)) := by
        have no : ¬ TripP t.Network x → (!decide (TripQ t i x)) = true := fun h => (by simp [show ¬ TripQ t i x from fun q => h q.1])
        simp only [l1In_eq, l4Time_eq, ew, Option.bind_some]
        by_cases c1 : 1 ≤ x.Id ∧ x.Id ≤ 999
        · by_cases c3 : 0 ≤ x.Line ∧ x.Line ≤ (t.Network.Lines.length : Int) - 1
          · obtain ⟨l, hl, _⟩ := idx_lt (l := t.Network.Lines) c3.1 (by omega)
            by_cases c4 : 0 ≤ x.Start ∧ x.Start ≤ 1799
            · simp only [c1, c3, c4, and_self, decide_true, Bool.not_true, Bool.false_eq_true, if_false, l5End_eq hg hx hl c4, l4Time_eq, Option.bind_some]
              by_cases c5 : 0 ≤ x.Start + l.Runs.sum ∧ x.Start + l.Runs.sum ≤ 1799
              · have hT : TripP t.Network x := ⟨c1, l, hl, c4, c5⟩
                simp only [c5, and_self, decide_true, Bool.not_true, Bool.false_eq_true, if_false, ]
                by_cases c6 : 0 < i
                · obtain ⟨y, hy⟩ := get_ex (l := t.Trips) (i := i - 1) (by omega)
                  have e1 : w64 ((i : Int) - 1) = ((i - 1 : Nat) : Int) := by rw [w64_id (by omega)]; omega
                  have c6' : (0 : Int) < (i : Int) := by omega
                  simp only [c6', decide_true, if_true, e1, idx_nat, hy, Option.bind_some, Option.some.injEq]
                  by_cases c7 : x.Id ≤ y.Id
                  · have : ¬ TripQ t i x := fun h => by have := h.2 y c6 hy; omega
                    simp only [c7, decide_true, this, decide_false, Bool.not_false]
                  · have : TripQ t i x := ⟨hT, fun z _ hz => by rw [hy] at hz; cases hz; omega⟩
                    simp only [c7, decide_false, this, decide_true, Bool.not_true]
                · have c6' : ¬ (0 : Int) < (i : Int) := by omega
                  have : TripQ t i x := ⟨hT, fun z h0 _ => absurd h0 c6⟩
                  simp only [c6', decide_false, Bool.false_eq_true, if_false, this, decide_true, Bool.not_true]
              · rw [no (fun hT => by
                  obtain ⟨_, l', hl', _, h⟩ := hT
                  rw [hl] at hl'; cases hl'; exact c5 h)]
                simp only [c5, decide_false, Bool.not_false, if_true]
            · rw [no (fun hT => by obtain ⟨_, l', _, h, _⟩ := hT; exact c4 h)]
              simp only [c1, c3, c4, and_self, decide_true, decide_false, Bool.not_true, Bool.not_false, Bool.false_eq_true, if_false, if_true]
          · rw [no (fun hT => by
              obtain ⟨_, l', hl', _⟩ := hT
              have := idx_some hl'
              exact c3 ⟨this.1, by omega⟩)]
            simp only [c1, c3, and_self, decide_true, decide_false, Bool.not_true, Bool.not_false, Bool.false_eq_true, if_false, if_true]
        · rw [no (fun hT => c1 hT.1)]
          simp only [c1, decide_false, Bool.not_false, if_true]
      rw [bind_assoc', key]
      refine .iteN (fun hn => .dn (.inr ⟨rfl, fun hp => hn ⟨hp.1 i x hx, fun y hi hy => hp.2 (i - 1) y x hy (by rw [show i - 1 + 1 = i by omega]; exact hx)⟩⟩)) (fun hp => .nx ⟨m - 1, by omega, i + 1, w64_succ (by omega), by omega, ?_, ?_⟩)
      · intro j y hj hy
        by_cases hji : j = i
        · subst hji; rw [hx] at hy; cases hy; exact hp.1
        · exact h3 j y (by omega) hy
      · intro j a b hj ha hb'
        by_cases hji : j + 1 = i
        · subst hji; rw [hx] at hb'; cases hb'
          exact hp.2 a (by omega) (by simpa using ha)
        · exact h4 j a b (by omega) ha hb'
    · have d : decide ((12 : Int) < (t.Trips.length : Int)) = true := by simp; omega
      have : ¬ GoodT t := fun h => h12 h.2.1
      simp [hg, d, this]
  · have : ¬ GoodT t := fun h => hg h.1
    simp [hg, this]
/-! Timetables: what is looked up; stop times; draws. -/
theorem tripIndex_eq (t : Timetable) (h : t.Trips.length ≤ 1000) (id : Int) : i_tripIndex t id = some (fixI (fun x => x.Id == id) t.Trips) := by
  unfold i_tripIndex slices_IndexFunc_Trip__i_tripIndex_1 slices_IndexFunc_Trip
  rw [find_val t.Trips (fun x => x.Id == id) (fun i x hx => ?_) (by unfold slices_IndexFunc_Trip_L1; simp)]
  · rfl
  · have := get_lt hx
    unfold slices_IndexFunc_Trip_L1 i_tripIndex_1
    simp (disch := omega) only [if_pos, if_neg, decide_eq_true_eq, decide_true, decide_false, Bool.not_true, Bool.not_false, Bool.false_eq_true, Bool.not_eq_true', decide_eq_false_iff_not, if_true, if_false, w64_id, chk_of, idx_nat, Option.bind_some, Option.map_some, Int.toNat_natCast, not_true_eq_false, not_false_eq_true, true_and, and_true, and_self, false_and, and_false, reduceIte, flb_go, flb_ret, beq_self_eq_true, ne_eq, bne_self_eq_false, hx, Int.ofNat_lt.2 this]
    split <;> simp [*] <;> omega
theorem l5Find_eq (t : Timetable) (h : t.Trips.length ≤ 1000) (id : Int) : s_l5Find t id = some (fixI (fun x => x.Id == id) t.Trips) := by
  unfold s_l5Find
  rw [find_val t.Trips (fun x => x.Id == id) (fun i x hx => ?_) (by unfold s_l5Find_L1; simp)]
  have := get_lt hx
  unfold s_l5Find_L1
  simp (disch := omega) only [if_pos, if_neg, decide_eq_true_eq, decide_true, decide_false, Bool.not_true, Bool.not_false, Bool.false_eq_true, Bool.not_eq_true', decide_eq_false_iff_not, if_true, if_false, w64_id, chk_of, idx_nat, Option.bind_some, Option.map_some, Int.toNat_natCast, not_true_eq_false, not_false_eq_true, true_and, and_true, and_self, false_and, and_false, reduceIte, flb_go, flb_ret, beq_self_eq_true, ne_eq, bne_self_eq_false, hx, Int.ofNat_lt.2 this]
  split <;> simp [*] <;> omega
theorem lineOf_eq {t : Timetable} {x : Trip} {l : Line} (hl : idx t.Network.Lines x.Line = some l) : i_lineOf t x = some l := by
  unfold i_lineOf; rw [hl]; rfl
/-- A valid timetable's trip, with its line. -/
theorem trip_line {t : Timetable} (h : GoodT t) {i : Nat} {x : Trip} (hx : t.Trips[i]? = some x) : ∃ l, idx t.Network.Lines x.Line = some l ∧ LineP t.Network.Stops.length l ∧ (1 ≤ x.Id ∧ x.Id ≤ 999) ∧ (0 ≤ x.Start ∧ x.Start ≤ 1799) ∧ 0 ≤ x.Start + l.Runs.sum ∧ x.Start + l.Runs.sum ≤ 1799 := by
  obtain ⟨h1, l, hl, h2, h3⟩ := h.2.2.1 i x hx
  exact ⟨l, hl, good_line h.1 hl, h1, h2, h3⟩
theorem ids_lt {t : Timetable} (h : GoodT t) {i j : Nat} {a b : Trip} (hij : i < j) (ha : t.Trips[i]? = some a) (hb : t.Trips[j]? = some b) : a.Id < b.Id := by
  induction j generalizing b with
  | zero => omega
  | succ j ih =>
    obtain ⟨c, hc⟩ := get_ex (l := t.Trips) (i := j) (by have := get_lt hb; omega)
    have h1 := h.2.2.2 j c b hc hb
    by_cases hji : i = j
    · subst hji; rw [ha] at hc; cases hc; exact h1
    · have := ih (by omega) hc; omega
/-- A trip is found by its Id. -/
theorem trip_fix {t : Timetable} (h : GoodT t) {i : Nat} {x : Trip} (hx : t.Trips[i]? = some x) : fixI (fun y => y.Id == x.Id) t.Trips = (i : Int) := by
  refine fixI_of hx (by simp) fun j y hj hy => ?_
  have := ids_lt h hj hy hx
  simp; omega
/-- The stop times. -/
def ST (l : Line) (s : Int) : List Int := (List.range (l.Runs.length + 1)).map fun k => s + (l.Runs.take k).sum
theorem ST_len (l : Line) (s : Int) : (ST l s).length = l.Runs.length + 1 := by simp [ST]
theorem ST_at {l : Line} {s : Int} {k : Nat} (hk : k ≤ l.Runs.length) : (ST l s)[k]? = some (s + (l.Runs.take k).sum) := by
  unfold ST; rw [List.getElem?_map, List.getElem?_range (by omega)]; rfl
theorem stopTimes_eq {t : Timetable} {x : Trip} {l : Line} {st : Nat} (hl : idx t.Network.Lines x.Line = some l) (hp : LineP st l) (hs : 0 ≤ x.Start ∧ x.Start ≤ 1799) : i_stopTimes t x = some (ST l x.Start) := by
  obtain ⟨⟨h1, h2, h3⟩, h4⟩ := line_runs hp
  unfold i_stopTimes
  rw [lineOf_eq hl]
  simp only [Option.bind_some]
  refine Tot.val (.call (P := fun v => v = ST l x.Start) ?_ fun v h => .ok h)
  refine .iter (fun m s => ∃ k : Nat, s.1 = (k : Int) ∧ m + k = l.Runs.length ∧ s.2 = (ST l x.Start).take (k + 1)) (n := l.Runs.length) ⟨0, rfl, rfl, ?_⟩ ?_
  · rw [take_succ (x := x.Start) (by have := ST_at (l := l) (s := x.Start) (k := 0) (by omega); simpa using this)]; rfl
  · rintro m ⟨v, r⟩ ⟨k, hk, hm, hr⟩
    simp only at hk hr
    subst hk
    unfold i_stopTimes_L1
    have hlen := ST_len l x.Start
    refine .iteP (fun hc => ?_) (fun hc => .dn (by rw [hr, List.take_of_length_le (by omega)]))
    obtain ⟨e, he⟩ := get_ex (l := l.Runs) (i := k) (by omega)
    have hk1 := ST_at (l := l) (s := x.Start) (k := k) (by omega)
    have hk2 := ST_at (l := l) (s := x.Start) (k := k + 1) (by omega)
    have b1 := runs_sum hp k
    have b2 := h4 e (List.mem_of_getElem? he)
    refine .eq (by rw [idx_nat]; exact he) (.eq (by rw [idx_nat, hr, List.getElem?_take_of_lt (by omega)]; exact hk1) (.chk (by rw [hr]; simp; omega) (.nx ⟨m - 1, by omega, k + 1, w64_succ (by omega), by omega, ?_⟩)))
    show r ++ [w64 (x.Start + (l.Runs.take k).sum + e)] = _
    rw [take_succ hk2, hr, w64_id (by omega), sum_take_succ he, Int.add_assoc]

/-- A trip that is there, found by its Id. -/
theorem find_trip {t : Timetable} (hb : TB t) (hT : GoodT t) {k : Nat} {y : Trip} (hy : t.Trips[k]? = some y) : i_tripIndex t y.Id = some (k : Int) ∧ s_l5Find t y.Id = some (k : Int) := by
  rw [tripIndex_eq t hb.2, l5Find_eq t hb.2, trip_fix hT hy]
  exact ⟨rfl, rfl⟩
theorem found_or {t : Timetable} (id : Int) : (fixI (fun x => x.Id == id) t.Trips < 0 ∧ ∀ (k : Nat) y, t.Trips[k]? = some y → y.Id ≠ id) ∨ ∃ (k : Nat) (y : Trip), t.Trips[k]? = some y ∧ y.Id = id := by
  by_cases h : fixI (fun x => x.Id == id) t.Trips < 0
  · refine .inl ⟨h, fun k y hy => ?_⟩
    have := fixI_neg h y (List.mem_of_getElem? hy)
    simpa using this
  · obtain ⟨k, y, _, h2, h3, _⟩ := idx_fix h
    exact .inr ⟨k, y, h2, by simpa using h3⟩
/-! Draws -/
theorem network_ok {k : Nat} {c : l1Cur} (h : Cur k c) (hk : k ≤ 500000000) : ∃ r, s_l1Cur_network c = some r ∧ Cur (k + 300) r.2 ∧ NB r.1 := networkT_ok h hk
theorem network_t_ok {k : Nat} {c : l1Cur} (h : Cur k c) (hk : k ≤ 500000000) : ∃ r, s_l1Cur_network_t c = some r ∧ Cur (k + 300) r.2 ∧ NB r.1 := networkT_ok h hk
theorem anyNet_ok {k : Nat} {c : l1Cur} (h : Cur k c) (hk : k ≤ 200000000) : Tot (s_l1Cur_anyNetwork c) fun r => Cur (k + 1000) r.2 ∧ Bd r.1 := anyNetwork_ok h hk
def DT (t : Timetable) : Prop := Bd t.Network ∧ t.Trips.length ≤ 30
theorem DT.tb {t : Timetable} (h : DT t) : TB t := ⟨h.1, by have := h.2; omega⟩
theorem timetable_ok {k : Nat} {c : l1Cur} (h : Cur k c) (hk : k ≤ 100000000) : Tot (s_l1Cur_timetable c) fun r => Cur (k + 400) r.2 ∧ DT r.1 ∧ NB r.1.Network ∧ r.1.Trips.length ≤ 8 := by
  unfold s_l1Cur_timetable
  refine .call (networkT_ok h (by omega)) fun r ⟨hc, hn⟩ => .call (pick_ok 8 hc (by omega)) fun r1 ⟨hc1, h0, h1⟩ => ?_
  refine .call (P := fun o => Cur (k + 400) ⟨o.1, o.2.1, ⟨o.2.2.1⟩⟩ ∧ o.2.2.2.length ≤ 8) ?_ fun o ⟨ho1, ho2⟩ => .ok ⟨ho1, ⟨hn.bd, by show o.2.2.2.length ≤ 30; omega⟩, hn, ho2⟩
  refine .iter (fun m s => s.2.1 = (m : Int) ∧ m + s.2.2.2.2.2.length ≤ 8 ∧ Cur (k + 302 + 6 * (8 - m)) ⟨s.2.2.1, s.2.2.2.1, ⟨s.2.2.2.2.1⟩⟩) (n := r1.1.toNat) ⟨by show r1.1 = _; omega, by show r1.1.toNat + 0 ≤ 8; omega, hc1.mono (by omega)⟩ ?_
  rintro m ⟨n, v, v1, v2, v3, v4⟩ ⟨hv, hl, hcur⟩
  simp only at hv hl hcur
  subst hv
  unfold s_l1Cur_timetable_L1
  refine .iteP (fun hc => ?_) (fun hc => .dn ⟨hcur.mono (by omega), by show v4.length ≤ 8; omega⟩)
  refine .call (pick_ok 3 hcur (by omega)) fun r2 ⟨hc2, _⟩ => .call (pick_ok _ hc2 (by omega)) fun r5 ⟨hc5, _⟩ => .call (pick_ok 24 hc5 (by omega)) fun r6 ⟨hc6, _⟩ => .chk (by simp; omega) (.nx ⟨m - 1, by omega, ?_, ?_, ?_⟩)
  · show w64 ((m : Int) - 1) = _; rw [w64_id (by omega)]; omega
  · show m - 1 + (v4 ++ [_]).length ≤ 8; simp; omega
  · exact hc6.mono (by omega)
theorem anyTimetable_ok {k : Nat} {c : l1Cur} (h : Cur k c) (hk : k ≤ 50000000) : Tot (s_l1Cur_anyTimetable c) fun r => Cur (k + 2000) r.2 ∧ DT r.1 := by
  unfold s_l1Cur_anyTimetable
  refine .call (timetable_ok h (by omega)) fun r ⟨hc, hd, hn, hl⟩ => ?_
  refine .ite (fun _ => .ok ⟨hc.mono (by omega), hd⟩) fun he => ?_
  have hpos : 0 < r.1.Trips.length := by
    have : (r.1.Trips.length : Int) ≠ 0 := by simpa using he
    omega
  refine .call (pick_ok _ hc (by omega)) fun r1 ⟨hc1, h10, h11⟩ => ?_
  have h12 : r1.1 < (r.1.Trips.length : Int) := by omega
  refine .idx h10 h12 fun e _ => ?_
  have fin : ∀ (v : List UInt8) (v1 v2 : Int) (v3 : List Line) (v4 v5 v6 : Int) (v7 : List ByteArray), Cur (k + 2000) ⟨v, v1, ⟨v2⟩⟩ → Bd ⟨v7, v3⟩ → Tot ((idx r.1.Trips r1.1).bind fun e2 => some ((⟨(⟨v7, v3⟩ : Network), (r.1.Trips.set r1.1.toNat (⟨v4, v5, v6⟩ : Trip))⟩ : Timetable), (⟨v, v1, (⟨v2⟩ : IK .u64)⟩ : l1Cur))) fun r => Cur (k + 2000) r.2 ∧ DT r.1 := fun v v1 v2 v3 v4 v5 v6 v7 q1 q2 =>
    .idx h10 h12 fun e2 _ => .ok ⟨q1, q2, by show (r.1.Trips.set _ _).length ≤ 30; rw [List.length_set]; omega⟩
  refine .flb (.call (pick_ok 24 hc1 (by omega)) fun r2 ⟨hc2, _⟩ => ?_)
  refine .ite (fun _ => .call (among_ok _ (by simp) hc2 (by omega)) fun r3 ⟨hc3, _⟩ => .go (fin _ _ _ _ _ _ _ _ (hc3.mono (by omega)) hd.1)) fun _ => ?_
  refine .ite (fun _ => .call (pick_ok 7 hc2 (by omega)) fun r3 ⟨hc3, _⟩ => .go (fin _ _ _ _ _ _ _ _ (hc3.mono (by omega)) hd.1)) fun _ => ?_
  refine .ite (fun _ => .call (among_ok _ (by simp) hc2 (by omega)) fun r3 ⟨hc3, _⟩ => .go (fin _ _ _ _ _ _ _ _ (hc3.mono (by omega)) hd.1)) fun _ => ?_
  refine .ite (fun _ => .call (anyNet_ok hc2 (by omega)) fun r3 ⟨hc3, hb⟩ => .go (fin _ _ _ _ _ _ _ _ (hc3.mono (by omega)) hb)) fun _ => ?_
  refine .ite (fun _ => ?_) fun _ => .go (fin _ _ _ _ _ _ _ _ (hc2.mono (by omega)) hd.1)
  refine .call (P := fun o => Cur (k + 2000) ⟨o.1, o.2.1, ⟨o.2.2.1⟩⟩ ∧ o.2.2.2.length ≤ 30) ?_ fun o ⟨ho1, ho2⟩ => .ret ⟨ho1, hd.1, ho2⟩
  refine .iter (fun m s => ∃ i : Nat, s.1 = (i : Int) ∧ m + i = 14 ∧ s.2.2.2.2.length ≤ 8 + i ∧ Cur (k + 500 + 2 * i) ⟨s.2.1, s.2.2.1, ⟨s.2.2.2.1⟩⟩) (n := 14) ⟨0, rfl, rfl, by simpa using hl, hc2.mono (by omega)⟩ ?_
  rintro m ⟨v8, v9, v10, v11, v12⟩ ⟨i, hv, hm, hl12, hcur⟩
  simp only at hv hl12 hcur
  subst hv
  unfold s_l1Cur_anyTimetable_L1
  refine .call (pick_ok 2 hcur (by omega)) fun r8 ⟨hc8, _⟩ => ?_
  refine .call (P := fun b => b = true → i < 14) (.ite (fun _ => .ok fun hb => by simp at hb; omega) fun _ => .ok fun hb => by cases hb) fun b hb => ?_
  refine .ite (fun ht => .chk (by simp; omega) (.nx ⟨m - 1, by have := hb ht; omega, i + 1, w64_succ (by omega), by have := hb ht; omega, ?_, hc8.mono (by omega)⟩)) (fun _ => .dn ⟨hc8.mono (by omega), by show v12.length ≤ 30; omega⟩)
  show (v12 ++ [_]).length ≤ 8 + (i + 1); simp; omega
theorem idOf_ok {k : Nat} {c : l1Cur} (t : Timetable) (h : Cur k c) (hk : k ≤ 1000000000) : Tot (s_l1Cur_idOf c t) fun r => Cur (k + 4) r.2 := by
  unfold s_l1Cur_idOf
  refine .call (P := fun o => Cur (k + 2) ⟨o.2.1, o.2.2.1, ⟨o.2.2.2⟩⟩ ∧ (o.1 = false → 0 < t.Trips.length)) (.ite (fun _ => .ok ⟨h.mono (by omega), fun h => by cases h⟩) fun he => .call (one_ok 8 h (by omega)) fun r hc => .ok ⟨hc, fun _ => ?_⟩) fun o ⟨ho, hz⟩ => ?_
  · have : (t.Trips.length : Int) ≠ 0 := by simpa using he
    omega
  · refine .ite (fun _ => .call (pick_ok 30 ho (by omega)) fun r1 ⟨hc1, _⟩ => .ok (hc1.mono (by omega))) fun hf => ?_
    have := hz hf
    refine .call (pick_ok _ ho (by omega)) fun r3 ⟨hc3, h0, h1⟩ => .idx h0 (by omega) fun e _ => .ok (hc3.mono (by omega))
/-! What many laws lean on: draws in the style of Tot, lists held against themselves, comparisons. -/
theorem t_pick {k : Nat} {c : l1Cur} (n : Int) (h : Cur k c) (hk : k ≤ 3000000000) : Tot (s_l1Cur_pick c n) fun r => Cur (k + 2) r.2 ∧ 0 ≤ r.1 ∧ (r.1 < n ∨ r.1 = 0) := pick_ok n h hk
theorem t_one {k : Nat} {c : l1Cur} (n : Int) (h : Cur k c) (hk : k ≤ 3000000000) : Tot (s_l1Cur_one c n) fun r => Cur (k + 2) r.2 := one_ok n h hk
theorem t_among {k : Nat} {c : l1Cur} (l : List Int) (hl : l ≠ []) (h : Cur k c) (hk : k ≤ 3000000000) : Tot (s_l1Cur_among c l) fun r => Cur (k + 2) r.2 ∧ r.1 ∈ l := among_ok l hl h hk
theorem t_amongw {k : Nat} {c : l1Cur} (l : List Int) (hl : l ≠ []) (h : Cur k c) (hk : k ≤ 3000000000) : Tot (s_l1Cur_among_w c l) fun r => Cur (k + 2) r.2 ∧ r.1 ∈ l := amongw_ok l hl h hk
theorem t_time {k : Nat} {c : l1Cur} (h : Cur k c) (hk : k ≤ 2000000000) : Tot (s_l1Cur_time c) fun r => Cur (k + 4) r.2 := by
  unfold s_l1Cur_time
  refine Tot.call (t_one 16 h (by omega)) fun r hr => .ite (fun _ => ?_) (fun _ => ?_)
  · exact Tot.call (t_among _ (by simp) hr (by omega)) fun r hr => .ok hr.1
  · exact Tot.call (t_pick 240 hr (by omega)) fun r hr => .ok hr.1
theorem rBig_eq (code : List UInt8) : v_rBig code = some (decide (65536 < (code.length : Int))) := rfl
theorem compare_int (x y : Int) : cmp_Compare_int x y = some (if x < y then -1 else if y < x then 1 else 0) := by
  unfold cmp_Compare_int cmp_isNaN_int
  by_cases h : x < y
  · simp [h]
  · by_cases h2 : y < x <;> simp [h, h2]
theorem idx0 {α : Type} (l : List α) : idx l 0 = l[0]? := idx_nat l 0
/-! Lists held against themselves (the second half's helpers). -/
theorem rInts_refl (a : List Int) (h : a.length ≤ 100000) : v_rInts a a = some true := by
  unfold v_rInts
  simp only [bne_self_eq_false, Bool.false_eq_true, if_false]
  rw [all_val (hd := Classical.propDecidable _) a (fun _ _ => True) (fun i x hx => ?_) (by unfold v_rInts_L1; simp)]
  · rw [if_pos (fun _ _ _ => trivial)]
  · have hi := get_lt hx
    unfold v_rInts_L1
    have hlt : decide ((i : Int) < (a.length : Int)) = true := by simp; omega
    left
    simp only [hlt, if_true, idx_nat, hx, Option.bind_some, bne_self_eq_false, Bool.false_eq_true, if_false, w64_succ (n := i) (by omega), and_self]
/-! Reports: when they are valid. -/
def RepP (n : Network) (r : Report) : Prop := (1 ≤ r.Vehicle ∧ r.Vehicle ≤ 99) ∧ (0 ≤ r.Time ∧ r.Time ≤ 1799) ∧ ∃ l, idx n.Lines r.Line = some l ∧ 0 ≤ r.Done ∧ r.Done ≤ l.Runs.sum
noncomputable instance (n : Network) (r : Report) : Decidable (RepP n r) := Classical.propDecidable _
def OrdR (a b : Report) : Prop := a.Time < b.Time ∨ (a.Time = b.Time ∧ a.Vehicle < b.Vehicle)
def RepQ (n : Network) (list : List Report) (i : Nat) (r : Report) : Prop := RepP n r ∧ ∀ y, 0 < i → list[i - 1]? = some y → OrdR y r
def RepsP (n : Network) (list : List Report) : Prop := list.length ≤ 20 ∧ ∀ (i : Nat) r, list[i]? = some r → RepQ n list i r
noncomputable instance (n : Network) (l : List Report) : Decidable (RepsP n l) := Classical.propDecidable _
theorem l25Long_eq {st : Nat} {l : Line} (h : LineP st l) : s_l25Long l = some l.Runs.sum := by
  obtain ⟨⟨h1, h2, h3⟩, h4⟩ := line_runs h
  have e : w64 ((l.Stops.length : Int) - 1) = (l.Runs.length : Int) := by rw [w64_id (by omega)]; omega
  have e2 := l2Run_eq l 0 l.Runs.length (by omega) (Nat.le_refl _) (by omega) (fun x hx => by have := h4 x hx; omega)
  rw [List.drop_zero, List.take_length] at e2
  have e2' : s_l2Run l 0 (l.Runs.length : Int) = some l.Runs.sum := e2
  unfold s_l25Long
  rw [e, e2']; rfl
theorem isReport_eq {t : Timetable} (hg : Good t.Network) (r : Report) : i_isReport t r = some (decide (RepP t.Network r)) := by
  unfold i_isReport
  rw [within_eq, time_eq, isLine_eq]
  by_cases c1 : 1 ≤ r.Vehicle ∧ r.Vehicle ≤ 99
  · by_cases c2 : 0 ≤ r.Time ∧ r.Time ≤ 1799
    · by_cases c3 : 0 ≤ r.Line ∧ r.Line < (t.Network.Lines.length : Int)
      · obtain ⟨l, hl, _⟩ := idx_lt (l := t.Network.Lines) c3.1 c3.2
        obtain ⟨⟨h1, h2, h3⟩, h4⟩ := line_runs (good_line hg hl)
        have e := total_eq l.Runs (by omega) (fun x hx => by have := h4 x hx; omega)
        have hR : RepP t.Network r ↔ (0 ≤ r.Done ∧ r.Done ≤ l.Runs.sum) := by
          constructor
          · rintro ⟨_, _, l', hl', h⟩
            rw [hl] at hl'; cases hl'; exact h
          · intro h; exact ⟨c1, c2, l, hl, h⟩
        simp only [c1, c2, c3, and_self, decide_true, if_true, Option.bind_some, hl, e, within_eq, hR]
      · have : ¬ RepP t.Network r := fun h => by
          obtain ⟨_, _, l, hl, _⟩ := h
          have := idx_some hl
          exact c3 ⟨this.1, this.2.1⟩
        simp [c1, c2, c3, this]
    · have : ¬ RepP t.Network r := fun h => c2 h.2.1
      simp [c1, c2, this]
  · have : ¬ RepP t.Network r := fun h => c1 h.1
    simp [c1, this]
theorem l25Report_eq {t : Timetable} (hg : Good t.Network) (r : Report) : s_l25Report t r = some (decide (RepP t.Network r)) := by
  have hbl := hg.2.1
  have wl : w64 ((t.Network.Lines.length : Int) - 1) = (t.Network.Lines.length : Int) - 1 := w64_id (by omega)
  unfold s_l25Report
  rw [l1In_eq, l4Time_eq, wl, l1In_eq]
  by_cases c1 : 1 ≤ r.Vehicle ∧ r.Vehicle ≤ 99
  · by_cases c2 : 0 ≤ r.Time ∧ r.Time ≤ 1799
    · by_cases c3 : 0 ≤ r.Line ∧ r.Line ≤ (t.Network.Lines.length : Int) - 1
      · obtain ⟨l, hl, _⟩ := idx_lt (l := t.Network.Lines) c3.1 (by omega)
        have e := l25Long_eq (good_line hg hl)
        have hR : RepP t.Network r ↔ (0 ≤ r.Done ∧ r.Done ≤ l.Runs.sum) := by
          constructor
          · rintro ⟨_, _, l', hl', h⟩
            rw [hl] at hl'; cases hl'; exact h
          · intro h; exact ⟨c1, c2, l, hl, h⟩
        simp only [c1, c2, c3, and_self, decide_true, if_true, Option.bind_some, hl, e, l1In_eq, hR]
      · have : ¬ RepP t.Network r := fun h => by
          obtain ⟨_, _, l, hl, _⟩ := h
          have := idx_some hl
          exact c3 ⟨this.1, by omega⟩
        simp [c1, c2, c3, this]
    · have : ¬ RepP t.Network r := fun h => c2 h.2.1
      simp [c1, c2, this]
  · have : ¬ RepP t.Network r := fun h => c1 h.1
    simp [c1, this]
theorem or2_eq (a b : Int) : cmp_Or_int [a, b] = some (if a ≠ 0 then a else b) := by
  have hz : idx [a, b] 0 = some a ∧ idx [a, b] 1 = some b := ⟨rfl, rfl⟩
  have w1 : w64 1 = 1 := rfl
  have w2 : w64 2 = 2 := rfl
  unfold cmp_Or_int
  by_cases ha : a = 0
  · have s1 : cmp_Or_int_L1 [a, b] 0 = some (.nx 1) := by unfold cmp_Or_int_L1; dsimp only; rw [hz.1]; simp [ha, w1]
    by_cases hb : b = 0
    · have s2 : cmp_Or_int_L1 [a, b] 1 = some (.nx 2) := by unfold cmp_Or_int_L1; dsimp only; rw [hz.2]; simp [hb, w2]
      have s3 : cmp_Or_int_L1 [a, b] 2 = some (.dn (.go ())) := by unfold cmp_Or_int_L1; simp
      rw [iter_nx s1, iter_nx s2, iter_dn s3]
      simp [ha, hb]
    · have s2 : cmp_Or_int_L1 [a, b] 1 = some (.dn (.ret b)) := by unfold cmp_Or_int_L1; dsimp only; rw [hz.2]; simp [hb]
      rw [iter_nx s1, iter_dn s2]
      simp [ha]
  · have s1 : cmp_Or_int_L1 [a, b] 0 = some (.dn (.ret a)) := by unfold cmp_Or_int_L1; dsimp only; rw [hz.1]; simp [ha]
    rw [iter_dn s1]
    simp [ha]
theorem ord_cmp (y r : Report) : (0 ≤ (if (if y.Time < r.Time then (-1 : Int) else if r.Time < y.Time then 1 else 0) ≠ 0 then (if y.Time < r.Time then (-1 : Int) else if r.Time < y.Time then 1 else 0) else (if y.Vehicle < r.Vehicle then (-1 : Int) else if r.Vehicle < y.Vehicle then 1 else 0))) ↔ ¬ OrdR y r := by
  unfold OrdR
  by_cases h1 : y.Time < r.Time
  · simp [h1]
  · by_cases h2 : r.Time < y.Time
    · have h4 : ¬ y.Time = r.Time := by omega
      simp [h1, h2, h4]
    · have h3 : y.Time = r.Time := by omega
      by_cases h5 : y.Vehicle < r.Vehicle
      · simp [h3, h5]
      · by_cases h6 : r.Vehicle < y.Vehicle <;> simp [h3, h5, h6]
theorem areReports_eq {t : Timetable} (hg : Good t.Network) (list : List Report) : i_areReports t list = some (decide (RepsP t.Network list)) := by
  unfold i_areReports
  by_cases hl : list.length ≤ 20
  · have h0 : ¬ (20 : Int) < (list.length : Int) := by omega
    simp only [h0, decide_false, Bool.false_eq_true, if_false]
    rw [all_val (hd := Classical.propDecidable _) list (RepQ t.Network list) (fun i x hx => ?_) (by unfold i_areReports_L1; simp)]
    · have hR : RepsP t.Network list ↔ ∀ (i : Nat) x, list[i]? = some x → RepQ t.Network list i x := ⟨fun h => h.2, fun h => ⟨hl, h⟩⟩
      by_cases h : ∀ (i : Nat) x, list[i]? = some x → RepQ t.Network list i x
      · rw [if_pos h]; simp [hR.2 h]
      · rw [if_neg h]; have : ¬ RepsP t.Network list := fun h' => h (hR.1 h'); simp [this]
    · have := get_lt hx
      unfold i_areReports_L1
      simp only [Int.ofNat_lt.2 this, decide_true, if_true, idx_nat, hx, Option.bind_some, isReport_eq hg, compare_int, or2_eq]
      by_cases hp : RepP t.Network x
      · by_cases hi : 0 < i
        · obtain ⟨y, hy⟩ := get_ex (l := list) (i := i - 1) (by omega)
          have w : w64 ((i : Int) - 1) = ((i - 1 : Nat) : Int) := by rw [w64_id (by omega)]; omega
          have hi' : (0 : Int) < (i : Int) := by omega
          by_cases ho : OrdR y x
          · left
            have := mt (ord_cmp y x).1 (not_not_intro ho)
            refine ⟨?_, hp, fun z _ hz => by rw [hy] at hz; cases hz; exact ho⟩
            simp only [hp, decide_true, Bool.not_true, Bool.false_eq_true, if_false, hi', if_true, w, idx_nat, hy, Option.bind_some, this, decide_false, w64_succ (n := i) (by omega)]
          · right
            have := (ord_cmp y x).2 ho
            refine ⟨?_, fun h => ho (h.2 y hi hy)⟩
            simp only [hp, decide_true, Bool.not_true, Bool.false_eq_true, if_false, hi', if_true, w, idx_nat, hy, Option.bind_some, this]
        · left
          have hi' : ¬ (0 : Int) < (i : Int) := by omega
          refine ⟨?_, hp, fun z h _ => absurd h hi⟩
          simp only [hp, decide_true, Bool.not_true, Bool.false_eq_true, if_false, hi', decide_false, Option.bind_some, w64_succ (n := i) (by omega)]
      · right
        refine ⟨?_, fun h => hp h.1⟩
        simp only [hp, decide_false, Bool.not_false, if_true, Option.bind_some]
  · have h0 : (20 : Int) < (list.length : Int) := by omega
    have : ¬ RepsP t.Network list := fun h => hl h.1
    simp [h0, this]
theorem l25Good_eq {t : Timetable} (hb : TB t) (list : List Report) : s_l25Good t list = some (decide (GoodT t ∧ RepsP t.Network list)) := by
  unfold s_l25Good
  rw [goodT_eq hb]
  by_cases hgt : GoodT t
  · have hg : Good t.Network := hgt.1
    by_cases hl : list.length ≤ 20
    · have h0 : ¬ (20 : Int) < (list.length : Int) := by omega
      simp only [hgt, h0, true_and, decide_true, decide_false, Bool.not_true, Bool.false_eq_true, if_false, Option.bind_some]
      rw [all_val (hd := Classical.propDecidable _) list (RepQ t.Network list) (fun i x hx => ?_) (by unfold s_l25Good_L1; simp)]
      · have hR : RepsP t.Network list ↔ ∀ (i : Nat) x, list[i]? = some x → RepQ t.Network list i x := ⟨fun h => h.2, fun h => ⟨hl, h⟩⟩
        by_cases h : ∀ (i : Nat) x, list[i]? = some x → RepQ t.Network list i x
        · rw [if_pos h]; simp [hR.2 h]
        · rw [if_neg h]; have : ¬ RepsP t.Network list := fun h' => h (hR.1 h'); simp [this]
      · have := get_lt hx
        unfold s_l25Good_L1
        simp only [Int.ofNat_lt.2 this, decide_true, if_true, idx_nat, hx, Option.bind_some, l25Report_eq hg]
        by_cases hp : RepP t.Network x
        · by_cases hi : 0 < i
          · obtain ⟨y, hy⟩ := get_ex (l := list) (i := i - 1) (by omega)
            have w : w64 ((i : Int) - 1) = ((i - 1 : Nat) : Int) := by rw [w64_id (by omega)]; omega
            have hi' : (0 : Int) < (i : Int) := by omega
            simp only [hp, decide_true, Bool.not_true, Bool.false_eq_true, if_false, hi', if_true, w, idx_nat, hy, Option.bind_some]
            by_cases h1 : x.Time < y.Time
            · right
              refine ⟨by simp [h1], fun h => ?_⟩
              have := h.2 y hi hy
              unfold OrdR at this; omega
            · by_cases h2 : y.Time = x.Time
              · by_cases h3 : x.Vehicle ≤ y.Vehicle
                · right
                  refine ⟨by simp [h1, h2, h3], fun h => ?_⟩
                  have := h.2 y hi hy
                  unfold OrdR at this; omega
                · left
                  refine ⟨by simp [h1, h2, h3, w64_succ (n := i) (by omega)], hp, fun z _ hz => by rw [hy] at hz; cases hz; exact .inr ⟨h2, by omega⟩⟩
              · left
                refine ⟨by simp [h1, h2, w64_succ (n := i) (by omega)], hp, fun z _ hz => by rw [hy] at hz; cases hz; exact .inl (by omega)⟩
          · left
            have hi' : ¬ (0 : Int) < (i : Int) := by omega
            refine ⟨?_, hp, fun z h _ => absurd h hi⟩
            simp only [hp, decide_true, Bool.not_true, Bool.false_eq_true, if_false, hi', decide_false, Option.bind_some, w64_succ (n := i) (by omega)]
        · right
          refine ⟨?_, fun h => hp h.1⟩
          simp only [hp, decide_false, Bool.not_false, if_true, Option.bind_some]
    · have h0 : (20 : Int) < (list.length : Int) := by omega
      have : ¬ RepsP t.Network list := fun h => hl h.1
      simp [hgt, h0, this]
  · simp [hgt]
theorem validReps_eq {t : Timetable} (hb : TB t) (list : List Report) : i_IsValidReports t list = some (decide (GoodT t ∧ RepsP t.Network list)) := by
  unfold i_IsValidReports
  rw [validT_eq hb]
  by_cases hgt : GoodT t
  · simp [hgt, areReports_eq hgt.1]
  · simp [hgt]
theorem reps_one {n : Network} {r : Report} : RepsP n [r] ↔ RepP n r := by
  constructor
  · intro h; exact (h.2 0 r rfl).1
  · intro h
    refine ⟨by simp, fun i x hx => ?_⟩
    have hi := get_lt hx
    have : i = 0 := by simp at hi; exact hi
    subst this
    simp at hx; subst hx
    exact ⟨h, fun y h0 _ => absurd h0 (Nat.lt_irrefl _)⟩
/-! The place of a report; trips that fit. -/
theorem placeI {t : Timetable} (hb : TB t) (r : Report) : (∃ (l : Line) (k : Nat), GoodT t ∧ RepP t.Network r ∧ idx t.Network.Lines r.Line = some l ∧ LineP t.Network.Stops.length l ∧ k ≤ l.Runs.length ∧ (l.Runs.take k).sum ≤ r.Done ∧ (∀ e, l.Runs[k]? = some e → r.Done < (l.Runs.take k).sum + e) ∧ i_PlaceOf t r = some ((k : Int), r.Done - (l.Runs.take k).sum, true)) ∨
    (¬ (GoodT t ∧ RepP t.Network r) ∧ i_PlaceOf t r = some (0, 0, false)) := by
  unfold i_PlaceOf
  rw [validT_eq hb]
  by_cases hg : GoodT t
  · by_cases hp : RepP t.Network r
    · obtain ⟨_, _, l, hl, hd1, hd2⟩ := hp
      have hL := good_line hg.1 hl
      obtain ⟨⟨h1, h2, h3⟩, h4⟩ := line_runs hL
      have hs5 := runs_sum' hL
      have hit : Tot (iter (i_PlaceOf_L1 l) ((0 : Int), r.Done, (0 : Int))) fun v => ∃ k : Nat, v = ((k : Int), r.Done - (l.Runs.take k).sum) ∧ k ≤ l.Runs.length ∧ (l.Runs.take k).sum ≤ r.Done ∧ (∀ e, l.Runs[k]? = some e → r.Done < (l.Runs.take k).sum + e) := by
        refine .iter (fun m s => ∃ k : Nat, s = ((k : Int), r.Done - (l.Runs.take k).sum, (k : Int)) ∧ m + k = l.Runs.length ∧ (l.Runs.take k).sum ≤ r.Done) (n := l.Runs.length) ⟨0, by simp, rfl, by simpa using hd1⟩ ?_
        rintro m s ⟨k, rfl, hm, hk⟩
        unfold i_PlaceOf_L1
        dsimp only
        refine .iteP (fun hc => ?_) (fun hc => .dn ⟨k, rfl, by omega, hk, fun e he => by have := get_lt he; omega⟩)
        obtain ⟨e, he⟩ := get_ex (l := l.Runs) (i := k) (by omega)
        have be := h4 e (List.mem_of_getElem? he)
        have bs := runs_sum hL k
        refine .eq (ixs he) (.iteP (fun hlt => .dn ⟨k, rfl, by omega, hk, fun e' he' => by rw [he] at he'; cases he'; omega⟩) (fun hge => .nx ⟨m - 1, by omega, k + 1, ?_, by omega, ?_⟩))
        · rw [w64_succ (by omega), w64_id (by omega), sum_take_succ he]
          refine Prod.ext rfl (Prod.ext ?_ rfl)
          show r.Done - (l.Runs.take k).sum - e = r.Done - ((l.Runs.take k).sum + e)
          omega
        · rw [sum_take_succ he]; omega
      obtain ⟨v, hv, k, rfl, hk1, hk2, hk3⟩ := hit
      have hp : RepP t.Network r := ⟨by assumption, by assumption, l, hl, hd1, hd2⟩
      refine .inl ⟨l, k, hg, hp, hl, hL, hk1, hk2, hk3, ?_⟩
      simp only [hg, isReport_eq hg.1, hp, decide_true, Bool.not_true, Bool.false_eq_true, if_false, Option.bind_some, hl, hv]
    · exact .inr ⟨fun h => hp h.2, by simp [hg, isReport_eq hg.1, hp]⟩
  · exact .inr ⟨fun h => hg h.1, by simp [hg]⟩
theorem place_uniq {l : List Int} {d : Int} (hp : ∀ x ∈ l, 1 ≤ x) {a b : Nat} (ha : a ≤ l.length) (hb : b ≤ l.length) (a1 : (l.take a).sum ≤ d) (a2 : ∀ e, l[a]? = some e → d < (l.take a).sum + e) (b1 : (l.take b).sum ≤ d) (b2 : ∀ e, l[b]? = some e → d < (l.take b).sum + e) : a = b := by
  have mono : ∀ i j, i ≤ j → (l.take i).sum ≤ (l.take j).sum := fun i j hij => by
    have e : l.take j = l.take i ++ (l.take j).drop i := by
      rw [show l.take i = (l.take j).take i by rw [List.take_take, Nat.min_eq_left hij], List.take_append_drop]
    rw [e, List.sum_append]
    have := sum_nonneg (l := (l.take j).drop i) fun x hx => by have := hp x (List.mem_of_mem_take (List.mem_of_mem_drop hx)); omega
    omega
  have key : ∀ a b, a ≤ l.length → b ≤ l.length → (∀ e, l[a]? = some e → d < (l.take a).sum + e) → (l.take b).sum ≤ d → ¬ a < b := fun a b ha hb a2 b1 hlt => by
    obtain ⟨e, he⟩ := get_ex (l := l) (i := a) (by omega)
    have h1 := a2 e he
    have h2 := mono (a + 1) b (by omega)
    rw [sum_take_succ he] at h2
    omega
  have h1 := key a b ha hb a2 b1
  have h2 := key b a hb ha b2 a1
  omega
theorem place_both {t : Timetable} (hb : TB t) (r : Report) : (∃ (l : Line) (k : Nat), GoodT t ∧ RepP t.Network r ∧ idx t.Network.Lines r.Line = some l ∧ LineP t.Network.Stops.length l ∧ k ≤ l.Runs.length ∧ (l.Runs.take k).sum ≤ r.Done ∧ (∀ e, l.Runs[k]? = some e → r.Done < (l.Runs.take k).sum + e) ∧ i_PlaceOf t r = some ((k : Int), r.Done - (l.Runs.take k).sum, true) ∧ s_PlaceOf t r = some ((k : Int), r.Done - (l.Runs.take k).sum, true)) ∨
    (i_PlaceOf t r = some (0, 0, false) ∧ s_PlaceOf t r = some (0, 0, false)) := by
  rcases placeI hb r with ⟨l, k, hg, hp, hl, hL, hk1, hk2, hk3, e1⟩ | ⟨hn, e1⟩
  · refine .inl ⟨l, k, hg, hp, hl, hL, hk1, hk2, hk3, e1, ?_⟩
    obtain ⟨⟨h1, h2, h3⟩, h4⟩ := line_runs hL
    obtain ⟨_, _, l', hl', hd1, hd2⟩ := id hp
    rw [hl] at hl'; cases hl'
    have hR : ∀ j : Nat, j ≤ l.Runs.length → s_l2Run l 0 (j : Int) = some (l.Runs.take j).sum := fun j hj => by
      have e := l2Run_eq l 0 j (by omega) hj (by omega) (fun x hx => by have := h4 x hx; omega)
      rw [List.drop_zero] at e; exact e
    have hit : Tot (iter (s_PlaceOf_L1 r l) (0 : Int)) fun v => ∃ j : Nat, v = (j : Int) ∧ j ≤ l.Runs.length ∧ (l.Runs.take j).sum ≤ r.Done ∧ (∀ e, l.Runs[j]? = some e → r.Done < (l.Runs.take j).sum + e) := by
      refine .iter (fun m v => ∃ j : Nat, v = (j : Int) ∧ m + j = l.Runs.length ∧ (l.Runs.take j).sum ≤ r.Done) (n := l.Runs.length) ⟨0, rfl, rfl, by simpa using hd1⟩ ?_
      rintro m v ⟨j, rfl, hm, hj⟩
      have w : w64 ((j : Int) + 1) = ((j + 1 : Nat) : Int) := w64_succ (by omega)
      unfold s_PlaceOf_L1
      by_cases hc : j + 1 ≤ l.Runs.length
      · have hc' : ((j + 1 : Nat) : Int) < (l.Stops.length : Int) := by omega
        obtain ⟨e, he⟩ := get_ex (l := l.Runs) (i := j) (by omega)
        by_cases hle : (l.Runs.take (j + 1)).sum ≤ r.Done
        · simp only [w, hc', decide_true, if_true, hR (j + 1) hc, Option.bind_some, hle]
          exact .nx ⟨m - 1, by omega, j + 1, rfl, by omega, hle⟩
        · simp only [w, hc', decide_true, if_true, hR (j + 1) hc, Option.bind_some, hle, decide_false, Bool.false_eq_true, if_false]
          exact .dn ⟨j, rfl, by omega, hj, fun e' he' => by rw [sum_take_succ he'] at hle; omega⟩
      · have hc' : ¬ ((j + 1 : Nat) : Int) < (l.Stops.length : Int) := by omega
        simp only [w, hc', decide_false, Bool.false_eq_true, if_false, Option.bind_some]
        exact .dn ⟨j, rfl, by omega, hj, fun e' he' => by have := get_lt he'; omega⟩
    obtain ⟨v, hv, j, rfl, j1, j2, j3⟩ := hit
    have := place_uniq (fun x hx => (h4 x hx).1) hk1 j1 hk2 hk3 j2 j3
    subst this
    have bs := runs_sum hL k
    have hs5 := runs_sum' hL
    have w : w64 (r.Done - (l.Runs.take k).sum) = r.Done - (l.Runs.take k).sum := w64_id (by omega)
    unfold s_PlaceOf
    rw [l25Good_eq hb]
    simp only [hg, reps_one, hp, and_self, decide_true, Bool.not_true, Bool.false_eq_true, if_false, Option.bind_some, hl, hv, hR k hk1, w]
  · refine .inr ⟨e1, ?_⟩
    unfold s_PlaceOf
    rw [l25Good_eq hb]
    simp only [reps_one, hn, decide_false, Bool.not_false, if_true, Option.bind_some]
/-! Trips that fit a report, in their order. -/
def ab (x : Int) : Int := if x < 0 then 0 - x else x
def UM (m : Match) : Prop := -10000 ≤ m.Delay ∧ m.Delay ≤ 10000
def fLt (a b : Match) : Bool := decide (ab a.Delay < ab b.Delay ∨ (ab a.Delay = ab b.Delay ∧ a.Delay < b.Delay))
theorem absI_eq {x : Int} (h : -10000 ≤ x ∧ x ≤ 10000) : i_absolute x = some (ab x) := by
  unfold i_absolute ab
  rw [w64_id (x := 0 - x) (by omega)]
  by_cases hx : x < 0
  · have : 0 - x > x := by omega
    rw [if_pos this, if_pos hx]
  · by_cases h0 : 0 - x > x
    · omega
    · rw [if_neg h0, if_neg hx]
theorem absS_eq {x : Int} (h : -10000 ≤ x ∧ x ≤ 10000) : s_l25Abs x = some (ab x) := by
  unfold s_l25Abs s_l1Most ab
  rw [w64_id (x := 0 - x) (by omega)]
  by_cases hx : x < 0
  · have : ¬ 0 - x < x := by omega
    simp only [this, decide_false, Bool.false_eq_true, if_false, Option.bind_some, hx, if_true]
  · by_cases h0 : 0 - x < x
    · simp only [h0, decide_true, if_true, Option.bind_some, hx, if_false]
    · have : x = 0 := by omega
      subst this; simp
theorem cmpFit (x y : Match) (hx : UM x) (hy : UM y) : ∃ c, i_fittingTrips_1 x y = some c ∧ decide (c < 0) = fLt x y := by
  unfold i_fittingTrips_1 fLt
  rw [absI_eq hx, absI_eq hy]
  simp only [Option.bind_some, compare_int, or2_eq]
  refine ⟨_, rfl, ?_⟩
  by_cases h1 : ab x.Delay < ab y.Delay
  · simp [h1]
  · by_cases h2 : ab y.Delay < ab x.Delay
    · have : ¬ ab x.Delay = ab y.Delay := by omega
      simp [h1, h2, this]
    · have h3 : ab x.Delay = ab y.Delay := by omega
      by_cases h4 : x.Delay < y.Delay
      · simp [h3, h4]
      · by_cases h5 : y.Delay < x.Delay <;> simp [h3, h4, h5]
theorem stableFit (l : List Match) (hl : l.length < 20) (hU : ∀ x ∈ l, UM x) : slices_SortStableFunc_Match_w__i_fittingTrips_1 l = some (Pdq.isort fLt l) := by
  have s1 : slices_stableCmpFunc_Match_w__i_fittingTrips_1_L1 (l.length : Int) ((0 : Int), (20 : Int), l) = some (.dn (0, l)) := by
    unfold slices_stableCmpFunc_Match_w__i_fittingTrips_1_L1
    have : ¬ (20 : Int) ≤ (l.length : Int) := by omega
    simp [this]
  have s2 : ∀ l' : List Match, slices_stableCmpFunc_Match_w__i_fittingTrips_1_L3 (l.length : Int) ((20 : Int), l') = some (.dn l') := fun l' => by
    unfold slices_stableCmpFunc_Match_w__i_fittingTrips_1_L3
    have : ¬ (20 : Int) < (l.length : Int) := by omega
    simp [this]
  have s3 : slices_insertionSortCmpFunc_Match_w__i_fittingTrips_1 l 0 (l.length : Int) = some (Pdq.isort fLt l) := Pdq.insertion_stU (U := UM) cmpFit l (by omega) hU
  unfold slices_SortStableFunc_Match_w__i_fittingTrips_1 slices_stableCmpFunc_Match_w__i_fittingTrips_1
  rw [iter_dn s1]
  simp only [Option.bind_some]
  rw [s3]
  simp only [Option.bind_some]
  rw [iter_dn (s2 _)]; rfl
def mkM (r : Report) (x : Trip) : Match := ⟨r.Vehicle, x.Id, r.Time - x.Start - r.Done⟩
def fits (T : List Trip) (r : Report) : List Match := (T.filter fun x => x.Line == r.Line).map (mkM r)
def fitQ (T : List Trip) (r : Report) : List Match := Pdq.isort fLt (fits T r)
theorem fits_succ {T : List Trip} {r : Report} {k : Nat} {e : Trip} (he : T[k]? = some e) : fits (T.take (k + 1)) r = fits (T.take k) r ++ (if (e.Line == r.Line) = true then [mkM r e] else []) := by
  unfold fits
  rw [take_succ he, List.filter_append, List.map_append]
  by_cases h : (e.Line == r.Line) = true <;> simp [h]
theorem fits_le {T : List Trip} {r : Report} : (fits T r).length ≤ T.length := by
  unfold fits; rw [List.length_map]; exact List.length_filter_le ..
theorem fitQ_len {T : List Trip} {r : Report} : (fitQ T r).length ≤ T.length := by
  unfold fitQ; rw [Pdq.isort_len]; exact fits_le
theorem fits_U {t : Timetable} (hg : GoodT t) {r : Report} (ht : 0 ≤ r.Time ∧ r.Time ≤ 1799) (hd : 0 ≤ r.Done ∧ r.Done ≤ 300) : ∀ m ∈ fits t.Trips r, UM m ∧ m.Vehicle = r.Vehicle := by
  intro m hm
  unfold fits at hm
  obtain ⟨x, hx, rfl⟩ := List.mem_map.1 hm
  obtain ⟨i, hi⟩ := List.getElem?_of_mem (List.mem_filter.1 hx).1
  obtain ⟨_, _, _, _, hs, _⟩ := trip_line hg hi
  unfold UM mkM
  exact ⟨⟨by dsimp only; omega, by dsimp only; omega⟩, rfl⟩
theorem fitI {t : Timetable} (hg : GoodT t) {r : Report} (ht : 0 ≤ r.Time ∧ r.Time ≤ 1799) (hd : 0 ≤ r.Done ∧ r.Done ≤ 300) : i_fittingTrips t r = some (fitQ t.Trips r) := by
  have h12 := hg.2.1
  have hU := fits_U hg ht hd
  have hfl := fits_le (T := t.Trips) (r := r)
  unfold i_fittingTrips
  have e : iter (i_fittingTrips_L1 t r) ((0 : Int), ([] : List Match)) = some (fits t.Trips r) := by
    refine Tot.val (.iter (fun m s => ∃ k : Nat, s.1 = (k : Int) ∧ m + k = t.Trips.length ∧ s.2 = fits (t.Trips.take k) r) (n := t.Trips.length) ⟨0, rfl, rfl, rfl⟩ ?_)
    rintro m ⟨v, x⟩ ⟨k, hk, hm, hx⟩
    simp only at hk hx
    subst hk
    unfold i_fittingTrips_L1
    refine .iteP (fun hc => ?_) (fun hc => .dn (by rw [hx, List.take_of_length_le (by omega)]))
    obtain ⟨e, he⟩ := get_ex (l := t.Trips) (i := k) (by omega)
    obtain ⟨_, _, _, _, hs, _⟩ := trip_line hg he
    have w : w64 (w64 (r.Time - e.Start) - r.Done) = r.Time - e.Start - r.Done := by rw [w64_id (x := r.Time - e.Start) (by omega), w64_id (by omega)]
    have hxl : x.length ≤ 12 := by
      rw [hx]; exact Nat.le_trans fits_le (by rw [List.length_take]; omega)
    refine .call (P := fun x1 => x1 = fits (t.Trips.take (k + 1)) r) (.eq (by rw [idx_nat]; exact he) (.ite (fun h => .chk (by simp; omega) (.ok (by rw [fits_succ he, if_pos h, w, hx]; rfl))) fun h => .ok (by rw [fits_succ he, h, hx]; simp))) fun x1 h1 => ?_
    exact .nx ⟨m - 1, by omega, k + 1, w64_succ (by omega), by omega, h1⟩
  rw [e]
  simp only [Option.bind_some]
  rw [stableFit _ (by omega) (fun x hx => (hU x hx).1)]
  rfl
theorem fitS {t : Timetable} (hg : GoodT t) {r : Report} (ht : 0 ≤ r.Time ∧ r.Time ≤ 1799) (hd : 0 ≤ r.Done ∧ r.Done ≤ 300) : s_l25Fitting t r = some (fitQ t.Trips r) := by
  have h12 := hg.2.1
  have hU := fits_U hg ht hd
  unfold s_l25Fitting
  have e : iter (s_l25Fitting_L2 t r) ((0 : Int), ([] : List Match)) = some (fitQ t.Trips r) := by
    refine Tot.val (.iter (fun m s => ∃ k : Nat, s.1 = (k : Int) ∧ m + k = t.Trips.length ∧ s.2 = fitQ (t.Trips.take k) r) (n := t.Trips.length) ⟨0, rfl, rfl, rfl⟩ ?_)
    rintro m ⟨v, x⟩ ⟨k, hk, hm, hx⟩
    simp only at hk hx
    subst hk
    unfold s_l25Fitting_L2
    refine .iteP (fun hc => ?_) (fun hc => .dn (by rw [hx, List.take_of_length_le (by omega)]))
    obtain ⟨e, he⟩ := get_ex (l := t.Trips) (i := k) (by omega)
    obtain ⟨_, _, _, _, hs, _⟩ := trip_line hg he
    have w : w64 (w64 (r.Time - e.Start) - r.Done) = r.Time - e.Start - r.Done := by rw [w64_id (x := r.Time - e.Start) (by omega), w64_id (by omega)]
    have hxl : x.length ≤ 12 := by
      rw [hx]; exact Nat.le_trans fitQ_len (by rw [List.length_take]; omega)
    have hxU : ∀ y ∈ x, UM y := fun y hy => by
      rw [hx] at hy
      unfold fitQ at hy
      have := (Pdq.isort_perm _).mem_iff.1 hy
      refine (hU y ?_).1
      unfold fits at this ⊢
      obtain ⟨z, hz, rfl⟩ := List.mem_map.1 this
      rw [List.mem_filter] at hz
      exact List.mem_map_of_mem (List.mem_filter.2 ⟨List.mem_of_mem_take hz.1, hz.2⟩)
    have hstep : fitQ (t.Trips.take (k + 1)) r = if (e.Line == r.Line) = true then Pdq.insE fLt (mkM r e) x else x := by
      unfold fitQ
      rw [fits_succ he]
      by_cases h : (e.Line == r.Line) = true
      · rw [if_pos h, if_pos h, Pdq.isort_snoc, hx]; rfl
      · rw [if_neg h, if_neg h, List.append_nil, hx]; rfl
    refine .call (P := fun x1 => x1 = fitQ (t.Trips.take (k + 1)) r) (.eq (by rw [idx_nat]; exact he) ?_) fun x1 h1 => .nx ⟨m - 1, by omega, k + 1, w64_succ (by omega), by omega, h1⟩
    by_cases hne : e.Line = r.Line
    · have hb1 : (e.Line != r.Line) = false := by simp [hne]
      have hb2 : (e.Line == r.Line) = true := by simp [hne]
      simp only [hb1, Bool.false_eq_true, if_false, idx_nat, he, Option.bind_some, w]
      rw [hstep, if_pos hb2]
      have hM : UM (mkM r e) := ⟨by unfold mkM; dsimp only; omega, by unfold mkM; dsimp only; omega⟩
      have hpos : Tot (iter (s_l25Fitting_L1 r x e) (x.length : Int)) fun v => ∃ p : Nat, v = (p : Int) ∧ p ≤ x.length ∧ x.take p ++ [mkM r e] ++ x.drop p = Pdq.insE fLt (mkM r e) x := by
        refine .iter (fun m v => v = (m : Int) ∧ m ≤ x.length ∧ ∀ y ∈ x.drop m, fLt (mkM r e) y = true) (n := x.length) ⟨rfl, Nat.le_refl _, by simp⟩ ?_
        rintro q v ⟨rfl, hq, hall⟩
        unfold s_l25Fitting_L1
        by_cases hq0 : 0 < q
        · obtain ⟨y, hy⟩ := get_ex (l := x) (i := q - 1) (by omega)
          have wq : w64 ((q : Int) - 1) = ((q - 1 : Nat) : Int) := by rw [w64_id (by omega)]; omega
          have hUy := hxU y (List.mem_of_getElem? hy)
          have hq0' : (0 : Int) < (q : Int) := by omega
          have hdrop : x.drop (q - 1) = y :: x.drop q := by
            rw [List.drop_eq_getElem_cons (by omega), show q - 1 + 1 = q by omega]
            congr 1
            exact (List.getElem?_eq_some_iff.1 hy).2
          have ea := absS_eq hUy
          have eb : s_l25Abs (r.Time - e.Start - r.Done) = some (ab (mkM r e).Delay) := absS_eq hM
          have ed : (mkM r e).Delay = r.Time - e.Start - r.Done := rfl
          have hyes : fLt (mkM r e) y = true → Tot (some (Lp.nx (((q - 1 : Nat) : Int)) : Lp Int Int)) fun rr => (∀ a', rr = .nx a' → ∃ k', k' < q ∧ (a' = (k' : Int) ∧ k' ≤ x.length ∧ ∀ y ∈ x.drop k', fLt (mkM r e) y = true)) ∧ ∀ b, rr = .dn b → ∃ p : Nat, b = (p : Int) ∧ p ≤ x.length ∧ x.take p ++ [mkM r e] ++ x.drop p = Pdq.insE fLt (mkM r e) x := fun hy1 => .nx ⟨q - 1, by omega, rfl, by omega, fun z hz => by
            rw [hdrop] at hz
            rcases List.mem_cons.1 hz with rfl | hz
            · exact hy1
            · exact hall z hz⟩
          have hno : fLt (mkM r e) y = false → Tot (some (Lp.dn ((q : Nat) : Int) : Lp Int Int)) fun rr => (∀ a', rr = .nx a' → ∃ k', k' < q ∧ (a' = (k' : Int) ∧ k' ≤ x.length ∧ ∀ y ∈ x.drop k', fLt (mkM r e) y = true)) ∧ ∀ b, rr = .dn b → ∃ p : Nat, b = (p : Int) ∧ p ≤ x.length ∧ x.take p ++ [mkM r e] ++ x.drop p = Pdq.insE fLt (mkM r e) x := fun hy0 => .dn ⟨q, rfl, hq, Pdq.insE_slot x.length rfl hq hall fun z _ hz => by rw [hy] at hz; cases hz; exact hy0⟩
          simp only [hq0', decide_true, if_true, wq, idx_nat, hy, Option.bind_some, ea, eb, w]
          by_cases h1 : ab (mkM r e).Delay < ab y.Delay
          · simp only [h1, decide_true, if_true, Option.bind_some]
            exact hyes (by unfold fLt; simp [h1])
          · by_cases h2 : ab y.Delay = ab (mkM r e).Delay
            · by_cases h3 : r.Time - e.Start - r.Done < y.Delay
              · have hb : (ab y.Delay == ab (mkM r e).Delay) = true := by simp [h2]
                simp only [h1, decide_false, Bool.false_eq_true, if_false, hb, if_true, h3, decide_true, Option.bind_some]
                exact hyes (by unfold fLt; rw [ed] at *; simp [h2.symm, h3])
              · have hb : (ab y.Delay == ab (mkM r e).Delay) = true := by simp [h2]
                simp only [h1, decide_false, Bool.false_eq_true, if_false, hb, if_true, h3, Option.bind_some]
                exact hno (by unfold fLt; rw [ed] at *; simp [h2.symm, h3])
            · have hb : (ab y.Delay == ab (mkM r e).Delay) = false := by simp [h2]
              have h2' : ¬ ab (mkM r e).Delay = ab y.Delay := fun h => h2 h.symm
              simp only [h1, decide_false, Bool.false_eq_true, if_false, hb, Option.bind_some]
              exact hno (by unfold fLt; simp [h1, h2'])
        · have : q = 0 := by omega
          subst this
          simp only [Int.lt_irrefl, decide_false, Bool.false_eq_true, if_false, Option.bind_some, Int.natCast_zero]
          exact .dn ⟨0, rfl, by omega, Pdq.insE_slot x.length rfl (by omega) hall fun z h _ => absurd h (Nat.lt_irrefl _)⟩
      refine .call hpos fun v hv => ?_
      obtain ⟨p, rfl, hp, hins⟩ := hv
      have el : (x.take p).length = p := by rw [List.length_take]; omega
      refine .chk (by omega) (.chk (by simp; omega) (.chk (by simp; omega) (.chk (by omega) (.chk (by simp; omega) (.ok ?_)))))
      rw [← hins]
      simp [mkM]
    · have hb1 : (e.Line != r.Line) = true := by simp [hne]
      have hb2 : ¬ (e.Line == r.Line) = true := by simp [hne]
      simp only [hb1, if_true]
      exact .ok (by rw [hstep, if_neg hb2])
  rw [e]; rfl
theorem fitting_both {t : Timetable} (hb : TB t) (r : Report) : (∃ q : List Match, i_FittingTrips t r = some (q, true) ∧ s_FittingTrips t r = some (q, true) ∧ q.length ≤ 12 ∧ ∀ m ∈ q, m.Vehicle = r.Vehicle) ∨ (i_FittingTrips t r = some ([], false) ∧ s_FittingTrips t r = some ([], false)) := by
  unfold i_FittingTrips s_FittingTrips
  rw [validT_eq hb, l25Good_eq hb]
  by_cases hg : GoodT t
  · by_cases hp : RepP t.Network r
    · have hd : 0 ≤ r.Done ∧ r.Done ≤ 300 := by
        obtain ⟨_, _, l, hl, h1, h2⟩ := hp
        have := runs_sum' (good_line hg.1 hl)
        omega
      refine .inl ⟨fitQ t.Trips r, ?_, ?_, Nat.le_trans fitQ_len hg.2.1, fun m hm => ?_⟩
      · simp only [hg, isReport_eq hg.1, hp, decide_true, Bool.not_true, Bool.false_eq_true, if_false, Option.bind_some, fitI hg hp.2.1 hd]
      · simp only [hg, reps_one, hp, and_self, decide_true, Bool.not_true, Bool.false_eq_true, if_false, Option.bind_some, fitS hg hp.2.1 hd]
      · unfold fitQ at hm
        exact (fits_U hg hp.2.1 hd m ((Pdq.isort_perm _).mem_iff.1 hm)).2
    · exact .inr ⟨by simp [hg, isReport_eq hg.1, hp], by simp [hg, reps_one, hp]⟩
  · exact .inr ⟨by simp [hg], by simp [hg]⟩
/-! Arrivals that are predicted; speeds. -/
def pa (l : Line) (s done dl : Int) (k : Nat) : List Int := ((List.range k).filter fun j => decide (done < (l.Runs.take j).sum)).map fun j => s + (l.Runs.take j).sum + dl
theorem pa_succ (l : Line) (s done dl : Int) (k : Nat) : pa l s done dl (k + 1) = pa l s done dl k ++ (if done < (l.Runs.take k).sum then [s + (l.Runs.take k).sum + dl] else []) := by
  unfold pa
  rw [List.range_succ, List.filter_append, List.map_append]
  by_cases h : done < (l.Runs.take k).sum <;> simp [h]
theorem pa_len (l : Line) (s done dl : Int) (k : Nat) : (pa l s done dl k).length ≤ k := by
  unfold pa
  rw [List.length_map]
  have := List.length_filter_le (fun j => decide (done < (l.Runs.take j).sum)) (List.range k)
  rwa [List.length_range] at this
theorem take_lt {l : List Int} (hp : ∀ x ∈ l, 1 ≤ x) : ∀ {a b : Nat}, a < b → b ≤ l.length → (l.take a).sum < (l.take b).sum
  | a, 0, h, _ => by omega
  | a, b + 1, h, hb => by
    obtain ⟨e, he⟩ := get_ex (l := l) (i := b) (by omega)
    have h1 := hp e (List.mem_of_getElem? he)
    rw [sum_take_succ he]
    by_cases hab : a = b
    · subst hab; omega
    · have := take_lt hp (show a < b by omega) (by omega)
      omega
theorem pa_sorted {l : Line} (hp : ∀ x ∈ l.Runs, 1 ≤ x) (s done dl : Int) : (pa l s done dl (l.Runs.length + 1)).Pairwise (· < ·) := by
  unfold pa
  rw [List.pairwise_map]
  refine List.Pairwise.imp_of_mem (R := (· < ·)) (fun {a b} ha hb hab => ?_) ((List.pairwise_lt_range (n := l.Runs.length + 1)).filter _)
  have hb' := List.mem_range.1 (List.mem_filter.1 hb).1
  have := take_lt hp hab (by omega)
  omega
theorem predict_both {t : Timetable} (hb : TB t) (m : Match) (done : Int) : (∃ q : List Int, i_PredictArrivals t m done = some (q, true) ∧ s_PredictArrivals t m done = some (q, true) ∧ q.length ≤ 10 ∧ q.Pairwise (· < ·)) ∨ (i_PredictArrivals t m done = some ([], false) ∧ s_PredictArrivals t m done = some ([], false)) := by
  unfold i_PredictArrivals s_PredictArrivals
  rw [validT_eq hb, goodT_eq hb, within_eq, within_eq, l1In_eq, l1In_eq, tripIndex_eq t hb.2, l5Find_eq t hb.2]
  by_cases hg : GoodT t
  · rcases found_or (t := t) m.Id with ⟨h1, _⟩ | ⟨k, y, hy, hid⟩
    · refine .inr ⟨?_, by simp [hg, h1]⟩
      by_cases c1 : 1 ≤ m.Vehicle ∧ m.Vehicle ≤ 99 <;> by_cases c2 : -1799 ≤ m.Delay ∧ m.Delay ≤ 1799 <;> simp [hg, h1, c1, c2]
    · have hfix := trip_fix hg hy
      rw [hid] at hfix
      have hn : ¬ ((k : Int) < 0) := by omega
      obtain ⟨l, hl, hp, _, hs, _⟩ := trip_line hg hy
      obtain ⟨⟨h1, h2, h3⟩, h4⟩ := line_runs hp
      have htot := total_eq l.Runs (by omega) (fun x hx => by have := h4 x hx; omega)
      have hlong := l25Long_eq hp
      by_cases c1 : 1 ≤ m.Vehicle ∧ m.Vehicle ≤ 99
      · by_cases c2 : -1799 ≤ m.Delay ∧ m.Delay ≤ 1799
        · by_cases c3 : 0 ≤ done ∧ done ≤ l.Runs.sum
          · obtain ⟨dl, hdl⟩ : ∃ dl, dl = if m.Delay > 0 then m.Delay else 0 := ⟨_, rfl⟩
            have hdb : 0 ≤ dl ∧ dl ≤ 1799 := by rw [hdl]; split <;> omega
            have hsl := ST_len l y.Start
            have eI : iter (i_PredictArrivals_L1 m done y (ST l y.Start)) ((0 : Int), ([] : List Int)) = some (pa l y.Start done dl (l.Runs.length + 1)) := by
              refine Tot.val (.iter (fun q s => ∃ j : Nat, s.1 = (j : Int) ∧ q + j = l.Runs.length + 1 ∧ s.2 = pa l y.Start done dl j) (n := l.Runs.length + 1) ⟨0, rfl, rfl, rfl⟩ ?_)
              rintro q ⟨v, x⟩ ⟨j, hj, hq, hx⟩
              simp only at hj hx
              subst hj
              unfold i_PredictArrivals_L1
              refine .iteP (fun hc => ?_) (fun hc => .dn (by rw [hx]; congr 1; omega))
              have hj : j ≤ l.Runs.length := by omega
              have hat := ST_at (l := l) (s := y.Start) hj
              have bs := runs_sum hp j
              have w1 : w64 (y.Start + (l.Runs.take j).sum - y.Start) = (l.Runs.take j).sum := by rw [w64_id (by omega)]; omega
              have w2 : w64 (y.Start + (l.Runs.take j).sum + (if m.Delay > 0 then m.Delay else 0)) = y.Start + (l.Runs.take j).sum + dl := by rw [← hdl, w64_id (by omega)]
              have hxl := pa_len l y.Start done dl j
              refine .call (P := fun x1 => x1 = pa l y.Start done dl (j + 1)) (.eq (ixs hat) ?_) fun x1 h1 => .nx ⟨q - 1, by omega, j + 1, w64_succ (by omega), by omega, h1⟩
              rw [w1, w2]
              refine .iteP (fun h => .chk (by rw [hx]; simp; omega) (.ok (by rw [pa_succ, if_pos h, hx]))) fun h => .ok (by rw [pa_succ, if_neg h, hx, List.append_nil])
            have eS : iter (s_PredictArrivals_L1 t m done (k : Int) l) ((0 : Int), ([] : List Int)) = some (pa l y.Start done dl (l.Runs.length + 1)) := by
              refine Tot.val (.iter (fun q s => ∃ j : Nat, s.1 = (j : Int) ∧ q + j = l.Runs.length + 1 ∧ s.2 = pa l y.Start done dl j) (n := l.Runs.length + 1) ⟨0, rfl, rfl, rfl⟩ ?_)
              rintro q ⟨v, x⟩ ⟨j, hj, hq, hx⟩
              simp only at hj hx
              subst hj
              unfold s_PredictArrivals_L1
              refine .iteP (fun hc => ?_) (fun hc => .dn (by rw [hx]; congr 1; omega))
              have hj : j ≤ l.Runs.length := by omega
              have bs := runs_sum hp j
              have e := l2Run_eq l 0 j (by omega) hj (by omega) (fun x hx => by have := h4 x hx; omega)
              rw [List.drop_zero] at e
              have e' : s_l2Run l 0 (j : Int) = some (l.Runs.take j).sum := e
              have hAt := l5At_eq hg.1 hy hl hs hj
              have hM : s_l1Most m.Delay 0 = some dl := by
                unfold s_l1Most
                rw [hdl]
                by_cases h : (0 : Int) < m.Delay
                · have h' : m.Delay > 0 := h
                  simp only [h, decide_true, if_true]
                · have h' : ¬ m.Delay > 0 := h
                  simp only [h, decide_false, Bool.false_eq_true, if_false]
              have w2 : w64 (y.Start + (l.Runs.take j).sum + dl) = y.Start + (l.Runs.take j).sum + dl := w64_id (by omega)
              have hxl := pa_len l y.Start done dl j
              refine .call (P := fun x1 => x1 = pa l y.Start done dl (j + 1)) (.eq e' (.iteP (fun h => .eq hAt (.eq hM ?_)) fun h => .ok (by rw [pa_succ, if_neg h, hx, List.append_nil]))) fun x1 h1 => .nx ⟨q - 1, by omega, j + 1, w64_succ (by omega), by omega, h1⟩
              rw [w2]
              exact .chk (by rw [hx]; simp; omega) (.ok (by rw [pa_succ, if_pos h, hx]))
            refine .inl ⟨pa l y.Start done dl (l.Runs.length + 1), ?_, ?_, by have := pa_len l y.Start done dl (l.Runs.length + 1); omega, pa_sorted (fun x hx => (h4 x hx).1) _ _ _⟩
            · simp only [hg, c1, c2, c3, and_self, decide_true, Bool.not_true, Bool.false_eq_true, if_false, Option.bind_some, hfix, hn, decide_false, idx_nat, hy, lineOf_eq hl, htot, within_eq, stopTimes_eq hl hp hs, eI]
            · simp only [hg, c1, c2, c3, and_self, decide_true, Bool.not_true, Bool.false_eq_true, if_false, Option.bind_some, hfix, hn, decide_false, l5Line_eq hy hl, hlong, l1In_eq, eS]
          · refine .inr ⟨?_, ?_⟩
            · simp only [hg, c1, c2, c3, and_self, decide_true, decide_false, Bool.not_true, Bool.not_false, Bool.false_eq_true, if_false, if_true, Option.bind_some, hfix, hn, idx_nat, hy, lineOf_eq hl, htot, within_eq]
            · simp only [hg, c1, c2, c3, and_self, decide_true, decide_false, Bool.not_true, Bool.not_false, Bool.false_eq_true, if_false, if_true, Option.bind_some, hfix, hn, l5Line_eq hy hl, hlong, l1In_eq]
        · refine .inr ⟨by simp [hg, c1, c2], by simp [hg, c1, c2, hfix, hn]⟩
      · refine .inr ⟨by simp [hg, c1], by simp [hg, c1, hfix, hn]⟩
  · exact .inr ⟨by simp [hg], by simp [hg]⟩
theorem speedL {list : List Report} (hl : list.length ≤ 1000) (v : Int) : iter (i_SpeedOf_L1 list v) ((0 : Int), ([] : List Report)) = some (list.filter fun x => x.Vehicle == v) ∧ iter (s_SpeedOf_L1 list v) ((0 : Int), ([] : List Report)) = some (list.filter fun x => x.Vehicle == v) := by
  refine ⟨?_, ?_⟩
  · refine Tot.val (.iter (fun m s => ∃ k : Nat, s.1 = (k : Int) ∧ m + k = list.length ∧ s.2 = (list.take k).filter fun x => x.Vehicle == v) (n := list.length) ⟨0, rfl, rfl, rfl⟩ ?_)
    rintro m ⟨w, x⟩ ⟨k, hk, hm, hx⟩
    simp only at hk hx
    subst hk
    unfold i_SpeedOf_L1
    refine .iteP (fun hc => ?_) (fun hc => .dn (by rw [hx, List.take_of_length_le (by omega)]))
    obtain ⟨e, he⟩ := get_ex (l := list) (i := k) (by omega)
    have hs : (list.take (k + 1)).filter (fun x => x.Vehicle == v) = x ++ (if (e.Vehicle == v) = true then [e] else []) := by
      rw [take_succ he, List.filter_append, hx]
      by_cases h : (e.Vehicle == v) = true <;> simp [h]
    have hxl : x.length ≤ 1000 := by
      rw [hx]; exact Nat.le_trans (List.length_filter_le ..) (by rw [List.length_take]; omega)
    exact .call (P := fun x1 => x1 = (list.take (k + 1)).filter fun x => x.Vehicle == v) (.eq (ixs he) (.ite (fun h => .chk (by simp; omega) (.ok (by rw [hs, if_pos h]))) fun h => .ok (by rw [hs, h]; simp))) fun x1 h1 => .nx ⟨m - 1, by omega, k + 1, w64_succ (by omega), by omega, h1⟩
  · refine Tot.val (.iter (fun m s => ∃ k : Nat, s.1 = (k : Int) ∧ m + k = list.length ∧ s.2 = (list.take k).filter fun x => x.Vehicle == v) (n := list.length) ⟨0, rfl, rfl, rfl⟩ ?_)
    rintro m ⟨w, x⟩ ⟨k, hk, hm, hx⟩
    simp only at hk hx
    subst hk
    unfold s_SpeedOf_L1
    refine .iteP (fun hc => ?_) (fun hc => .dn (by rw [hx, List.take_of_length_le (by omega)]))
    obtain ⟨e, he⟩ := get_ex (l := list) (i := k) (by omega)
    have hs : (list.take (k + 1)).filter (fun x => x.Vehicle == v) = x ++ (if (e.Vehicle == v) = true then [e] else []) := by
      rw [take_succ he, List.filter_append, hx]
      by_cases h : (e.Vehicle == v) = true <;> simp [h]
    have hxl : x.length ≤ 1000 := by
      rw [hx]; exact Nat.le_trans (List.length_filter_le ..) (by rw [List.length_take]; omega)
    exact .call (P := fun x1 => x1 = (list.take (k + 1)).filter fun x => x.Vehicle == v) (.eq (ixs he) (.ite (fun h => .eq (ixs he) (.chk (by simp; omega) (.ok (by rw [hs, if_pos h])))) fun h => .ok (by rw [hs, h]; simp))) fun x1 h1 => .nx ⟨m - 1, by omega, k + 1, w64_succ (by omega), by omega, h1⟩
theorem speed_both {t : Timetable} (hb : TB t) (list : List Report) (v : Int) : ∃ r, i_SpeedOf t list v = some r ∧ s_SpeedOf t list v = some r := by
  unfold i_SpeedOf s_SpeedOf
  rw [validReps_eq hb, l25Good_eq hb]
  by_cases hg : GoodT t ∧ RepsP t.Network list
  · have hl := hg.2.1
    obtain ⟨e1, e2⟩ := speedL (list := list) (by omega) v
    have hql : (list.filter fun x => x.Vehicle == v).length ≤ 20 := Nat.le_trans (List.length_filter_le ..) hl
    simp only [hg, and_self, decide_true, Bool.not_true, Bool.false_eq_true, if_false, Option.bind_some, e1, e2]
    generalize (list.filter fun x => x.Vehicle == v) = Q at hql
    by_cases h2 : (Q.length : Int) < 2
    · have s2 : s_SpeedOf_L2 Q 1 = some (.dn (.go ())) := by
        unfold s_SpeedOf_L2
        have : ¬ (1 : Int) < (Q.length : Int) := by omega
        simp [this]
      exact ⟨(0, 0, false), by simp only [h2, decide_true, if_true], by rw [iter_dn s2]; simp only [flb_go, h2, decide_true, if_true]⟩
    · obtain ⟨a, ha⟩ := get_ex (l := Q) (i := 0) (by omega)
      obtain ⟨b, hb'⟩ := get_ex (l := Q) (i := Q.length - 1) (by omega)
      have w : w64 ((Q.length : Int) - 1) = ((Q.length - 1 : Nat) : Int) := by rw [w64_id (by omega)]; omega
      have hz : idx Q 0 = some a := ixs ha
      have := iter2 (step := i_SpeedOf_L2 Q) (step' := s_SpeedOf_L2 Q) (fun k a a' => a = a' ∧ ∃ j : Nat, a = (j : Int) ∧ 1 ≤ j ∧ k + j = Q.length) (fun x x' => x = x') ?_ (k := Q.length - 1) (a := (1 : Int)) (a' := (1 : Int)) ⟨rfl, 1, rfl, by omega, by omega⟩
      · obtain ⟨x, x', f1, f2, rfl⟩ := this
        rw [f1, f2]
        simp only [h2, decide_false, Bool.false_eq_true, if_false, w, idx_nat, hb', hz, Option.bind_some]
        cases x with
        | ret r => exact ⟨r, by simp only [flb_ret], by simp only [flb_ret]⟩
        | go u => exact ⟨(w64 (b.Done - a.Done), w64 (b.Time - a.Time), true), by simp only [flb_go], by simp only [flb_go]⟩
      · rintro k _ _ ⟨rfl, j, rfl, hj, hk⟩
        by_cases hc : j < Q.length
        · obtain ⟨x, hx⟩ := get_ex (l := Q) (i := j) hc
          obtain ⟨y, hy⟩ := get_ex (l := Q) (i := j - 1) (by omega)
          have wj : w64 ((j : Int) - 1) = ((j - 1 : Nat) : Int) := by rw [w64_id (by omega)]; omega
          have hcd : (j : Int) < (Q.length : Int) := by omega
          by_cases hL : (x.Line != a.Line) = true
          · right
            exact ⟨.ret (0, 0, false), .ret (0, 0, false), by unfold i_SpeedOf_L2; simp only [hcd, decide_true, if_true, idx_nat, hx, hz, Option.bind_some, hL], by unfold s_SpeedOf_L2; simp only [hcd, decide_true, if_true, idx_nat, hx, hz, Option.bind_some, hL], rfl⟩
          · by_cases hD : x.Done < y.Done
            · right
              exact ⟨.ret (0, 0, false), .ret (0, 0, false), by unfold i_SpeedOf_L2; simp only [hcd, decide_true, if_true, idx_nat, hx, hy, hz, Option.bind_some, hL, Bool.false_eq_true, if_false, wj, hD], by unfold s_SpeedOf_L2; simp only [hcd, decide_true, if_true, idx_nat, hx, hy, hz, Option.bind_some, hL, Bool.false_eq_true, if_false, wj, hD], rfl⟩
            · left
              refine ⟨w64 ((j : Int) + 1), w64 ((j : Int) + 1), k - 1, by unfold i_SpeedOf_L2; simp only [hcd, decide_true, if_true, idx_nat, hx, hy, hz, Option.bind_some, hL, Bool.false_eq_true, if_false, wj, hD, decide_false], by unfold s_SpeedOf_L2; simp only [hcd, decide_true, if_true, idx_nat, hx, hy, hz, Option.bind_some, hL, Bool.false_eq_true, if_false, wj, hD, decide_false], by omega, rfl, j + 1, w64_succ (by omega), by omega, by omega⟩
        · right
          have hcd : ¬ (j : Int) < (Q.length : Int) := by omega
          exact ⟨.go (), .go (), by unfold i_SpeedOf_L2; simp only [hcd, decide_false, Bool.false_eq_true, if_false], by unfold s_SpeedOf_L2; simp only [hcd, decide_false, Bool.false_eq_true, if_false], rfl⟩
  · exact ⟨(0, 0, false), by simp only [hg, decide_false, Bool.not_false, if_true, Option.bind_some], by simp only [hg, decide_false, Bool.not_false, if_true, Option.bind_some]⟩
/-! The last reports of the vehicles; vehicles without news. -/
def lastOf (R : List Report) (v : Int) : Option Report := R.reverse.find? fun x => x.Vehicle == v
theorem lastOf_snoc (R : List Report) (e : Report) (v : Int) : lastOf (R ++ [e]) v = if e.Vehicle = v then some e else lastOf R v := by
  unfold lastOf
  rw [List.reverse_append, List.reverse_singleton, List.singleton_append, List.find?_cons]
  by_cases h : e.Vehicle = v
  · have hb : (e.Vehicle == v) = true := by simp [h]
    rw [hb, if_pos h]
  · have hb : (e.Vehicle == v) = false := by simpa using h
    rw [hb, if_neg h]
theorem lastOf_veh {R : List Report} {v : Int} {e : Report} (h : lastOf R v = some e) : e.Vehicle = v ∧ e ∈ R := by
  unfold lastOf at h
  have h1 := List.find?_some h
  have h2 := List.mem_of_find?_eq_some h
  exact ⟨by simpa using h1, List.mem_reverse.1 h2⟩
theorem lastOf_none {R : List Report} {v : Int} (h : ∀ x ∈ R, x.Vehicle ≠ v) : lastOf R v = none := by
  unfold lastOf
  rw [List.find?_eq_none]
  intro x hx
  have := h x (List.mem_reverse.1 hx)
  simpa using this
theorem lastOf_at {R : List Report} {v : Int} {j : Nat} {e : Report} (he : R[j]? = some e) (hv : e.Vehicle = v) (h : ∀ x ∈ R.drop (j + 1), x.Vehicle ≠ v) : lastOf R v = some e := by
  have : ∀ (D A : List Report), (∀ x ∈ D, x.Vehicle ≠ v) → lastOf (A ++ [e] ++ D) v = some e := fun D A hD => by
    unfold lastOf
    rw [List.reverse_append, List.find?_append]
    have h1 : D.reverse.find? (fun x => x.Vehicle == v) = none := by
      rw [List.find?_eq_none]
      intro x hx
      have := hD x (List.mem_reverse.1 hx)
      simpa using this
    rw [h1, Option.none_or, List.reverse_append, List.reverse_singleton, List.singleton_append, List.find?_cons]
    simp [hv]
  have hR : R = R.take j ++ [e] ++ R.drop (j + 1) := by
    rw [← take_succ he, List.take_append_drop]
  rw [hR]
  exact this _ _ h
def lastN (R : List Report) (v : Nat) : Option Report := lastOf R (v : Int)
def lastL (R : List Report) : List Report := (List.range 100).filterMap (lastN R)
def z4 : Report := ⟨0, 0, 0, 0⟩
def VB (R : List Report) : Prop := R.length ≤ 1000 ∧ ∀ x ∈ R, 1 ≤ x.Vehicle ∧ x.Vehicle ≤ 99
theorem fm_succ (R : List Report) (k : Nat) : (List.range (k + 1)).filterMap (lastN R) = (List.range k).filterMap (lastN R) ++ (lastOf R (k : Int)).toList := by
  rw [List.range_succ, List.filterMap_append]
  have : [k].filterMap (lastN R) = (lastN R k).toList := by cases h : lastN R k <;> simp [h]
  rw [this]; rfl
theorem fm_le (R : List Report) (k : Nat) : ((List.range k).filterMap (lastN R)).length ≤ k := by
  have := List.length_filterMap_le (lastN R) (List.range k)
  rwa [List.length_range] at this
theorem lastI {R : List Report} (h : VB R) : i_lastReports R = some (lastL R) := by
  unfold i_lastReports
  have e1 : Tot (iter (i_lastReports_L1 R) ((0 : Int), List.replicate 100 ((⟨0, 0, 0, 0⟩ : Report) : Report))) fun A => A.length = 100 ∧ ∀ v : Nat, v < 100 → A[v]? = some ((lastOf R (v : Int)).getD z4) := by
    refine .iter (fun m s => ∃ k : Nat, s.1 = (k : Int) ∧ m + k = R.length ∧ s.2.length = 100 ∧ ∀ v : Nat, v < 100 → s.2[v]? = some ((lastOf (R.take k) (v : Int)).getD z4)) (n := R.length) ⟨0, rfl, rfl, by simp, fun v hv => ?_⟩ ?_
    · show (List.replicate 100 (⟨0, 0, 0, 0⟩ : Report))[v]? = _
      rw [List.getElem?_replicate, if_pos hv]; rfl
    · rintro m ⟨w, A⟩ ⟨k, hk, hm, hA, hv⟩
      simp only at hk hA hv
      subst hk
      unfold i_lastReports_L1
      refine .iteP (fun hc => ?_) (fun hc => .dn ⟨hA, fun v hv' => by have := hv v hv'; rwa [List.take_of_length_le (by omega)] at this⟩)
      obtain ⟨e, he⟩ := get_ex (l := R) (i := k) (by omega)
      have hb := h.2 e (List.mem_of_getElem? he)
      have hl := h.1
      obtain ⟨j, hj⟩ : ∃ j : Nat, e.Vehicle = (j : Int) := ⟨e.Vehicle.toNat, by omega⟩
      refine .eq (ixs he) (.chk (by omega) (.eq (by rw [hj]; exact ixs (hv j (by omega))) (.nx ⟨m - 1, by omega, k + 1, w64_succ (by omega), by omega, by simpa using hA, fun v hv' => ?_⟩)))
      rw [take_succ he, lastOf_snoc]
      by_cases hvj : v = j
      · subst hvj
        rw [if_pos hj, hj, Int.toNat_natCast, List.getElem?_set_self (by omega)]; rfl
      · have hne : ¬ e.Vehicle = (v : Int) := by omega
        rw [if_neg hne, hj, Int.toNat_natCast, List.getElem?_set_ne (by omega)]
        exact hv v hv'
  obtain ⟨A, hA, hlen, hv⟩ := e1
  rw [hA]
  simp only [Option.bind_some]
  rw [chk_of hlen]
  simp only [Option.bind_some]
  have e2 : iter (i_lastReports_L2 A) ((0 : Int), ([] : List Report)) = some (lastL R) := by
    refine Tot.val (.iter (fun m s => ∃ k : Nat, s.1 = (k : Int) ∧ m + k = 100 ∧ s.2 = (List.range k).filterMap (lastN R)) (n := 100) ⟨0, rfl, rfl, rfl⟩ ?_)
    rintro m ⟨w, x⟩ ⟨k, hk, hm, hx⟩
    simp only at hk hx
    subst hk
    unfold i_lastReports_L2
    refine .iteP (fun hc => ?_) (fun hc => .dn (by rw [hx]; have : k = 100 := by omega
                                                   rw [this]; rfl))
    have hk' : k < 100 := by omega
    have hxl := fm_le R k
    rw [← hx] at hxl
    refine .call (P := fun x1 => x1 = (List.range (k + 1)).filterMap (lastN R)) (.chk (by omega) (.eq (ixs (hv k hk')) ?_)) fun x1 h1 => .nx ⟨m - 1, by omega, k + 1, w64_succ (by omega), by omega, h1⟩
    rw [fm_succ, ← hx]
    cases hlo : lastOf R (k : Int) with
    | none =>
      exact .iteP (fun hc => by simp only [Option.getD_none, z4] at hc; omega) fun _ => .ok (by simp)
    | some e =>
      obtain ⟨q1, q2⟩ := lastOf_veh hlo
      have := h.2 e q2
      exact .iteP (fun _ => .chk (by simp; omega) (.ok (by simp))) fun hc => absurd (show (0 : Int) < e.Vehicle by omega) hc
  rw [e2]; rfl
theorem lastS {R : List Report} (h : VB R) : s_l25Last R = some (lastL R) := by
  have hl := h.1
  unfold s_l25Last
  have e2 : iter (s_l25Last_L2 R) ((1 : Int), ([] : List Report)) = some (lastL R) := by
    refine Tot.val (.iter (fun m s => ∃ k : Nat, s.1 = (k : Int) ∧ m + k = 100 ∧ s.2 = (List.range k).filterMap (lastN R)) (n := 99) ⟨1, rfl, rfl, ?_⟩ ?_)
    · have : lastOf R ((0 : Nat) : Int) = none := lastOf_none fun x hx => by have := h.2 x hx; omega
      rw [fm_succ, this]; rfl
    rintro m ⟨w, x⟩ ⟨k, hk, hm, hx⟩
    simp only at hk hx
    subst hk
    unfold s_l25Last_L2
    refine .iteP (fun hc => ?_) (fun hc => .dn (by rw [hx]; have : k = 100 := by omega
                                                   rw [this]; rfl))
    have hxl := fm_le R k
    rw [← hx] at hxl
    refine .call (P := fun x1 => x1 = (List.range (k + 1)).filterMap (lastN R)) (.call (P := fun x1 => x1 = x ++ (lastOf R (k : Int)).toList) ?_ fun x1 h1 => .ok (by rw [fm_succ, ← hx]; exact h1)) fun x1 h1 => .nx ⟨m - 1, by omega, k + 1, w64_succ (by omega), by omega, h1⟩
    refine .iter (fun q v2 => v2 = (q : Int) - 1 ∧ q ≤ R.length ∧ ∀ z ∈ R.drop q, z.Vehicle ≠ (k : Int)) (n := R.length) ⟨w64_id (by omega), Nat.le_refl _, by simp⟩ ?_
    rintro q v2 ⟨rfl, hq, hall⟩
    unfold s_l25Last_L1
    refine .iteP (fun hc2 => ?_) (fun hc2 => ?_)
    · obtain ⟨e, he⟩ := get_ex (l := R) (i := q - 1) (by omega)
      have hz : idx R ((q : Int) - 1) = some e := by
        rw [show (q : Int) - 1 = ((q - 1 : Nat) : Int) by omega]; exact ixs he
      refine .eq hz (.ite (fun heq => .eq hz (.chk (by simp; omega) (.dn ?_))) fun hne => .nx ⟨q - 1, by omega, ?_, by omega, fun z hz' => ?_⟩)
      · rw [lastOf_at he (by simpa using heq) (by rw [show q - 1 + 1 = q by omega]; exact hall)]; rfl
      · rw [w64_id (by omega)]; omega
      · have hd : R.drop (q - 1) = e :: R.drop q := by
          rw [List.drop_eq_getElem_cons (by omega), show q - 1 + 1 = q by omega]
          congr 1
          exact (List.getElem?_eq_some_iff.1 he).2
        rw [hd] at hz'
        rcases List.mem_cons.1 hz' with rfl | hz'
        · simpa using hne
        · exact hall z hz'
    · have hq0 : q = 0 := by omega
      subst hq0
      refine .dn ?_
      rw [lastOf_none (fun z hz => hall z (by simpa using hz))]
      simp
  rw [e2]; rfl
def staleL (now limit : Int) (Q : List Report) : List Int := (Q.filter fun x => decide (limit < now - x.Time)).map (·.Vehicle)
theorem stale_both {t : Timetable} (hb : TB t) (list : List Report) (now limit : Int) : ∃ q : List Int × Bool, i_StaleVehicles t list now limit = some q ∧ s_StaleVehicles t list now limit = some q ∧ q.1.length ≤ 1000 := by
  unfold i_StaleVehicles s_StaleVehicles i_areMatched s_l25Asked
  rw [validReps_eq hb, l25Good_eq hb, time_eq, l4Time_eq, l1In_eq, time_eq]
  by_cases hg : GoodT t ∧ RepsP t.Network list
  · by_cases hli : 0 ≤ limit ∧ limit ≤ 1799
    · by_cases hno : 0 ≤ now ∧ now ≤ 1799
      · have hl := hg.2.1
        have hR : ∀ x ∈ list, (1 ≤ x.Vehicle ∧ x.Vehicle ≤ 99) ∧ 0 ≤ x.Time ∧ x.Time ≤ 1799 := fun x hx => by
          obtain ⟨i, hi⟩ := List.getElem?_of_mem hx
          have := (hg.2.2 i x hi).1
          exact ⟨this.1, this.2.1⟩
        have eI : iter (i_StaleVehicles_L1 list now) ((0 : Int), ([] : List Report)) = some (list.filter fun x => decide (x.Time ≤ now)) := by
          refine Tot.val (.iter (fun m s => ∃ k : Nat, s.1 = (k : Int) ∧ m + k = list.length ∧ s.2 = (list.take k).filter fun x => decide (x.Time ≤ now)) (n := list.length) ⟨0, rfl, rfl, rfl⟩ ?_)
          rintro m ⟨w, x⟩ ⟨k, hk, hm, hx⟩
          simp only at hk hx
          subst hk
          unfold i_StaleVehicles_L1
          refine .iteP (fun hc => ?_) (fun hc => .dn (by rw [hx, List.take_of_length_le (by omega)]))
          obtain ⟨e, he⟩ := get_ex (l := list) (i := k) (by omega)
          have hxl : x.length ≤ 1000 := by
            rw [hx]; exact Nat.le_trans (List.length_filter_le ..) (by rw [List.length_take]; omega)
          exact .call (P := fun x1 => x1 = (list.take (k + 1)).filter fun x => decide (x.Time ≤ now)) (.eq (ixs he) (.iteP (fun h => .chk (by simp; omega) (.ok (by rw [take_succ he, List.filter_append, ← hx]; simp [h]))) fun h => .ok (by rw [take_succ he, List.filter_append, ← hx]; simp [h]))) fun x1 h1 => .nx ⟨m - 1, by omega, k + 1, w64_succ (by omega), by omega, h1⟩
        have eS : iter (s_StaleVehicles_L1 list now) ((0 : Int), ([] : List Report)) = some (list.filter fun x => decide (x.Time ≤ now)) := by
          refine Tot.val (.iter (fun m s => ∃ k : Nat, s.1 = (k : Int) ∧ m + k = list.length ∧ s.2 = (list.take k).filter fun x => decide (x.Time ≤ now)) (n := list.length) ⟨0, rfl, rfl, rfl⟩ ?_)
          rintro m ⟨w, x⟩ ⟨k, hk, hm, hx⟩
          simp only at hk hx
          subst hk
          unfold s_StaleVehicles_L1
          refine .iteP (fun hc => ?_) (fun hc => .dn (by rw [hx, List.take_of_length_le (by omega)]))
          obtain ⟨e, he⟩ := get_ex (l := list) (i := k) (by omega)
          have hxl : x.length ≤ 1000 := by
            rw [hx]; exact Nat.le_trans (List.length_filter_le ..) (by rw [List.length_take]; omega)
          exact .call (P := fun x1 => x1 = (list.take (k + 1)).filter fun x => decide (x.Time ≤ now)) (.eq (ixs he) (.iteP (fun h => .eq (ixs he) (.chk (by simp; omega) (.ok (by rw [take_succ he, List.filter_append, ← hx]; simp [h])))) fun h => .ok (by rw [take_succ he, List.filter_append, ← hx]; simp [h]))) fun x1 h1 => .nx ⟨m - 1, by omega, k + 1, w64_succ (by omega), by omega, h1⟩
        have hVB : VB (list.filter fun x => decide (x.Time ≤ now)) := ⟨Nat.le_trans (List.length_filter_le ..) (by omega), fun x hx => (hR x (List.mem_filter.1 hx).1).1⟩
        have hQT : ∀ x ∈ lastL (list.filter fun x => decide (x.Time ≤ now)), 0 ≤ x.Time ∧ x.Time ≤ 1799 := fun x hx => by
          unfold lastL at hx
          obtain ⟨v, _, hv⟩ := List.mem_filterMap.1 hx
          have := (lastOf_veh hv).2
          exact (hR x (List.mem_filter.1 this).1).2
        have hQl : (lastL (list.filter fun x => decide (x.Time ≤ now))).length ≤ 100 := fm_le _ 100
        have lI := lastI hVB
        have lS := lastS hVB
        generalize lastL (list.filter fun x => decide (x.Time ≤ now)) = Q at *
        have stl : ∀ {k : Nat} {e : Report}, Q[k]? = some e → staleL now limit (Q.take (k + 1)) = staleL now limit (Q.take k) ++ (if limit < now - e.Time then [e.Vehicle] else []) := fun {k e} he => by
          unfold staleL
          rw [take_succ he, List.filter_append, List.map_append]
          by_cases h : limit < now - e.Time <;> simp [h]
        have stlen : ∀ k, (staleL now limit (Q.take k)).length ≤ 100 := fun k => by
          unfold staleL
          rw [List.length_map]
          exact Nat.le_trans (List.length_filter_le ..) (by rw [List.length_take]; omega)
        have fI : iter (i_StaleVehicles_L2 now limit Q) ((0 : Int), ([] : List Int)) = some (staleL now limit Q) := by
          refine Tot.val (.iter (fun m s => ∃ k : Nat, s.1 = (k : Int) ∧ m + k = Q.length ∧ s.2 = staleL now limit (Q.take k)) (n := Q.length) ⟨0, rfl, rfl, rfl⟩ ?_)
          rintro m ⟨w, x⟩ ⟨k, hk, hm, hx⟩
          simp only at hk hx
          subst hk
          unfold i_StaleVehicles_L2
          refine .iteP (fun hc => ?_) (fun hc => .dn (by rw [hx, List.take_of_length_le (by omega)]))
          obtain ⟨e, he⟩ := get_ex (l := Q) (i := k) (by omega)
          have hT := hQT e (List.mem_of_getElem? he)
          have w1 : w64 (now - e.Time) = now - e.Time := w64_id (by omega)
          have hxl := stlen k
          rw [← hx] at hxl
          refine .call (P := fun x1 => x1 = staleL now limit (Q.take (k + 1))) (.eq (ixs he) ?_) fun x1 h1 => .nx ⟨m - 1, by omega, k + 1, w64_succ (by omega), by omega, h1⟩
          rw [w1]
          exact .iteP (fun h => .chk (by simp; omega) (.ok (by rw [stl he, if_pos h, hx]))) fun h => .ok (by rw [stl he, if_neg h, hx, List.append_nil])
        have fS : iter (s_StaleVehicles_L2 now limit Q) ((0 : Int), ([] : List Int)) = some (staleL now limit Q) := by
          refine Tot.val (.iter (fun m s => ∃ k : Nat, s.1 = (k : Int) ∧ m + k = Q.length ∧ s.2 = staleL now limit (Q.take k)) (n := Q.length) ⟨0, rfl, rfl, rfl⟩ ?_)
          rintro m ⟨w, x⟩ ⟨k, hk, hm, hx⟩
          simp only at hk hx
          subst hk
          unfold s_StaleVehicles_L2
          refine .iteP (fun hc => ?_) (fun hc => .dn (by rw [hx, List.take_of_length_le (by omega)]))
          obtain ⟨e, he⟩ := get_ex (l := Q) (i := k) (by omega)
          have hT := hQT e (List.mem_of_getElem? he)
          have w1 : w64 (now - e.Time) = now - e.Time := w64_id (by omega)
          have hxl := stlen k
          rw [← hx] at hxl
          refine .call (P := fun x1 => x1 = staleL now limit (Q.take (k + 1))) (.eq (ixs he) ?_) fun x1 h1 => .nx ⟨m - 1, by omega, k + 1, w64_succ (by omega), by omega, h1⟩
          rw [w1]
          exact .iteP (fun h => .eq (ixs he) (.chk (by simp; omega) (.ok (by rw [stl he, if_pos h, hx])))) fun h => .ok (by rw [stl he, if_neg h, hx, List.append_nil])
        refine ⟨(staleL now limit Q, true), ?_, ?_, ?_⟩
        · simp only [hg, hli, hno, and_self, decide_true, Bool.not_true, Bool.false_eq_true, if_false, if_true, Option.bind_some, eI, lI, fI]
        · simp only [hg, hli, hno, and_self, decide_true, Bool.not_true, Bool.false_eq_true, if_false, if_true, Option.bind_some, eS, lS, fS]
        · have := stlen Q.length
          rw [List.take_length] at this
          show (staleL now limit Q).length ≤ 1000
          omega
      · exact ⟨([], false), by simp [hg, hli, hno], by simp [hg, hli, hno], by simp⟩
    · exact ⟨([], false), by simp [hg, hli], by simp [hg, hli], by simp⟩
  · exact ⟨([], false), by simp [hg], by simp [hg], by simp⟩
/-! Draws of reports. -/
theorem nowP_ok {k : Nat} {c : l1Cur} (t : Timetable) (h : Cur k c) (hk : k ≤ 1000000) : Tot (s_l1Cur_now23 c t) fun r => Cur (k + 100) r.2 := by
  unfold s_l1Cur_now23
  refine .call (P := fun o => Cur (k + 10) ⟨o.2.1, o.2.2.1, ⟨o.2.2.2⟩⟩ ∧ (o.1 = true → 0 < t.Trips.length)) ?_ fun ⟨v, v1, v2, v3⟩ ⟨hc, hv⟩ => ?_
  · exact .iteP (fun h0 => .call (t_one 6 h (by omega)) fun r1 hr1 => .ok ⟨hr1.mono (by omega), fun _ => by omega⟩) (fun _ => .ok ⟨h.mono (by omega), fun h => by cases h⟩)
  · dsimp only at hc hv
    refine .ite (fun hb => ?_) (fun _ => .call (t_time hc (by omega)) fun r5 hc5 => .ok (hc5.mono (by omega)))
    have h0 := hv hb
    exact .call (t_pick _ hc (by omega)) fun r3 ⟨hc3, h30, h31⟩ => .idx h30 (by omega) fun e _ => .call (t_pick 40 hc3 (by omega)) fun r4 ⟨hc4, _⟩ => .ok (hc4.mono (by omega))
theorem report_ok {k : Nat} {c : l1Cur} {t : Timetable} (hd : DT t) (h : Cur k c) (hk : k ≤ 1000000) (vehicle time : Int) : Tot (s_l1Cur_report c t vehicle time) fun r => Cur (k + 20) r.2 ∧ (0 < t.Network.Lines.length → 0 ≤ r.1.Line ∧ r.1.Line < (t.Network.Lines.length : Int)) := by
  unfold s_l1Cur_report
  refine .ite (fun h0 => .ok ⟨h.mono (by omega), fun hne => ?_⟩) fun h0 => ?_
  · have h0' : (t.Network.Lines.length : Int) = 0 := by simpa using h0
    omega
  have h0' : ¬ (t.Network.Lines.length : Int) = 0 := by simpa using h0
  refine .call (t_pick _ h (by omega)) fun r ⟨hc, hr0, hr1⟩ => ?_
  refine .call (P := fun o => Cur (k + 14) ⟨o.1, o.2.1, ⟨o.2.2.1⟩⟩ ∧ 0 ≤ o.2.2.2 ∧ o.2.2.2 < (t.Network.Lines.length : Int)) (.call (P := fun o => Cur (k + 8) ⟨o.2.1, o.2.2.1, ⟨o.2.2.2⟩⟩ ∧ (o.1 = true → 0 < t.Trips.length ∧ GoodT t)) ?_ fun ⟨v4, v5, v6, v7⟩ ⟨hcur, hv⟩ => ?_) fun ⟨v, v1, v2, v3⟩ ⟨hcur2, hl0, hl1⟩ => ?_
  · exact .iteP (fun hT => .eq (goodT_eq hd.tb) (.iteP (fun hg => .call (t_one 6 hc (by omega)) fun r2 hc2 => .ok ⟨hc2.mono (by omega), fun _ => ⟨by omega, hg⟩⟩) fun _ => .ok ⟨hc.mono (by omega), fun h => by cases h⟩)) fun _ => .ok ⟨hc.mono (by omega), fun h => by cases h⟩
  · dsimp only at hcur hv
    refine .ite (fun hb => ?_) fun _ => .ok ⟨hcur.mono (by omega), hr0, by dsimp only; omega⟩
    obtain ⟨hT, hg⟩ := hv hb
    refine .call (t_pick _ hcur (by omega)) fun r4 ⟨hc4, h40, h41⟩ => .idx h40 (by omega) fun e he => ?_
    obtain ⟨l, hl, _⟩ := trip_line hg he
    have := idx_some hl
    exact .ok ⟨hc4.mono (by omega), this.1, this.2.1⟩
  dsimp only at hcur2 hl0 hl1
  refine .call (P := fun o => Cur (k + 20) ⟨o.1, o.2.1, ⟨o.2.2.1⟩⟩) ?_ fun ⟨v8, v9, v10, v11⟩ hc3 => .ok ⟨hc3, fun _ => ⟨hl0, hl1⟩⟩
  refine .eq (good_eq _ hd.1) (.iteP (fun hgood => .idx hl0 hl1 fun e he => .eq (l25Long_eq (hgood.2.2.2.2 _ e he)) (.call (t_pick _ hcur2 (by omega)) fun r7 ⟨hc7, _⟩ => .ok (hc7.mono (by omega)))) fun _ => .ok (hcur2.mono (by omega)))
theorem drawPlace_ok (code : List UInt8) : Tot (s_DrawPlaceOf code) fun r => TB r.1 := by
  unfold s_DrawPlaceOf
  exact .call (anyTimetable_ok (cur0 code) (by omega)) fun r ⟨hc, hd⟩ => .call (t_amongw _ (by simp) hc (by omega)) fun r4 ⟨hc4, _⟩ => .call (nowP_ok _ hc4 (by omega)) fun r5 hc5 => .call (report_ok hd hc5 (by omega) _ _) fun r6 _ => .ok hd.tb
theorem drawPred_ok (code : List UInt8) : Tot (s_DrawPredictArrivals code) fun r => TB r.1 := by
  unfold s_DrawPredictArrivals
  refine .call (anyTimetable_ok (cur0 code) (by omega)) fun r ⟨hc, hd⟩ => .call (t_amongw _ (by simp) hc (by omega)) fun r4 ⟨hc4, _⟩ => .call (idOf_ok _ hc4 (by omega)) fun r5 hc5 => .call (t_amongw _ (by simp) hc5 (by omega)) fun r6 ⟨hc6, _⟩ => .call (t_pick 60 hc6 (by omega)) fun r7 ⟨hc7, _⟩ => ?_
  refine .call (P := fun _ => True) (.eq (l5Find_eq _ hd.tb.2 _) ?_) fun _ _ => .ok hd.tb
  refine .call (P := fun o => Cur 3000 ⟨o.2.1, o.2.2.1, ⟨o.2.2.2⟩⟩ ∧ (o.1 = true → ¬ fixI (fun x => x.Id == r5.1) r.1.Trips < 0 ∧ GoodT r.1)) ?_ fun ⟨v, v1, v2, v3⟩ ⟨hcur, hv⟩ => ?_
  · exact .iteP (fun hT => .eq (goodT_eq hd.tb) (.iteP (fun hg => .call (t_one 6 hc7 (by omega)) fun r2 hc2 => .ok ⟨hc2.mono (by omega), fun _ => ⟨by omega, hg⟩⟩) fun _ => .ok ⟨hc7.mono (by omega), fun h => by cases h⟩)) fun _ => .ok ⟨hc7.mono (by omega), fun h => by cases h⟩
  dsimp only at hcur hv
  refine .ite (fun hb => ?_) fun _ => .ok trivial
  obtain ⟨hx, hg⟩ := hv hb
  obtain ⟨i, y, hi, hy, _⟩ := idx_fix hx
  obtain ⟨l, hl, hp, _⟩ := trip_line hg hy
  exact .eq (by rw [hi]; exact l5Line_eq hy hl) (.eq (l25Long_eq hp) (.call (t_pick _ hcur (by omega)) fun r13 _ => .ok trivial))
theorem drawSpeed_ok (code : List UInt8) : Tot (s_DrawSpeedOf code) fun r => TB r.1 := by
  unfold s_DrawSpeedOf
  refine .call (anyTimetable_ok (cur0 code) (by omega)) fun r ⟨hc, hd⟩ => .call (nowP_ok _ hc (by omega)) fun r1 hc1 => .call (report_ok hd hc1 (by omega) _ _) fun r2 ⟨hc2, hline⟩ => .call (t_pick 5 hc2 (by omega)) fun r3 ⟨hc3, h30, h31⟩ => ?_
  refine .call (P := fun o => Cur 4000 ⟨o.1, o.2.1, ⟨o.2.2.1⟩⟩) ?_ fun ⟨v12, v13, v14, tm⟩ hc4 => .call (t_amongw _ (by simp) hc4 (by omega)) fun r17 _ => .ok hd.tb
  refine .iter (fun m s => s.1 = (m : Int) ∧ m ≤ 5 ∧ s.2.2.2.2.1.length + m ≤ 5 ∧ Cur (3000 + 20 * (5 - m)) ⟨s.2.1, s.2.2.1, ⟨s.2.2.2.1⟩⟩) (n := r3.1.toNat) ⟨by show r3.1 = _; omega, by omega, by show 0 + r3.1.toNat ≤ 5; omega, hc3.mono (by omega)⟩ ?_
  rintro m ⟨v, v1, v2, v3, tm, v4, v5⟩ ⟨hv, hm, hl, hcur⟩
  simp only at hv hl hcur
  unfold s_DrawSpeedOf_L1
  refine .call (P := fun b => b = true → 0 < m) (.iteP (fun h0 => .eq (l4Time_eq _) (.ok fun _ => by omega)) fun _ => .ok fun h => by cases h) fun b hb => .ite (fun hb1 => ?_) fun _ => .dn (hcur.mono (by omega))
  have hm0 := hb hb1
  refine .call (P := fun o => Cur (3000 + 20 * (5 - m) + 12) ⟨o.1, o.2.1, ⟨o.2.2.1⟩⟩) (.chk (by simp; omega) (.call (t_pick 5 hcur (by omega)) fun r6 ⟨hc6, _⟩ => .eq (good_eq _ hd.1) (.iteP (fun hgood => ?_) fun _ => .ok (hc6.mono (by omega))))) fun ⟨v7, v8, v9, v10, v11⟩ hc7 => .nx ⟨m - 1, by omega, ?_, by omega, ?_, hc7.mono (by omega)⟩
  · refine .call (t_pick 6 hc6 (by omega)) fun r12 ⟨hc12, _⟩ => .call (t_pick 8 hc12 (by omega)) fun r13 ⟨hc13, _⟩ => .chk (by omega) ?_
    have hb := hline (by have := hgood.2.1.1; omega)
    refine .idx hb.1 hb.2 fun e he => .eq (l25Long_eq (hgood.2.2.2.2 _ e he)) ?_
    unfold s_l1Least
    exact .call (P := fun _ => True) (.iteP (fun _ => .ok trivial) fun _ => .ok trivial) fun _ _ => .ok (hc13.mono (by omega))
  · show w64 (v - 1) = _
    rw [hv, w64_id (by omega)]; omega
  · simp; omega
theorem reports_ok {k : Nat} {c : l1Cur} {t : Timetable} (hd : DT t) (h : Cur k c) (hk : k ≤ 100000) : Tot (s_l1Cur_reports c t) fun r => Cur (k + 1000) r.2 := by
  unfold s_l1Cur_reports
  refine .call (nowP_ok _ h (by omega)) fun r hc => .call (t_pick 7 hc (by omega)) fun r1 ⟨hc1, h0, h1⟩ => ?_
  refine .call (P := fun o => Cur (k + 500) ⟨o.1, o.2.1, ⟨o.2.2.1⟩⟩) ?_ fun ⟨v9, v10, v11, v12⟩ hc2 => ?_
  · refine .iter (fun m s => s.2.2.1 = (m : Int) ∧ m ≤ 7 ∧ s.2.2.2.2.2.2.length + m ≤ 7 ∧ Cur (k + 110 + 40 * (7 - m)) ⟨s.2.2.2.1, s.2.2.2.2.1, ⟨s.2.2.2.2.2.1⟩⟩) (n := r1.1.toNat) ⟨by show r1.1 = _; omega, by omega, by show 0 + r1.1.toNat ≤ 7; omega, hc1.mono (by omega)⟩ ?_
    rintro m ⟨n, kk, x, v, v1, v2, v3⟩ ⟨hv, hm, hl, hcur⟩
    simp only at hv hl hcur
    unfold s_l1Cur_reports_L1
    refine .call (P := fun b => b = true → 0 < m) (.iteP (fun h0 => .eq (l4Time_eq _) (.ok fun _ => by omega)) fun _ => .ok fun h => by cases h) fun b hb => .ite (fun hb1 => ?_) fun _ => .dn (hcur.mono (by omega))
    have hm0 := hb hb1
    refine .call (P := fun o => Cur (k + 110 + 40 * (7 - m) + 36) ⟨o.2.2.1, o.2.2.2.1, ⟨o.2.2.2.2.1⟩⟩ ∧ o.2.2.2.2.2.length = v3.length + 1) ?_ fun ⟨n1, k1, v5, v6, v7, v8⟩ ⟨hc7, hl7⟩ => .nx ⟨m - 1, by omega, ?_, by omega, ?_, hc7.mono (by omega)⟩
    · refine .call (t_pick 2 hcur (by omega)) fun r3 ⟨hc3, _⟩ => .call (report_ok hd hc3 (by omega) _ _) fun r4 ⟨hc4, _⟩ => .chk (by simp; omega) (.call (t_one 3 hc4 (by omega)) fun r5 hc5 => .ite (fun _ => .call (t_among _ (by simp) hc5 (by omega)) fun r6 ⟨hc6, _⟩ => .ok ⟨hc6.mono (by omega), by simp⟩) fun _ => .ok ⟨hc5.mono (by omega), by simp⟩)
    · show w64 (x - 1) = _
      rw [hv, w64_id (by omega)]; omega
    · simp only at hl7
      show v8.length + (m - 1) ≤ 7
      omega
  · dsimp only at hc2
    refine .ite (fun _ => .ok (hc2.mono (by omega))) fun hne => ?_
    have hne' : ¬ (v12.length : Int) = 0 := by simpa using hne
    refine .call (t_pick _ hc2 (by omega)) fun r7 ⟨hc7, h70, h71⟩ => .idx h70 (by omega) fun e he => ?_
    refine .call (P := fun o => Cur (k + 900) ⟨o.1, o.2.1, ⟨o.2.2.1⟩⟩) ?_ fun ⟨v13, v14, v15, v16, v17, v18⟩ hc8 => .idx h70 (by omega) fun e1 _ => .ok (hc8.mono (by omega))
    refine .call (t_pick 40 hc7 (by omega)) fun r8 ⟨hc8, _⟩ => .ite (fun _ => .call (t_among _ (by simp) hc8 (by omega)) fun r9 ⟨hc9, _⟩ => .ok (hc9.mono (by omega))) fun _ => .ite (fun _ => .call (t_among _ (by simp) hc8 (by omega)) fun r9 ⟨hc9, _⟩ => .ok (hc9.mono (by omega))) fun _ => .ite (fun _ => .call (t_among _ (by simp) hc8 (by omega)) fun r9 ⟨hc9, _⟩ => .ok (hc9.mono (by omega))) fun _ => .ok (hc8.mono (by omega))
theorem limit_ok {k : Nat} {c : l1Cur} (h : Cur k c) (hk : k ≤ 1000000) : Tot (s_l1Cur_limit25 c) fun r => Cur (k + 10) r.2 := by
  unfold s_l1Cur_limit25
  refine .call (t_pick 24 h (by omega)) fun r ⟨hc, h0, h1⟩ => .chk (by omega) ?_
  have hq : 0 ≤ r.1.tdiv 11 ∧ r.1.tdiv 11 ≤ 2 := by
    rw [Int.tdiv_eq_ediv_of_nonneg h0]; omega
  have w : w64 (5 + w64 (r.1.tdiv 11)) = 5 + r.1.tdiv 11 := by rw [w64_id (x := r.1.tdiv 11) (by omega), w64_id (by omega)]
  rw [w]
  refine .chk ⟨by omega, by omega, by simp; omega⟩ (.call (t_among _ ?_ hc (by omega)) fun r1 ⟨hc1, _⟩ => .ok (hc1.mono (by omega)))
  intro hnil
  have := congrArg List.length hnil
  simp at this
  omega
theorem drawStale_ok (code : List UInt8) : Tot (s_DrawStaleVehicles code) fun r => TB r.1 := by
  unfold s_DrawStaleVehicles s_DrawMissingTrips
  exact .call (P := fun r => TB r.1) (.call (anyTimetable_ok (cur0 code) (by omega)) fun r ⟨hc, hd⟩ => .call (reports_ok hd hc (by omega)) fun r1 hc1 => .call (limit_ok hc1 (by omega)) fun r2 hc2 => .call (nowP_ok _ hc2 (by omega)) fun r4 _ => .ok hd.tb) fun r hr => .ok hr
/-! The law FnPositions. -/
theorem posL1 (r1 : Timetable × Report) {q : List Match} {b : Bool} (h : q.length ≤ 12) (hv : ∀ m ∈ q, m.Vehicle = r1.2.Vehicle) : iter (v_FnPositions_L1 r1 (q, b) (q, b)) (0 : Int) = some (.go ()) := by
  refine Tot.val (.iter (fun m v => ∃ k : Nat, v = (k : Int) ∧ m + k = q.length) (n := q.length) ⟨0, rfl, rfl⟩ ?_)
  rintro m v ⟨k, rfl, hm⟩
  unfold v_FnPositions_L1
  refine .iteP (fun hc => ?_) (fun _ => .dn rfl)
  have hc' : k < q.length := by simp only at hc; omega
  obtain ⟨e, he⟩ := get_ex (l := q) (i := k) hc'
  have hev := hv e (List.mem_of_getElem? he)
  refine .eq (ixs he) (.eq (ixs he) (.call (P := fun b => b = false) ?_ fun b hb => ?_))
  · simp only [beq_self_eq_true, Bool.and_self, Bool.not_true, Bool.false_eq_true, if_false]
    exact .eq (ixs he) (.ok (by rw [hev]; simp))
  · subst hb
    exact .nx ⟨m - 1, by omega, k + 1, w64_succ (by omega), by omega⟩
theorem posL2 (r2 : Int × Int × Bool) (l : Line) {k : Nat} (hk : r2.1 = (k : Int)) (hkl : k ≤ l.Runs.length) (hl : l.Runs.length ≤ 5) (hp : ∀ x ∈ l.Runs, 1 ≤ x ∧ x ≤ 60) : iter (v_FnPositions_L2 r2 l) ((0 : Int), (0 : Int)) = some (l.Runs.take k).sum := by
  refine Tot.val (.iter (fun m s => ∃ j : Nat, s = ((l.Runs.take j).sum, (j : Int)) ∧ m + j = k) (n := k) ⟨0, by simp, rfl⟩ ?_)
  rintro m s ⟨j, rfl, hm⟩
  unfold v_FnPositions_L2
  dsimp only
  rw [hk]
  refine .iteP (fun hc => ?_) (fun hc => .dn (by rw [show j = k by omega]))
  obtain ⟨e, he⟩ := get_ex (l := l.Runs) (i := j) (by omega)
  have be := hp e (List.mem_of_getElem? he)
  have bs := sum_bd (l := l.Runs.take j) (M := 60) fun x hx => by have := hp x (List.mem_of_mem_take hx); omega
  have hlen : ((l.Runs.take j).length : Int) ≤ 5 := by simp; omega
  exact .eq (ixs he) (.nx ⟨m - 1, by omega, j + 1, by rw [w64_id (by omega), w64_succ (by omega), sum_take_succ he], by omega⟩)
theorem posL3 {q : List Int} {b : Bool} (h : q.length ≤ 10) (hs : q.Pairwise (· < ·)) : iter (v_FnPositions_L3 (q, b)) (1 : Int) = some (.go ()) := by
  refine Tot.val (.iter (fun m v => ∃ k : Nat, v = (k : Int) ∧ 1 ≤ k ∧ m + k = q.length + 1) (n := q.length) ⟨1, rfl, by omega, rfl⟩ ?_)
  rintro m v ⟨k, rfl, hk, hm⟩
  unfold v_FnPositions_L3
  refine .iteP (fun hc => ?_) (fun _ => .dn rfl)
  have hc' : k < q.length := by simp only at hc; omega
  obtain ⟨e, he⟩ := get_ex (l := q) (i := k) hc'
  obtain ⟨d, hd⟩ := get_ex (l := q) (i := k - 1) (by omega)
  have w : w64 ((k : Int) - 1) = ((k - 1 : Nat) : Int) := by rw [w64_id (by omega)]; omega
  have hlt : d < e := by
    have := List.pairwise_iff_getElem.1 hs (k - 1) k (get_lt hd) (get_lt he) (by omega)
    rw [(List.getElem?_eq_some_iff.1 hd).2, (List.getElem?_eq_some_iff.1 he).2] at this
    exact this
  refine .eq (ixs he) (.eq (by rw [w]; exact ixs hd) (.iteP (fun hle => by omega) fun _ => .nx ⟨m - 1, by omega, k + 1, w64_succ (by omega), by omega, by omega⟩))
theorem positions_true (code : List UInt8) : v_FnPositions code = some true := by
  unfold v_FnPositions v_rBig
  simp only [Option.bind_some]
  split
  · rfl
  · obtain ⟨r1, hr1, hb⟩ := drawPlace_ok code
    obtain ⟨r8, hr8, hb8⟩ := drawPred_ok code
    obtain ⟨r13, hr13, hb13⟩ := drawSpeed_ok code
    obtain ⟨r16, hr16, hb16⟩ := drawStale_ok code
    obtain ⟨x, sp1, sp2⟩ := speed_both hb13 r13.2.1 r13.2.2
    obtain ⟨q, st1, st2, hql⟩ := stale_both hb16 r16.2.1 r16.2.2.1 r16.2.2.2
    have hpred : ∃ p : List Int × Bool, i_PredictArrivals r8.1 r8.2.1 r8.2.2 = some p ∧ s_PredictArrivals r8.1 r8.2.1 r8.2.2 = some p ∧ p.1.length ≤ 10 ∧ p.1.Pairwise (· < ·) := by
      rcases predict_both hb8 r8.2.1 r8.2.2 with ⟨q, e1, e2, e3, e4⟩ | ⟨e1, e2⟩
      · exact ⟨(q, true), e1, e2, e3, e4⟩
      · exact ⟨([], false), e1, e2, by simp, List.Pairwise.nil⟩
    obtain ⟨⟨p, pb⟩, pr1, pr2, pr3, pr4⟩ := hpred
    have hfit : ∃ f : List Match × Bool, i_FittingTrips r1.1 r1.2 = some f ∧ s_FittingTrips r1.1 r1.2 = some f ∧ f.1.length ≤ 12 ∧ ∀ m ∈ f.1, m.Vehicle = r1.2.Vehicle := by
      rcases fitting_both hb r1.2 with ⟨q, e1, e2, e3, e4⟩ | ⟨e1, e2⟩
      · exact ⟨(q, true), e1, e2, e3, e4⟩
      · exact ⟨([], false), e1, e2, by simp, by simp⟩
    obtain ⟨⟨f, fb⟩, ft1, ft2, ft3, ft4⟩ := hfit
    rw [hr1]
    simp only [Option.bind_some]
    rcases place_both hb r1.2 with ⟨l, k, hg, hp, hl, hL, hk1, hk2, hk3, e1, e2⟩ | ⟨e1, e2⟩
    · obtain ⟨⟨h1, h2, h3⟩, h4⟩ := line_runs hL
      have l2 := posL2 ((k : Int), r1.2.Done - (l.Runs.take k).sum, true) l rfl hk1 h3 h4
      have bs := runs_sum hL k
      have hd : 0 ≤ r1.2.Done ∧ r1.2.Done ≤ 300 := by
        obtain ⟨_, _, l', hl', d1, d2⟩ := hp
        have := runs_sum' (good_line hg.1 hl')
        omega
      have w : w64 ((l.Runs.take k).sum + (r1.2.Done - (l.Runs.take k).sum)) = r1.2.Done := by rw [w64_id (by omega)]; omega
      have hneg : ¬ r1.2.Done - (l.Runs.take k).sum < 0 := by omega
      have hv3 : (if (decide ((k : Int) < (l.Runs.length : Int))) = true then (idx l.Runs (k : Int)).bind fun e9 => some (decide (e9 ≤ r1.2.Done - (l.Runs.take k).sum)) else some false) = some false := by
        by_cases hc : k < l.Runs.length
        · obtain ⟨e, he⟩ := get_ex (l := l.Runs) (i := k) hc
          have h5 := hk3 e he
          have h6 : ¬ e ≤ r1.2.Done - (l.Runs.take k).sum := by omega
          simp only [Int.ofNat_lt.2 hc, decide_true, if_true, ixs he, Option.bind_some, h6, decide_false]
        · have hc' : ¬ (k : Int) < (l.Runs.length : Int) := by omega
          simp only [hc', decide_false, Bool.false_eq_true, if_false]
      simp only [e1, e2, ft1, ft2, Option.bind_some, bne_self_eq_false, beq_self_eq_true, Bool.not_true, Bool.false_eq_true, if_false, if_true, posL1 r1 ft3 ft4, flb_go, hl, l2, w, hneg, decide_false, hv3, hr8, pr1, pr2, rInts_refl p (by simp only at pr3; omega), posL3 pr3 pr4, hr13, sp1, sp2, hr16, st1, st2, rInts_refl q.1 (by omega)]
    · simp only [e1, e2, ft1, ft2, Option.bind_some, bne_self_eq_false, beq_self_eq_true, Bool.not_true, Bool.false_eq_true, if_false, if_true, posL1 r1 ft3 ft4, flb_go, hr8, pr1, pr2, rInts_refl p (by simp only at pr3; omega), posL3 pr3 pr4, hr13, sp1, sp2, hr16, st1, st2, rInts_refl q.1 (by omega)]
end Go.Proofs.Ytjljkjbdkjjdcaa
