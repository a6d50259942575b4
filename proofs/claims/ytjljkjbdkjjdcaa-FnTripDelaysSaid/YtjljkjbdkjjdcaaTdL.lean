/- The plain law: what the models compute, no program in sight. -/
import Derived.Test.YtjljkjbdkjjdcaaTdM
import Derived.Test.YtjljkjbdkjjdcaaAbStb
namespace Go.Proofs.Ytjljkjbdkjjdcaa
open Go Go.Ab
set_option maxHeartbeats 4000000
set_option linter.unusedVariables false
set_option linter.unusedSimpArgs false
/-! The cursor of the draws: it always answers. -/
def Cur (k : Nat) (c : l1Cur) : Prop := 0 ≤ c.at_ ∧ c.at_ ≤ k
theorem Cur.mono {k k' : Nat} {c : l1Cur} (h : Cur k c) (hk : k ≤ k') : Cur k' c := ⟨h.1, by have := h.2; omega⟩
theorem next_ok {k : Nat} {c : l1Cur} (h : Cur k c) (hk : k ≤ 4000000000) : ∃ r, s_l1Cur_next c = some r ∧ Cur (k + 1) r.2 ∧ 0 ≤ r.1 ∧ r.1 ≤ 255 := by
  obtain ⟨h0, h1⟩ := h
  have hw : w64 (c.at_ + 1) = c.at_ + 1 := w64_id (by omega)
  have hcur : ∀ s, Cur (k + 1) ⟨c.code_, w64 (c.at_ + 1), s⟩ := fun s => by rw [hw]; exact ⟨by show 0 ≤ c.at_ + 1; omega, by show c.at_ + 1 ≤ _; omega⟩
  unfold s_l1Cur_next
  have hv : ∃ v, (if (decide (c.at_ < (c.code_.length : Int))) = true then (idx c.code_ c.at_).bind fun e1 => some (w64 ((e1.toNat : Int))) else some 0) = some v ∧ 0 ≤ v ∧ v ≤ 255 := by
    by_cases hlt : c.at_ < c.code_.length
    · obtain ⟨x, hx, _, _⟩ := idx_lt h0 hlt
      have := x.toNat_lt
      refine ⟨(x.toNat : Int), ?_, by omega, by omega⟩
      simp only [hlt, decide_true, if_true, hx, Option.bind_some]
      rw [w64_id (by omega)]
    · exact ⟨0, by simp [hlt], by omega, by omega⟩
  obtain ⟨v, hv, hv0, hv1⟩ := hv
  rw [hv]
  simp only [Option.bind_some]
  split
  · exact ⟨_, rfl, hcur _, hv0, hv1⟩
  · rw [chk_of (by omega)]
    exact ⟨_, rfl, hcur _, and255 _⟩
theorem pick_ok {k : Nat} {c : l1Cur} (n : Int) (h : Cur k c) (hk : k ≤ 3000000000) : ∃ r, s_l1Cur_pick c n = some r ∧ Cur (k + 2) r.2 ∧ 0 ≤ r.1 ∧ (r.1 < n ∨ r.1 = 0) := by
  unfold s_l1Cur_pick
  by_cases hn : n ≤ 1
  · exact ⟨(0, c), by simp [hn], h.mono (by omega), by simp, .inr rfl⟩
  · obtain ⟨r, hr, hc, h0, h1⟩ := next_ok h (by omega)
    have hn' : decide (n ≤ 1) = false := by simpa using hn
    simp only [hn', Bool.false_eq_true, if_false, hr, Option.bind_some]
    have hne : chk (n ≠ 0) = some () := chk_of (by omega)
    by_cases h2 : 200 < n
    · obtain ⟨r', hr', hc', h0', h1'⟩ := next_ok hc (by omega)
      have e1 : w64 (r.1 * 256) = r.1 * 256 := w64_id (by omega)
      have e2 : w64 (r.1 * 256 + r'.1) = r.1 * 256 + r'.1 := w64_id (by omega)
      have h3 := tmod_rng (a := r.1 * 256 + r'.1) (b := n) (by omega) (by omega)
      simp only [h2, decide_true, if_true, hr', Option.bind_some, hne, e1, e2]
      exact ⟨_, rfl, hc'.mono (by omega), h3.1, .inl h3.2⟩
    · have h2' : decide (200 < n) = false := by simpa using h2
      have h3 := tmod_rng (a := r.1) (b := n) (by omega) (by omega)
      simp only [h2', Bool.false_eq_true, if_false, Option.bind_some, hne]
      exact ⟨_, rfl, hc.mono (by omega), h3.1, .inl h3.2⟩
theorem amongw_ok {k : Nat} {c : l1Cur} (l : List Int) (hl : l ≠ []) (h : Cur k c) (hk : k ≤ 3000000000) : ∃ r, s_l1Cur_among_w c l = some r ∧ Cur (k + 2) r.2 ∧ r.1 ∈ l := by
  unfold s_l1Cur_among_w
  obtain ⟨r, hr, hc, h0, h1⟩ := pick_ok (l.length : Int) h hk
  have hpos : 0 < l.length := List.length_pos_iff.2 hl
  obtain ⟨x, hx, _, hm⟩ := idx_lt (l := l) h0 (by omega)
  simp only [hr, Option.bind_some, hx]
  exact ⟨_, rfl, hc, hm⟩
theorem among_ok {k : Nat} {c : l1Cur} (l : List Int) (hl : l ≠ []) (h : Cur k c) (hk : k ≤ 3000000000) : ∃ r, s_l1Cur_among c l = some r ∧ Cur (k + 2) r.2 ∧ r.1 ∈ l := by
  have : s_l1Cur_among c l = s_l1Cur_among_w c l := rfl
  rw [this]; exact amongw_ok l hl h hk
theorem one_ok {k : Nat} {c : l1Cur} (n : Int) (h : Cur k c) (hk : k ≤ 3000000000) : ∃ r, s_l1Cur_one c n = some r ∧ Cur (k + 2) r.2 := by
  unfold s_l1Cur_one
  obtain ⟨r, hr, hc, _, _⟩ := pick_ok n h hk
  simp only [hr, Option.bind_some]
  exact ⟨_, rfl, hc⟩
theorem of_ok {k : Nat} {c : l1Cur} (l : List ByteArray) (hl : l ≠ []) (h : Cur k c) (hk : k ≤ 3000000000) : ∃ r, s_l1Cur_of c l = some r ∧ Cur (k + 2) r.2 ∧ r.1 ∈ l := by
  unfold s_l1Cur_of
  obtain ⟨r, hr, hc, h0, h1⟩ := pick_ok (l.length : Int) h hk
  have hpos : 0 < l.length := List.length_pos_iff.2 hl
  obtain ⟨x, hx, _, hm⟩ := idx_lt (l := l) h0 (by omega)
  simp only [hr, Option.bind_some, hx]
  exact ⟨_, rfl, hc, hm⟩
theorem ofw_ok {k : Nat} {c : l1Cur} (l : List ByteArray) (hl : l ≠ []) (h : Cur k c) (hk : k ≤ 3000000000) : ∃ r, s_l1Cur_of_w c l = some r ∧ Cur (k + 2) r.2 ∧ r.1 ∈ l := by
  have : s_l1Cur_of_w c l = s_l1Cur_of c l := rfl
  rw [this]; exact of_ok l hl h hk
theorem cur0 (code : List UInt8) : Cur 0 ⟨code, 0, ⟨0⟩⟩ := ⟨by show (0 : Int) ≤ 0; omega, by show (0 : Int) ≤ _; omega⟩
/-! Networks: when they are valid, for the program and for the reference. -/
theorem within_eq (n lo hi : Int) : i_within n lo hi = some (decide (lo ≤ n ∧ n ≤ hi)) := by
  unfold i_within
  by_cases h : lo ≤ n <;> simp [h]
theorem l1In_eq (n lo hi : Int) : s_l1In n lo hi = some (decide (lo ≤ n ∧ n ≤ hi)) := by
  unfold s_l1In
  by_cases h : lo ≤ n <;> simp [h]
/-- Byte i of a name. -/
def ChOK (i : Nat) (c : UInt8) : Prop := (97 ≤ (c.toNat : Int) ∧ (c.toNat : Int) ≤ 122) ∨ (i ≠ 0 ∧ 48 ≤ (c.toNat : Int) ∧ (c.toNat : Int) ≤ 57)
def NameOK (s : ByteArray) : Prop := (1 ≤ s.size ∧ s.size ≤ 8) ∧ ∀ (i : Nat) c, s.data.toList[i]? = some c → ChOK i c
open Classical in
noncomputable instance (s : ByteArray) : Decidable (NameOK s) := Classical.propDecidable _
theorem size_list (s : ByteArray) : s.data.toList.length = s.size := by simp
theorem getD_of {α : Type} {l : List α} {i : Nat} {x d : α} (h : l[i]? = some x) : l.getD i d = x := by rw [List.getD_eq_getElem?_getD, h]; rfl

theorem isName_eq (s : ByteArray) : i_isName s = some (decide (NameOK s)) := by
  unfold i_isName
  by_cases h1 : 1 ≤ s.size ∧ s.size ≤ 8
  · have e1 : decide ((s.size : Int) < 1) = false := by simp; omega
    have e2 : decide (8 < (s.size : Int)) = false := by simp; omega
    simp only [e1, e2, Bool.false_eq_true, if_false, Option.bind_some]
    have hsz := size_list s
    have key := all_loop s.data.toList ChOK (step := i_isName_L1 s) ?_ ?_ 0 0 rfl (by omega)
    · rcases key with ⟨g1, g2⟩ | ⟨g1, g2⟩
      · rw [g1, flb_go]
        have : NameOK s := ⟨h1, fun i c hc => g2 i c (by omega) hc⟩
        simp [this]
      · rw [g1, flb_ret]
        have : ¬ NameOK s := fun hn => g2 fun i c _ hc => hn.2 i c hc
        simp [this]
    · intro i x hx
      have hi := (List.getElem?_eq_some_iff.1 hx).1
      have hg : s.data.toList.getD (i : Int).toNat 0 = x := by rw [Int.toNat_natCast]; exact getD_of hx
      have hc : chk ((0 : Int) ≤ (i : Int) ∧ (i : Int) < (s.size : Int)) = some () := chk_of (by omega)
      have hlt : decide ((i : Int) < (s.size : Int)) = true := by simp; omega
      unfold i_isName_L1
      simp only [hlt, if_true, hc, hg, Option.bind_some, w64_succ (n := i) (by omega)]
      unfold ChOK
      by_cases a1 : (97 : Int) ≤ (x.toNat : Int)
      · by_cases a2 : (x.toNat : Int) ≤ 122
        · left; refine ⟨by simp [a1, a2], .inl ⟨a1, a2⟩⟩
        · right
          refine ⟨?_, by omega⟩
          have b1 : decide ((x.toNat : Int) < 48) = false := by simp; omega
          have b2 : decide ((57 : Int) < (x.toNat : Int)) = true := by simp; omega
          have c1 : ¬ (x.toNat : Int) < 48 := by omega
          have c2 : (57 : Int) < (x.toNat : Int) := by omega
          by_cases hi0 : i = 0
          · simp [a1, a2, hi0]
          · have hi0' : ((i : Int) == 0) = false := by simp; omega
            simp [a1, a2, hi0', c1, c2]
      · by_cases hi0 : i = 0
        · right
          refine ⟨by simp [a1, hi0], by omega⟩
        · have hi0' : ((i : Int) == 0) = false := by simp; omega
          by_cases b1 : (x.toNat : Int) < 48
          · right
            refine ⟨by simp [a1, hi0', b1], by omega⟩
          · by_cases b2 : (57 : Int) < (x.toNat : Int)
            · right
              refine ⟨by simp [a1, hi0', b1, b2], by omega⟩
            · left
              refine ⟨by simp [a1, hi0', b1, b2], .inr ⟨hi0, by omega, by omega⟩⟩
    · unfold i_isName_L1
      rw [hsz]
      simp
  · have : ¬ NameOK s := fun h => h1 h.1
    have e : (if (decide ((s.size : Int) < 1)) = true then some true else some (decide (8 < (s.size : Int)))) = some true := by
      by_cases h2 : s.size < 1
      · have : decide ((s.size : Int) < 1) = true := by simp; omega
        simp [this]
      · have e1 : decide ((s.size : Int) < 1) = false := by simp; omega
        have e2 : decide (8 < (s.size : Int)) = true := by simp; omega
        simp [e1, e2]
    rw [e]
    simp [this]

theorem l2Name_eq (s : ByteArray) : s_l2Name s = some (decide (NameOK s)) := by
  unfold s_l2Name
  rw [l1In_eq]
  simp only [Option.bind_some]
  by_cases h1 : 1 ≤ s.size ∧ s.size ≤ 8
  · have e1 : decide ((1 : Int) ≤ (s.size : Int) ∧ (s.size : Int) ≤ 8) = true := by simp; omega
    have hsz := size_list s
    obtain ⟨x0, hx0⟩ := get_ex (l := s.data.toList) (i := 0) (by omega)
    have hg0 : s.data.toList.getD (0 : Int).toNat 0 = x0 := getD_of hx0
    have hc0 : chk ((0 : Int) ≤ 0 ∧ 0 < (s.size : Int)) = some () := chk_of (by omega)
    simp only [e1, Bool.not_true, Bool.false_eq_true, if_false, hc0, hg0, Option.bind_some]
    by_cases a0 : 97 ≤ (x0.toNat : Int) ∧ (x0.toNat : Int) ≤ 122
    · have b1 : decide ((x0.toNat : Int) < 97) = false := by simp; omega
      have b2 : decide ((122 : Int) < (x0.toNat : Int)) = false := by simp; omega
      simp only [b1, b2, Bool.false_eq_true, if_false, Option.bind_some]
      have key := all_loop s.data.toList ChOK (step := s_l2Name_L1 s) ?_ ?_ 0 0 rfl (by omega)
      · rcases key with ⟨g1, g2⟩ | ⟨g1, g2⟩
        · rw [g1, flb_go]
          have : NameOK s := ⟨h1, fun i c hc => g2 i c (by omega) hc⟩
          simp [this]
        · rw [g1, flb_ret]
          have : ¬ NameOK s := fun hn => g2 fun i c _ hc => hn.2 i c hc
          simp [this]
      · intro i x hx
        have hi := (List.getElem?_eq_some_iff.1 hx).1
        have hg : s.data.toList.getD (i : Int).toNat 0 = x := by rw [Int.toNat_natCast]; exact getD_of hx
        have hc : chk ((0 : Int) ≤ (i : Int) ∧ (i : Int) < (s.size : Int)) = some () := chk_of (by omega)
        have hlt : decide ((i : Int) < (s.size : Int)) = true := by simp; omega
        have h0 : i = 0 → x = x0 := fun h => by subst h; rw [hx0] at hx; cases hx; rfl
        unfold s_l2Name_L1
        simp only [hlt, if_true, hc, hg, Option.bind_some, w64_succ (n := i) (by omega)]
        unfold ChOK
        by_cases a1 : (x.toNat : Int) < 97
        · have hi0 : i ≠ 0 := fun h => by have := h0 h; subst this; omega
          by_cases c1 : (x.toNat : Int) < 48
          · right; refine ⟨by simp [a1, c1], by omega⟩
          · by_cases c2 : (57 : Int) < (x.toNat : Int)
            · right; refine ⟨by simp [a1, c1, c2], by omega⟩
            · left; refine ⟨by simp [a1, c1, c2], .inr ⟨hi0, by omega, by omega⟩⟩
        · by_cases a2 : (122 : Int) < (x.toNat : Int)
          · right
            have c1 : ¬ (x.toNat : Int) < 48 := by omega
            have c2 : (57 : Int) < (x.toNat : Int) := by omega
            refine ⟨by simp [a1, a2, c1, c2], by omega⟩
          · left; refine ⟨by simp [a1, a2], .inl ⟨by omega, by omega⟩⟩
      · unfold s_l2Name_L1
        rw [hsz]
        simp
    · have : ¬ NameOK s := fun hn => by
        have := hn.2 0 x0 hx0
        unfold ChOK at this
        omega
      have e : (if (decide ((x0.toNat : Int) < 97)) = true then some true else some (decide ((122 : Int) < (x0.toNat : Int)))) = some true := by
        by_cases h2 : (x0.toNat : Int) < 97
        · simp [h2]
        · have : (122 : Int) < (x0.toNat : Int) := by omega
          simp [h2, this]
      rw [e]
      simp [this]
  · have e1 : decide ((1 : Int) ≤ (s.size : Int) ∧ (s.size : Int) ≤ 8) = false := by simp; omega
    have : ¬ NameOK s := fun h => h1 h.1
    simp [e1, this]

/-! Searches -/
theorem index_str_eq (l : List ByteArray) (hl : l.length ≤ 4000000000) (v : ByteArray) : slices_Index_string l v = some (fixI (fun e => v.toList == e.toList) l) := by
  unfold slices_Index_string
  refine find_val l (fun e => v.toList == e.toList) (fun i x hx => ?_) (by unfold slices_Index_string_L1; simp)
  have hi := (List.getElem?_eq_some_iff.1 hx).1
  unfold slices_Index_string_L1
  have hlt : decide ((i : Int) < (l.length : Int)) = true := by simp; omega
  simp only [hlt, if_true, idx_nat, hx, Option.bind_some, w64_succ (n := i) (by omega)]
  split <;> rfl
theorem index_int_eq (l : List Int) (hl : l.length ≤ 4000000000) (v : Int) : slices_Index_int l v = some (fixI (fun e => v == e) l) := by
  unfold slices_Index_int
  refine find_val l (fun e => v == e) (fun i x hx => ?_) (by unfold slices_Index_int_L1; simp)
  have hi := (List.getElem?_eq_some_iff.1 hx).1
  unfold slices_Index_int_L1
  have hlt : decide ((i : Int) < (l.length : Int)) = true := by simp; omega
  simp only [hlt, if_true, idx_nat, hx, Option.bind_some, w64_succ (n := i) (by omega)]
  split <;> rfl
theorem l2Place_eq (x : Line) (hl : x.Stops.length ≤ 4000000000) (v : Int) : s_l2Place x v = some (fixI (fun e => v == e) x.Stops) := by
  have hc : fixI (fun e => v == e) x.Stops = fixI (fun e => e == v) x.Stops := fixI_congr _ fun e => BEq.comm
  rw [hc]
  unfold s_l2Place
  refine find_val x.Stops (fun e => e == v) (fun i y hx => ?_) (by unfold s_l2Place_L1; simp)
  have hi := (List.getElem?_eq_some_iff.1 hx).1
  unfold s_l2Place_L1
  have hlt : decide ((i : Int) < (x.Stops.length : Int)) = true := by simp; omega
  simp only [hlt, if_true, idx_nat, hx, Option.bind_some, w64_succ (n := i) (by omega)]
  split <;> rfl
theorem bl_comm (a b : List UInt8) : (a == b) = (b == a) := BEq.comm
theorem l2Find_eq (l : List ByteArray) (hl : l.length ≤ 4000000000) (v : ByteArray) : s_l2Find l v = some (fixI (fun e => v.toList == e.toList) l) := by
  rw [fixI_congr l (q := fun e => e.toList == v.toList) fun e => bl_comm _ _]
  unfold s_l2Find
  refine find_val l (fun e => e.toList == v.toList) (fun i x hx => ?_) (by unfold s_l2Find_L1; simp)
  have hi := (List.getElem?_eq_some_iff.1 hx).1
  unfold s_l2Find_L1
  have hlt : decide ((i : Int) < (l.length : Int)) = true := by simp; omega
  simp only [hlt, if_true, idx_nat, hx, Option.bind_some, w64_succ (n := i) (by omega)]
  split <;> rfl
theorem l2LineNamed_eq (n : Network) (hl : n.Lines.length ≤ 4000000000) (v : ByteArray) : s_l2LineNamed n v = some (fixI (fun e => v.toList == e.toList) (n.Lines.map (·.Name))) := by
  rw [fixI_map, fixI_congr n.Lines (q := fun e => e.Name.toList == v.toList) fun e => bl_comm _ _]
  unfold s_l2LineNamed
  refine find_val n.Lines (fun e => e.Name.toList == v.toList) (fun i x hx => ?_) (by unfold s_l2LineNamed_L1; simp)
  have hi := (List.getElem?_eq_some_iff.1 hx).1
  unfold s_l2LineNamed_L1
  have hlt : decide ((i : Int) < (n.Lines.length : Int)) = true := by simp; omega
  simp only [hlt, if_true, idx_nat, hx, Option.bind_some, w64_succ (n := i) (by omega)]
  split <;> rfl
def NamesP (l : List ByteArray) : Prop := ∀ (i : Nat) x, l[i]? = some x → NameOK x ∧ fixI (fun e => x.toList == e.toList) l = (i : Int)
def LineP (st : Nat) (x : Line) : Prop := (2 ≤ x.Stops.length ∧ x.Stops.length ≤ 6) ∧ (x.Runs.length : Int) = (x.Stops.length : Int) - 1 ∧
  (∀ (i : Nat) e, x.Stops[i]? = some e → (0 ≤ e ∧ e < (st : Int)) ∧ fixI (fun y => e == y) x.Stops = (i : Int)) ∧ ∀ (i : Nat) r, x.Runs[i]? = some r → 1 ≤ r ∧ r ≤ 60
def Good (n : Network) : Prop := (2 ≤ n.Stops.length ∧ n.Stops.length ≤ 8) ∧ (1 ≤ n.Lines.length ∧ n.Lines.length ≤ 5) ∧ NamesP n.Stops ∧ NamesP (n.Lines.map (·.Name)) ∧ ∀ (i : Nat) x, n.Lines[i]? = some x → LineP n.Stops.length x
noncomputable instance (l : List ByteArray) : Decidable (NamesP l) := Classical.propDecidable _
noncomputable instance (st : Nat) (x : Line) : Decidable (LineP st x) := Classical.propDecidable _
noncomputable instance (n : Network) : Decidable (Good n) := Classical.propDecidable _
/-- No list is too long. -/
def Bd (n : Network) : Prop := n.Stops.length ≤ 1000 ∧ n.Lines.length ≤ 1000 ∧ ∀ x ∈ n.Lines, x.Stops.length ≤ 1000 ∧ x.Runs.length ≤ 1000

theorem areNames_eq (l : List ByteArray) (hl : l.length ≤ 1000) : i_areNames l = some (decide (NamesP l)) := by
  unfold i_areNames
  rw [all_val (hd := Classical.propDecidable _) l (fun i x => NameOK x ∧ fixI (fun e => x.toList == e.toList) l = (i : Int)) (fun i x hx => ?_) (by unfold i_areNames_L1; simp)]
  · by_cases h : NamesP l
    · rw [if_pos (show ∀ (i : Nat) x, l[i]? = some x → NameOK x ∧ fixI (fun e => x.toList == e.toList) l = (i : Int) from h)]; simp [h]
    · rw [if_neg (show ¬ ∀ (i : Nat) x, l[i]? = some x → NameOK x ∧ fixI (fun e => x.toList == e.toList) l = (i : Int) from h)]; simp [h]
  · have hi := (List.getElem?_eq_some_iff.1 hx).1
    unfold i_areNames_L1
    have hlt : decide ((i : Int) < (l.length : Int)) = true := by simp; omega
    simp only [hlt, if_true, idx_nat, hx, Option.bind_some, isName_eq, index_str_eq l (by omega), w64_succ (n := i) (by omega)]
    by_cases h1 : NameOK x
    · by_cases h2 : fixI (fun e => x.toList == e.toList) l = (i : Int)
      · left; simp [h1, h2]
      · right; simp [h1, h2]
    · right; simp [h1]

theorem lineNames_eq (n : Network) (hl : n.Lines.length ≤ 1000) : i_lineNames n = some (n.Lines.map (·.Name)) := by
  unfold i_lineNames
  rw [chk_of (by omega)]
  simp only [Option.bind_some]
  rw [fill_loop (fun x : Line => x.Name) n.Lines _ (by simp) (fun i a x y ha hy hx => ?_) (fun a ha => ?_)]
  · rfl
  · have hi := (List.getElem?_eq_some_iff.1 hx).1
    unfold i_lineNames_L1
    have hlt : decide ((i : Int) < (n.Lines.length : Int)) = true := by simp; omega
    simp only [hlt, if_true, idx_nat, hx, hy, Option.bind_some, w64_succ (n := i) (by omega), Int.toNat_natCast]
  · unfold i_lineNames_L1; simp

theorem isStop_eq (n : Network) (e : Int) : i_isStop n e = some (decide (0 ≤ e ∧ e < (n.Stops.length : Int))) := by
  unfold i_isStop
  by_cases h : 0 ≤ e <;> simp [h]
theorem isLine_eq (n : Network) (e : Int) : i_isLine n e = some (decide (0 ≤ e ∧ e < (n.Lines.length : Int))) := by
  unfold i_isLine
  by_cases h : 0 ≤ e <;> simp [h]

theorem isValidLine_eq (n : Network) (l : Line) (h1 : l.Stops.length ≤ 1000) (h2 : l.Runs.length ≤ 1000) : i_isValidLine n l = some (decide (LineP n.Stops.length l)) := by
  unfold i_isValidLine
  rw [within_eq]
  have e0 : w64 ((l.Stops.length : Int) - 1) = (l.Stops.length : Int) - 1 := w64_id (by omega)
  simp only [Option.bind_some, e0]
  by_cases a1 : 2 ≤ l.Stops.length ∧ l.Stops.length ≤ 6
  · have d1 : decide ((2 : Int) ≤ (l.Stops.length : Int) ∧ (l.Stops.length : Int) ≤ 6) = true := by simp; omega
    simp only [d1, Bool.not_true, Bool.false_eq_true, if_false]
    by_cases a2 : (l.Runs.length : Int) = (l.Stops.length : Int) - 1
    · have d2 : ((l.Runs.length : Int) != (l.Stops.length : Int) - 1) = false := by simp [a2]
      simp only [d2, Option.bind_some, Bool.false_eq_true, if_false]
      rw [all_val (hd := Classical.propDecidable _) l.Stops (fun i e => (0 ≤ e ∧ e < (n.Stops.length : Int)) ∧ fixI (fun y => e == y) l.Stops = (i : Int)) (fun i x hx => ?_) (by unfold i_isValidLine_L1; simp)]
      · rw [all_val (hd := Classical.propDecidable _) l.Runs (fun i r => 1 ≤ r ∧ r ≤ 60) (fun i x hx => ?_) (by unfold i_isValidLine_L2; simp)]
        · by_cases b1 : ∀ (i : Nat) e, l.Stops[i]? = some e → (0 ≤ e ∧ e < (n.Stops.length : Int)) ∧ fixI (fun y => e == y) l.Stops = (i : Int)
          · rw [if_pos b1]
            by_cases b2 : ∀ (i : Nat) r, l.Runs[i]? = some r → 1 ≤ r ∧ r ≤ 60
            · rw [if_pos b2]
              have : LineP n.Stops.length l := ⟨a1, a2, b1, b2⟩
              simp [this]
            · rw [if_neg b2]
              have : ¬ LineP n.Stops.length l := fun h => b2 h.2.2.2
              simp [this]
          · rw [if_neg b1]
            have : ¬ LineP n.Stops.length l := fun h => b1 h.2.2.1
            simp [this]
        · have hi := (List.getElem?_eq_some_iff.1 hx).1
          unfold i_isValidLine_L2
          have hlt : decide ((i : Int) < (l.Runs.length : Int)) = true := by simp; omega
          simp only [hlt, if_true, idx_nat, hx, Option.bind_some, within_eq, w64_succ (n := i) (by omega)]
          by_cases b : 1 ≤ x ∧ x ≤ 60
          · left; simp [b]
          · right; simp [b]
      · have hi := (List.getElem?_eq_some_iff.1 hx).1
        unfold i_isValidLine_L1
        have hlt : decide ((i : Int) < (l.Stops.length : Int)) = true := by simp; omega
        simp only [hlt, if_true, idx_nat, hx, Option.bind_some, isStop_eq, index_int_eq l.Stops (by omega), w64_succ (n := i) (by omega)]
        by_cases b1 : 0 ≤ x ∧ x < (n.Stops.length : Int)
        · by_cases b2 : fixI (fun y => x == y) l.Stops = (i : Int)
          · left; simp [b1, b2]
          · right; simp [b1, b2]
        · right; simp [b1]
    · have d2 : ((l.Runs.length : Int) != (l.Stops.length : Int) - 1) = true := by simp [a2]
      have : ¬ LineP n.Stops.length l := fun h => a2 h.2.1
      simp [d2, this]
  · have d1 : decide ((2 : Int) ≤ (l.Stops.length : Int) ∧ (l.Stops.length : Int) ≤ 6) = false := by simp; omega
    have : ¬ LineP n.Stops.length l := fun h => a1 h.1
    simp [d1, this]

theorem l2Line_eq (l : Line) (st : Nat) (hst : st ≤ 1000) (h1 : l.Stops.length ≤ 1000) (h2 : l.Runs.length ≤ 1000) : s_l2Line l (st : Int) = some (decide (NameOK l.Name ∧ LineP st l)) := by
  unfold s_l2Line
  rw [l2Name_eq]
  have e0 : w64 ((l.Stops.length : Int) - 1) = (l.Stops.length : Int) - 1 := w64_id (by omega)
  have e1 : w64 ((st : Int) - 1) = (st : Int) - 1 := w64_id (by omega)
  simp only [Option.bind_some, e0, l1In_eq]
  by_cases a0 : NameOK l.Name
  · simp only [a0, decide_true, Bool.not_true, Bool.false_eq_true, if_false, true_and]
    by_cases a1 : 2 ≤ l.Stops.length ∧ l.Stops.length ≤ 6
    · have d1 : decide ((2 : Int) ≤ (l.Stops.length : Int) ∧ (l.Stops.length : Int) ≤ 6) = true := by simp; omega
      simp only [d1, Bool.not_true, Bool.false_eq_true, if_false]
      by_cases a2 : (l.Runs.length : Int) = (l.Stops.length : Int) - 1
      · have d2 : ((l.Runs.length : Int) != (l.Stops.length : Int) - 1) = false := by simp [a2]
        simp only [d2, Option.bind_some, Bool.false_eq_true, if_false]
        rw [all_val (hd := Classical.propDecidable _) l.Stops (fun i e => (0 ≤ e ∧ e < (st : Int)) ∧ fixI (fun y => e == y) l.Stops = (i : Int)) (fun i x hx => ?_) (by unfold s_l2Line_L1; simp)]
        · rw [all_val (hd := Classical.propDecidable _) l.Runs (fun i r => 1 ≤ r ∧ r ≤ 60) (fun i x hx => ?_) (by unfold s_l2Line_L2; simp)]
          · by_cases b1 : ∀ (i : Nat) e, l.Stops[i]? = some e → (0 ≤ e ∧ e < (st : Int)) ∧ fixI (fun y => e == y) l.Stops = (i : Int)
            · rw [if_pos b1]
              by_cases b2 : ∀ (i : Nat) r, l.Runs[i]? = some r → 1 ≤ r ∧ r ≤ 60
              · rw [if_pos b2]
                have : LineP st l := ⟨a1, a2, b1, b2⟩
                simp [this]
              · rw [if_neg b2]
                have : ¬ LineP st l := fun h => b2 h.2.2.2
                simp [this]
            · rw [if_neg b1]
              have : ¬ LineP st l := fun h => b1 h.2.2.1
              simp [this]
          · have hi := (List.getElem?_eq_some_iff.1 hx).1
            unfold s_l2Line_L2
            have hlt : decide ((i : Int) < (l.Runs.length : Int)) = true := by simp; omega
            simp only [hlt, if_true, idx_nat, hx, Option.bind_some, l1In_eq, w64_succ (n := i) (by omega)]
            by_cases b : 1 ≤ x ∧ x ≤ 60
            · left; simp [b]
            · right; simp [b]
        · have hi := (List.getElem?_eq_some_iff.1 hx).1
          unfold s_l2Line_L1
          have hlt : decide ((i : Int) < (l.Stops.length : Int)) = true := by simp; omega
          simp only [hlt, if_true, idx_nat, hx, Option.bind_some, l1In_eq, e1, l2Place_eq l (by omega), w64_succ (n := i) (by omega)]
          by_cases b1 : 0 ≤ x ∧ x < (st : Int)
          · have d3 : decide (0 ≤ x ∧ x ≤ (st : Int) - 1) = true := by simp; omega
            by_cases b2 : fixI (fun y => x == y) l.Stops = (i : Int)
            · left; simp only [d3]; simp [b1, b2]
            · right; simp only [d3]; simp [b1, b2]
          · have d3 : decide (0 ≤ x ∧ x ≤ (st : Int) - 1) = false := by simp; omega
            right; simp only [d3]; simp [b1]
      · have d2 : ((l.Runs.length : Int) != (l.Stops.length : Int) - 1) = true := by simp [a2]
        have : ¬ LineP st l := fun h => a2 h.2.1
        simp [d2, this]
    · have d1 : decide ((2 : Int) ≤ (l.Stops.length : Int) ∧ (l.Stops.length : Int) ≤ 6) = false := by simp; omega
      have : ¬ LineP st l := fun h => a1 h.1
      simp [d1, this]
  · simp [a0]

theorem valid_eq (n : Network) (h : Bd n) : i_IsValidNetwork n = some (decide (Good n)) := by
  obtain ⟨h1, h2, h3⟩ := h
  unfold i_IsValidNetwork
  simp only [within_eq, Option.bind_some, areNames_eq n.Stops h1, lineNames_eq n h2, areNames_eq (n.Lines.map (·.Name)) (by simpa using h2)]
  by_cases a1 : 2 ≤ n.Stops.length ∧ n.Stops.length ≤ 8
  · have d1 : decide ((2 : Int) ≤ (n.Stops.length : Int) ∧ (n.Stops.length : Int) ≤ 8) = true := by simp; omega
    simp only [d1, Bool.not_true, Bool.false_eq_true, if_false]
    by_cases a2 : 1 ≤ n.Lines.length ∧ n.Lines.length ≤ 5
    · have d2 : decide ((1 : Int) ≤ (n.Lines.length : Int) ∧ (n.Lines.length : Int) ≤ 5) = true := by simp; omega
      simp only [d2, Bool.not_true, Bool.false_eq_true, if_false]
      by_cases a3 : NamesP n.Stops
      · simp only [a3, decide_true, Bool.not_true, Bool.false_eq_true, if_false]
        by_cases a4 : NamesP (n.Lines.map (·.Name))
        · simp only [a4, decide_true, Bool.not_true, Option.bind_some, Bool.false_eq_true, if_false]
          rw [all_val (hd := Classical.propDecidable _) n.Lines (fun i x => LineP n.Stops.length x) (fun i x hx => ?_) (by unfold i_IsValidNetwork_L1; simp)]
          · by_cases b1 : ∀ (i : Nat) x, n.Lines[i]? = some x → LineP n.Stops.length x
            · rw [if_pos b1]
              have : Good n := ⟨a1, a2, a3, a4, b1⟩
              simp [this]
            · rw [if_neg b1]
              have : ¬ Good n := fun h => b1 h.2.2.2.2
              simp [this]
          · have hi := (List.getElem?_eq_some_iff.1 hx).1
            obtain ⟨g1, g2⟩ := h3 x (List.mem_of_getElem? hx)
            unfold i_IsValidNetwork_L1
            have hlt : decide ((i : Int) < (n.Lines.length : Int)) = true := by simp; omega
            simp only [hlt, if_true, idx_nat, hx, Option.bind_some, isValidLine_eq n x g1 g2, w64_succ (n := i) (by omega)]
            by_cases b : LineP n.Stops.length x
            · left; simp [b]
            · right; simp [b]
        · have : ¬ Good n := fun h => a4 h.2.2.2.1
          simp [a4, this]
      · have : ¬ Good n := fun h => a3 h.2.2.1
        simp [a3, this]
    · have d2 : decide ((1 : Int) ≤ (n.Lines.length : Int) ∧ (n.Lines.length : Int) ≤ 5) = false := by simp; omega
      have : ¬ Good n := fun h => a2 h.2.1
      simp [d2, this]
  · have d1 : decide ((2 : Int) ≤ (n.Stops.length : Int) ∧ (n.Stops.length : Int) ≤ 8) = false := by simp; omega
    have : ¬ Good n := fun h => a1 h.1
    simp [d1, this]

theorem good_eq (n : Network) (h : Bd n) : s_l2Good n = some (decide (Good n)) := by
  obtain ⟨h1, h2, h3⟩ := h
  unfold s_l2Good
  simp only [l1In_eq, Option.bind_some]
  by_cases a1 : 2 ≤ n.Stops.length ∧ n.Stops.length ≤ 8
  · have d1 : decide ((2 : Int) ≤ (n.Stops.length : Int) ∧ (n.Stops.length : Int) ≤ 8) = true := by simp; omega
    simp only [d1, Bool.not_true, Bool.false_eq_true, if_false]
    by_cases a2 : 1 ≤ n.Lines.length ∧ n.Lines.length ≤ 5
    · have d2 : decide ((1 : Int) ≤ (n.Lines.length : Int) ∧ (n.Lines.length : Int) ≤ 5) = true := by simp; omega
      simp only [d2, Bool.not_true, Option.bind_some, Bool.false_eq_true, if_false]
      rw [all_val (hd := Classical.propDecidable _) n.Stops (fun i x => NameOK x ∧ fixI (fun e => x.toList == e.toList) n.Stops = (i : Int)) (fun i x hx => ?_) (by unfold s_l2Good_L1; simp)]
      · rw [all_val (hd := Classical.propDecidable _) n.Lines (fun i x => (NameOK x.Name ∧ LineP n.Stops.length x) ∧ fixI (fun e => x.Name.toList == e.toList) (n.Lines.map (·.Name)) = (i : Int)) (fun i x hx => ?_) (by unfold s_l2Good_L2; simp)]
        · by_cases b1 : NamesP n.Stops
          · rw [if_pos (show ∀ (i : Nat) x, n.Stops[i]? = some x → NameOK x ∧ fixI (fun e => x.toList == e.toList) n.Stops = (i : Int) from b1)]
            by_cases b2 : ∀ (i : Nat) x, n.Lines[i]? = some x → (NameOK x.Name ∧ LineP n.Stops.length x) ∧ fixI (fun e => x.Name.toList == e.toList) (n.Lines.map (·.Name)) = (i : Int)
            · rw [if_pos b2]
              have : Good n := ⟨a1, a2, b1, fun i y hy => by
                rw [List.getElem?_map] at hy
                obtain ⟨x, hx, rfl⟩ := Option.map_eq_some_iff.1 hy
                exact ⟨(b2 i x hx).1.1, (b2 i x hx).2⟩, fun i x hx => (b2 i x hx).1.2⟩
              simp [this]
            · rw [if_neg b2]
              have : ¬ Good n := fun h => b2 fun i x hx => by
                have h4 := h.2.2.2.1 i x.Name (by rw [List.getElem?_map, hx]; rfl)
                exact ⟨⟨h4.1, h.2.2.2.2 i x hx⟩, h4.2⟩
              simp [this]
          · rw [if_neg (show ¬ ∀ (i : Nat) x, n.Stops[i]? = some x → NameOK x ∧ fixI (fun e => x.toList == e.toList) n.Stops = (i : Int) from b1)]
            have : ¬ Good n := fun h => b1 h.2.2.1
            simp [this]
        · have hi := (List.getElem?_eq_some_iff.1 hx).1
          obtain ⟨g1, g2⟩ := h3 x (List.mem_of_getElem? hx)
          unfold s_l2Good_L2
          have hlt : decide ((i : Int) < (n.Lines.length : Int)) = true := by simp; omega
          simp only [hlt, if_true, idx_nat, hx, Option.bind_some, l2Line_eq x n.Stops.length h1 g1 g2, l2LineNamed_eq n (by omega), w64_succ (n := i) (by omega)]
          by_cases b1 : NameOK x.Name ∧ LineP n.Stops.length x
          · by_cases b2 : fixI (fun e => x.Name.toList == e.toList) (n.Lines.map (·.Name)) = (i : Int)
            · left; simp [b1, b2]
            · right; simp [b1, b2]
          · right; simp [b1]
      · have hi := (List.getElem?_eq_some_iff.1 hx).1
        unfold s_l2Good_L1
        have hlt : decide ((i : Int) < (n.Stops.length : Int)) = true := by simp; omega
        simp only [hlt, if_true, idx_nat, hx, Option.bind_some, l2Name_eq, l2Find_eq n.Stops (by omega), w64_succ (n := i) (by omega)]
        by_cases b1 : NameOK x
        · by_cases b2 : fixI (fun e => x.toList == e.toList) n.Stops = (i : Int)
          · left; simp [b1, b2]
          · right; simp [b1, b2]
        · right; simp [b1]
    · have d2 : decide ((1 : Int) ≤ (n.Lines.length : Int) ∧ (n.Lines.length : Int) ≤ 5) = false := by simp; omega
      have : ¬ Good n := fun h => a2 h.2.1
      simp [d2, this]
  · have d1 : decide ((2 : Int) ≤ (n.Stops.length : Int) ∧ (n.Stops.length : Int) ≤ 8) = false := by simp; omega
    have : ¬ Good n := fun h => a1 h.1
    simp [d1, this]
/-! Copies, reversed lists, the reversed line. -/
theorem l1Own_eq (l : List Int) (h : l.length ≤ 1000) : s_l1Own_f l = some l := by
  unfold s_l1Own_f
  rw [chk_of (by simp; omega)]; rfl
theorem l2Own_eq (n : Network) (h : Bd n) : s_l2Own n = some n := by
  obtain ⟨h1, h2, h3⟩ := h
  unfold s_l2Own
  rw [chk_of (by simp; omega)]
  simp only [Option.bind_some]
  rw [app_loop (fun x : Line => x) n.Lines (fun i a x ha hx => ?_) (fun a ha => ?_)]
  · simp only [Option.bind_some, List.map_id', List.nil_append]
  · have hi := (List.getElem?_eq_some_iff.1 hx).1
    obtain ⟨g1, g2⟩ := h3 x (List.mem_of_getElem? hx)
    unfold s_l2Own_L1
    have hlt : decide ((i : Int) < (n.Lines.length : Int)) = true := by simp; omega
    have hch : ∀ y : Line, chk (a.length + ([y] : List Line).length ≤ 4294967296) = some () := fun y => chk_of (by simp; omega)
    simp only [hlt, if_true, idx_nat, hx, Option.bind_some, l1Own_eq _ g1, l1Own_eq _ g2, hch, w64_succ (n := i) (by omega)]
  · unfold s_l2Own_L1; simp
theorem l2Own_t_eq (n : Network) (h : Bd n) : s_l2Own_t n = some n := by
  have : s_l2Own_t n = s_l2Own n := rfl
  rw [this]; exact l2Own_eq n h

theorem l2Back_eq (s : List Int) (hs : s.length ≤ 1000) : s_l2Back s = some s.reverse := by
  unfold s_l2Back
  have e0 : w64 ((s.length : Int) - 1) = (s.length : Int) - 1 := w64_id (by omega)
  rw [e0]
  have h := iter_rule (step := s_l2Back_L1 s) (fun m a => ∃ j : Nat, a.1 = (s.length : Int) - 1 - j ∧ m + j = s.length ∧ a.2 = s.reverse.take j) (fun b => b = s.reverse) ?_ (k := s.length) (a := ((s.length : Int) - 1, [])) ⟨0, by simp, by omega, by simp⟩
  · obtain ⟨b, hb, rfl⟩ := h
    rw [hb]; rfl
  rintro m ⟨v, i⟩ ⟨j, hv, hm, hi⟩
  simp only at hv hi
  subst hv
  by_cases hlt : j < s.length
  · left
    have ev : (s.length : Int) - 1 - j = ((s.length - 1 - j : Nat) : Int) := by omega
    rw [ev]
    obtain ⟨e, he⟩ := get_ex (l := s) (i := s.length - 1 - j) (by omega)
    have hd : decide ((0 : Int) ≤ ((s.length - 1 - j : Nat) : Int)) = true := by simp
    have hlen : i.length = j := by rw [hi]; simp; omega
    have hch : chk (i.length + ([e] : List Int).length ≤ 4294967296) = some () := chk_of (by simp; omega)
    have ev2 : w64 (((s.length - 1 - j : Nat) : Int) - 1) = (s.length : Int) - 1 - ((j + 1 : Nat) : Int) := by rw [w64_id (by omega)]; omega
    refine ⟨((s.length : Int) - 1 - ((j + 1 : Nat) : Int), i ++ [e]), m - 1, ?_, by omega, j + 1, rfl, by omega, ?_⟩
    · unfold s_l2Back_L1
      simp only [hd, if_true, idx_nat, he, hch, Option.bind_some, ev2]
    · show i ++ [e] = _
      rw [take_succ (x := e) (by rw [List.getElem?_reverse hlt]; exact he), hi]
  · right
    have ej : j = s.length := by omega
    subst ej
    have hd : decide ((0 : Int) ≤ (s.length : Int) - 1 - (s.length : Int)) = false := by simp; omega
    refine ⟨i, by unfold s_l2Back_L1; simp only [hd, Bool.false_eq_true, if_false], ?_⟩
    rw [hi, List.take_of_length_le (by simp)]
theorem l2BackF_eq (s : List Int) (hs : s.length ≤ 1000) : s_l2Back_f s = some s.reverse := l2Back_eq s hs

/-- The network with the reversed line. -/
def Rev (n : Network) (e : Line) (name : ByteArray) : Network := ⟨n.Stops, n.Lines ++ [⟨name, e.Stops.reverse, e.Runs.reverse⟩]⟩
def Asked (n : Network) (line : Int) (name : ByteArray) : Prop := Good n ∧ 0 ≤ line ∧ ∃ e, n.Lines[line.toNat]? = some e ∧ Good (Rev n e name)
theorem good_lines {n : Network} (h : Good n) : n.Lines.length ≤ 5 := h.2.1.2
theorem rev_bd {n : Network} {e : Line} {name : ByteArray} (h : Bd n) (hg : Good n) (he : e ∈ n.Lines) : Bd (Rev n e name) := by
  obtain ⟨h1, h2, h3⟩ := h
  have := good_lines hg
  refine ⟨h1, by simp [Rev]; omega, fun x hx => ?_⟩
  rcases List.mem_append.1 hx with hx | hx
  · exact h3 x hx
  · simp at hx
    subst hx
    obtain ⟨g1, g2⟩ := h3 e he
    exact ⟨by simpa using g1, by simpa using g2⟩

/-! The draws: they answer, with bounds. -/
/-- A drawn line. -/
def LB (x : Line) : Prop := (2 ≤ x.Stops.length ∧ x.Stops.length ≤ 10) ∧ 1 ≤ x.Runs.length ∧ x.Runs.length ≤ 10
def NB (n : Network) : Prop := (2 ≤ n.Stops.length ∧ n.Stops.length ≤ 6) ∧ (1 ≤ n.Lines.length ∧ n.Lines.length ≤ 8) ∧ ∀ x ∈ n.Lines, LB x
theorem NB.bd {n : Network} (h : NB n) : Bd n := ⟨by have := h.1; omega, by have := h.2.1; omega, fun x hx => by have := h.2.2 x hx; unfold LB at this; omega⟩
theorem l1Num_ok (n : Int) (h0 : 0 ≤ n) (h1 : n < 10) : ∃ r, s_l1Num n = some r ∧ r.size ≤ 10 := by
  have e : s_l1Num n = s_l1Num_F (s_l1Num_k 4294967295) n := rfl
  rw [e]
  unfold s_l1Num_F
  have d1 : decide (n < 0) = false := by simp; omega
  have d2 : decide (n < 10) = true := by simp; omega
  have e1 : w64 (n + 1) = n + 1 := w64_id (by omega)
  have hs : (str [48, 49, 50, 51, 52, 53, 54, 55, 56, 57]).size = 10 := rfl
  simp only [d1, d2, Bool.false_eq_true, if_false, if_true, e1, hs]
  rw [chk_of (by omega)]
  refine ⟨_, rfl, ?_⟩
  rw [ByteArray.size_extract, hs]
  omega

theorem line_ok {k : Nat} {c : l1Cur} (name : ByteArray) (stops : Int) (hs : 2 ≤ stops ∧ stops ≤ 1000) (h : Cur k c) (hk : k ≤ 1000000000) : ∃ r, s_l1Cur_line c name stops = some r ∧ Cur (k + 40) r.2 ∧ LB r.1 := by
  unfold s_l1Cur_line
  obtain ⟨r, hr, hc, h0, h1⟩ := pick_ok stops h (by omega)
  obtain ⟨r1, hr1, hc1, h10, h11⟩ := pick_ok 3 hc (by omega)
  simp only [hr, hr1, Option.bind_some]
  have e1 : w64 (2 + r1.1) = ((2 + r1.1.toNat : Nat) : Int) := by rw [w64_id (by omega)]; omega
  rw [e1]
  have loop : ∃ b, iter (s_l1Cur_line_L1 name stops) (r.1, ((2 + r1.1.toNat : Nat) : Int), r1.2.code_, r1.2.at_, r1.2.seed_.v, []) = some b ∧ (Cur (k + 4 + 2 * 4) ⟨b.1, b.2.1, ⟨b.2.2.1⟩⟩ ∧ 1 ≤ b.2.2.2.length ∧ b.2.2.2.length ≤ 4) := by
    refine iter_rule (fun m a => (0 ≤ a.1 ∧ a.1 < stops) ∧ a.2.1 = (m : Int) ∧ m + a.2.2.2.2.2.length ≤ 4 ∧ (1 ≤ m ∨ 1 ≤ a.2.2.2.2.2.length) ∧ Cur (k + 4 + 2 * (4 - m)) ⟨a.2.2.1, a.2.2.2.1, ⟨a.2.2.2.2.1⟩⟩) _ ?_ (k := 2 + r1.1.toNat) ⟨⟨h0, by show r.1 < stops; omega⟩, rfl, by simp; omega, .inl (by omega), hc1.mono (by omega)⟩
    rintro m ⟨v, v1, v2, v3, v4, v5⟩ ⟨hv, hv1, hl, hne, hcur⟩
    simp only at hv hv1 hl hne hcur
    subst hv1
    unfold s_l1Cur_line_L1
    cases m with
    | zero => right; exact ⟨_, by simp; rfl, hcur, by show 1 ≤ v5.length; omega, by show v5.length ≤ 4; omega⟩
    | succ m =>
      left
      have hpos : decide ((0 : Int) < ((m + 1 : Nat) : Int)) = true := by simp
      obtain ⟨r3, hr3, hc3, h30, h31⟩ := pick_ok 2 hcur (by omega)
      have hpl := l2Place_eq (⟨name, v5, []⟩ : Line) (by show v5.length ≤ _; omega) v
      have hch : chk (v5.length + ([v] : List Int).length ≤ 4294967296) = some () := chk_of (by simp; omega)
      have hne0 : chk (stops ≠ 0) = some () := chk_of (by omega)
      have w1 : w64 (v + 1) = v + 1 := w64_id (by omega)
      have w2 : w64 (v + 1 + r3.1) = v + 1 + r3.1 := w64_id (by omega)
      have ht := tmod_rng (a := v + 1 + r3.1) (b := stops) (by omega) (by omega)
      simp only [hpos, if_true, hpl, hch, hr3, hne0, w1, w2, Option.bind_some]
      have w3 : w64 (((m + 1 : Nat) : Int) - 1) = (m : Int) := w64_pred (by omega)
      split
      · refine ⟨_, m, by simp only [Option.bind_some]; rfl, by omega, ht, w3, ?_, .inr ?_, ?_⟩
        · simp; omega
        · simp
        · exact hc3.mono (by omega)
      · rename_i hn
        refine ⟨_, m, by simp only [Option.bind_some]; rfl, by omega, ht, w3, ?_, .inr ?_, ?_⟩
        · show m + v5.length ≤ 4; omega
        · show 1 ≤ v5.length
          cases v5 with
          | nil => simp [fixI] at hn
          | cons a l => simp
        · exact hc3.mono (by omega)
  obtain ⟨⟨v7, v8, v9, v10⟩, hb, hcb, hlb⟩ := loop
  simp only at hcb hlb
  rw [hb]
  simp only [Option.bind_some]
  -- at least two stops
  have two : ∃ v11 : List Int, (if decide ((v10.length : Int) < 2) = true then (idx v10 0).bind fun e1 => (chk ((stops : Int) ≠ 0)).bind fun u4 => (chk (v10.length + ([((w64 (e1 + 1)).tmod stops)] : List Int).length ≤ 4294967296)).bind fun u5 => some (v10 ++ ([((w64 (e1 + 1)).tmod stops)] : List Int)) else some v10) = some v11 ∧ 2 ≤ v11.length ∧ v11.length ≤ 5 := by
    by_cases h2 : (v10.length : Int) < 2
    · obtain ⟨e, he, _⟩ := idx_lt (l := v10) (i := 0) (by omega) (by omega)
      have hch : ∀ y : Int, chk (v10.length + ([y] : List Int).length ≤ 4294967296) = some () := fun y => chk_of (by simp; omega)
      have hne0 : chk (stops ≠ 0) = some () := chk_of (by omega)
      refine ⟨v10 ++ [(w64 (e + 1)).tmod stops], by simp only [h2, decide_true, if_true, he, hne0, hch, Option.bind_some], ?_, ?_⟩
      · simp; omega
      · simp; omega
    · exact ⟨v10, by simp [h2], by omega, by omega⟩
  obtain ⟨v11, hv11, l1, l2⟩ := two
  rw [hv11]
  simp only [Option.bind_some]
  have loop2 : ∃ b, iter (s_l1Cur_line_L2 v11) (1, v7, v8, v9, []) = some b ∧ (Cur (k + 40) ⟨b.1, b.2.1, ⟨b.2.2.1⟩⟩ ∧ b.2.2.2.length + 1 = v11.length) := by
    refine iter_rule (fun m a => ∃ i : Nat, a.1 = (i : Int) ∧ m + i = v11.length ∧ a.2.2.2.2.length + 1 = i ∧ Cur (k + 12 + 2 * i) ⟨a.2.1, a.2.2.1, ⟨a.2.2.2.1⟩⟩) _ ?_ (k := v11.length - 1) ⟨1, rfl, by omega, rfl, hcb.mono (by omega)⟩
    rintro m ⟨v12, v13, v14, v15, v16⟩ ⟨i, hi, hm, hl, hcur⟩
    simp only at hi hl hcur
    subst hi
    unfold s_l1Cur_line_L2
    by_cases hlt : i < v11.length
    · left
      have hd : decide ((i : Int) < (v11.length : Int)) = true := by simp; omega
      obtain ⟨r5, hr5, hc5, _⟩ := pick_ok 12 hcur (by omega)
      have hch : ∀ y : Int, chk (v16.length + ([y] : List Int).length ≤ 4294967296) = some () := fun y => chk_of (by simp; omega)
      refine ⟨_, m - 1, by simp only [hd, if_true, hr5, hch, Option.bind_some, w64_succ (n := i) (by omega)]; rfl, by omega, i + 1, rfl, by omega, ?_, ?_⟩
      · simp; omega
      · exact hc5.mono (by omega)
    · right
      have hd : decide ((i : Int) < (v11.length : Int)) = false := by simp; omega
      refine ⟨_, by simp only [hd, Bool.false_eq_true, if_false]; rfl, ?_, ?_⟩
      · exact hcur.mono (by omega)
      · show v16.length + 1 = _; omega
  obtain ⟨⟨v17, v18, v19, v20⟩, hb2, hcb2, hl2⟩ := loop2
  simp only at hcb2 hl2
  rw [hb2]
  simp only [Option.bind_some]
  exact ⟨_, rfl, hcb2, ⟨l1, by show v11.length ≤ 10; omega⟩, by show 1 ≤ v20.length; omega, by show v20.length ≤ 10; omega⟩
theorem lineF_ok {k : Nat} {c : l1Cur} (name : ByteArray) (stops : Int) (hs : 2 ≤ stops ∧ stops ≤ 1000) (h : Cur k c) (hk : k ≤ 1000000000) : ∃ r, s_l1Cur_line_f c name stops = some r ∧ Cur (k + 40) r.2 ∧ LB r.1 := line_ok name stops hs h hk

theorem six_len (i : Nat) (h2 : 2 ≤ i) (h6 : i ≤ 6) (l : List ByteArray) (hl : l.length = 6) : 2 ≤ ((l.take i).drop (0 : Int).toNat).length ∧ ((l.take i).drop (0 : Int).toNat).length ≤ 6 := by
  simp; omega

theorem networkT_ok {k : Nat} {c : l1Cur} (h : Cur k c) (hk : k ≤ 500000000) : ∃ r, s_l1Cur_network_t c = some r ∧ Cur (k + 300) r.2 ∧ NB r.1 := by
  unfold s_l1Cur_network_t
  obtain ⟨r, hr, hc, h0, h1⟩ := pick_ok 5 h (by omega)
  have e1 : w64 (2 + r.1) = 2 + r.1 := w64_id (by omega)
  have hsix : ([(str [112, 111, 114, 116]), (str [109, 105, 108, 108]), (str [112, 97, 114, 107]), (str [104, 97, 108, 108]), (str [100, 111, 99, 107]), (str [102, 97, 105, 114])] : List ByteArray).length = 6 := rfl
  simp only [hr, Option.bind_some, e1, hsix]
  rw [chk_of (by omega)]
  obtain ⟨r1, hr1, hc1, h10, h11⟩ := pick_ok 3 hc (by omega)
  have e2 : w64 (1 + r1.1) = ((1 + r1.1.toNat : Nat) : Int) := by rw [w64_id (by omega)]; omega
  simp only [hr1, Option.bind_some, e2]
  have loop : ∃ b, iter (s_l1Cur_network_t_L1 r) (((1 + r1.1.toNat : Nat) : Int), r1.2.code_, r1.2.at_, r1.2.seed_.v, []) = some b ∧ (Cur (k + 4 + 40 * 3) ⟨b.1, b.2.1, ⟨b.2.2.1⟩⟩ ∧ (1 ≤ b.2.2.2.length ∧ b.2.2.2.length ≤ 3) ∧ ∀ x ∈ b.2.2.2, LB x) := by
    refine iter_rule (fun m a => a.1 = (m : Int) ∧ m + a.2.2.2.2.length ≤ 3 ∧ 1 ≤ m + a.2.2.2.2.length ∧ (∀ x ∈ a.2.2.2.2, LB x) ∧ Cur (k + 4 + 40 * (3 - m)) ⟨a.2.1, a.2.2.1, ⟨a.2.2.2.1⟩⟩) _ ?_ (k := 1 + r1.1.toNat) ⟨rfl, by simp; omega, by simp, by simp, hc1.mono (by omega)⟩
    rintro m ⟨x, v, v1, v2, v3⟩ ⟨hx, hl, hl1, hlb, hcur⟩
    simp only at hx hl hl1 hlb hcur
    subst hx
    unfold s_l1Cur_network_t_L1
    cases m with
    | zero => right; exact ⟨_, by simp; rfl, hcur, ⟨by show 1 ≤ v3.length; omega, by show v3.length ≤ 3; omega⟩, hlb⟩
    | succ m =>
      left
      have hpos : decide ((0 : Int) < ((m + 1 : Nat) : Int)) = true := by simp
      obtain ⟨r4, hr4, hs4⟩ := l1Num_ok ((m + 1 : Nat) : Int) (by omega) (by omega)
      have hs : (str [108]).size = 1 := rfl
      have hch : chk ((str [108]).size + r4.size ≤ 4294967296) = some () := chk_of (by omega)
      obtain ⟨r5, hr5, hc5, hb5⟩ := lineF_ok (str [108] ++ r4) (2 + r.1) (by omega) hcur (by omega)
      have hch2 : ∀ y : Line, chk (v3.length + ([y] : List Line).length ≤ 4294967296) = some () := fun y => chk_of (by simp; omega)
      refine ⟨_, m, by simp only [hpos, if_true, hr4, hch, e1, hr5, hch2, Option.bind_some]; rfl, by omega, ?_, ?_, ?_, ?_, ?_⟩
      · exact w64_pred (by omega)
      · simp; omega
      · simp; omega
      · intro y hy
        rcases List.mem_append.1 hy with hy | hy
        · exact hlb y hy
        · simp at hy; subst hy; exact hb5
      · exact hc5.mono (by omega)
  obtain ⟨⟨v4, v5, v6, v7⟩, hb, hcb, hlb, hall⟩ := loop
  simp only at hcb hlb hall
  rw [hb]
  simp only [Option.bind_some]
  obtain ⟨r6, hr6, hc6⟩ := one_ok 2 hcb (by omega)
  simp only [hr6, Option.bind_some]
  have fin : ∀ (v8 : List UInt8) (v9 v10 : Int) (v11 : List Line), Cur (k + 200) ⟨v8, v9, ⟨v10⟩⟩ → (1 ≤ v11.length ∧ v11.length ≤ 8) → (∀ x ∈ v11, LB x) →
      ∃ r', ((s_l2Own_t (⟨((([(str [112, 111, 114, 116]), (str [109, 105, 108, 108]), (str [112, 97, 114, 107]), (str [104, 97, 108, 108]), (str [100, 111, 99, 107]), (str [102, 97, 105, 114])] : List ByteArray).take (2 + r.1).toNat).drop (0 : Int).toNat), v11⟩ : Network)).bind fun r11 => some ((⟨r11.Stops, r11.Lines⟩ : Network), (⟨v8, v9, (⟨v10⟩ : IK .u64)⟩ : l1Cur))) = some r' ∧ Cur (k + 300) r'.2 ∧ NB r'.1 := by
    intro v8 v9 v10 v11 g1 g2 g3
    have hst := six_len (2 + r.1).toNat (by omega) (by omega) _ hsix
    have hnb : NB (⟨((([(str [112, 111, 114, 116]), (str [109, 105, 108, 108]), (str [112, 97, 114, 107]), (str [104, 97, 108, 108]), (str [100, 111, 99, 107]), (str [102, 97, 105, 114])] : List ByteArray).take (2 + r.1).toNat).drop (0 : Int).toNat), v11⟩ : Network) := ⟨hst, g2, g3⟩
    rw [l2Own_t_eq _ hnb.bd]
    exact ⟨_, rfl, g1.mono (by omega), hnb⟩
  split
  · obtain ⟨e, he, _, hem⟩ := idx_lt (l := v7) (i := 0) (by omega) (by omega)
    obtain ⟨g1, g2⟩ := hall e hem
    have hch2 : ∀ y : Line, chk (v7.length + ([y] : List Line).length ≤ 4294967296) = some () := fun y => chk_of (by simp; omega)
    simp only [he, l2BackF_eq e.Stops (by omega), l2BackF_eq e.Runs (by omega), hch2, Option.bind_some]
    refine fin _ _ _ _ (hc6.mono (by omega)) (by simp; omega) fun y hy => ?_
    rcases List.mem_append.1 hy with hy | hy
    · exact hall y hy
    · simp at hy; subst hy
      exact ⟨by simpa using g1, by simpa using g2⟩
  · simp only [Option.bind_some]
    exact fin _ _ _ _ (hc6.mono (by omega)) (by omega) hall

theorem anyNetwork_ok {k : Nat} {c : l1Cur} (h : Cur k c) (hk : k ≤ 200000000) : ∃ r, s_l1Cur_anyNetwork c = some r ∧ Cur (k + 1000) r.2 ∧ Bd r.1 := by
  unfold s_l1Cur_anyNetwork
  obtain ⟨r, hr, hc, hnb⟩ := networkT_ok h (by omega)
  obtain ⟨n1, n2, n3⟩ := hnb
  obtain ⟨r1, hr1, hc1, h10, h11⟩ := pick_ok (r.1.Lines.length : Int) hc (by omega)
  obtain ⟨e, he, he2, hem⟩ := idx_lt (l := r.1.Lines) (i := r1.1) h10 (by omega)
  obtain ⟨g1, g2⟩ := n3 e hem
  obtain ⟨r2, hr2, hc2, _⟩ := pick_ok 24 hc1 (by omega)
  simp only [hr, hr1, he, hr2, Option.bind_some]
  have fin : ∀ (v : List UInt8) (v1 v2 : Int) (v3 : ByteArray) (v4 : List ByteArray) (v5 : List Line) (v6 : List Int), Cur (k + 900) ⟨v, v1, ⟨v2⟩⟩ → v4.length ≤ 6 → v5.length = r.1.Lines.length → (∀ x ∈ v5, LB x) → v6.length ≤ 11 →
      ∃ r', ((idx v5 r1.1).bind fun e9 => some ((⟨v4, (v5.set r1.1.toNat (⟨v3, e9.Stops, v6⟩ : Line))⟩ : Network), (⟨v, v1, (⟨v2⟩ : IK .u64)⟩ : l1Cur))) = some r' ∧ Cur (k + 1000) r'.2 ∧ Bd r'.1 := by
    intro v v1 v2 v3 v4 v5 v6 q1 q2 q3 q4 q5
    obtain ⟨e9, he9, _, hm9⟩ := idx_lt (l := v5) (i := r1.1) h10 (by omega)
    rw [he9]
    refine ⟨_, rfl, q1.mono (by omega), by show v4.length ≤ _; omega, by simp; omega, fun x hx => ?_⟩
    rcases List.mem_or_eq_of_mem_set hx with hx | hx
    · have := q4 x hx
      unfold LB at this; omega
    · subst hx
      have := q4 e9 hm9
      unfold LB at this
      exact ⟨by show e9.Stops.length ≤ _; omega, by show v6.length ≤ _; omega⟩
  split
  · obtain ⟨r4, hr4, hc4, _⟩ := ofw_ok ([(str [109, 105, 108, 108]), (str []), (str [65]), (str [97, 98, 99, 100, 101, 102, 103, 104]), (str [97, 98, 99, 100, 101, 102, 103, 104, 105])] : List ByteArray) (by simp) hc2 (by omega)
    obtain ⟨e2, he2', _⟩ := idx_lt (l := r.1.Stops) (i := 0) (by omega) (by omega)
    simp only [hr4, he2', Option.bind_some, flb_go]
    exact fin _ _ _ _ _ _ _ (hc4.mono (by omega)) (by simp; omega) rfl n3 (by omega)
  split
  · obtain ⟨r5, hr5, hc5, _⟩ := ofw_ok ([(str [114, 49]), (str [108, 49]), (str []), (str [88])] : List ByteArray) (by simp) hc2 (by omega)
    simp only [hr5, Option.bind_some, flb_go]
    exact fin _ _ _ _ _ _ _ (hc5.mono (by omega)) (by omega) rfl n3 (by omega)
  split
  · obtain ⟨r8, hr8, hc8, h80, h81⟩ := pick_ok (e.Stops.length : Int) hc2 (by omega)
    obtain ⟨r9, hr9, hc9, _⟩ := pick_ok 10 hc8 (by omega)
    obtain ⟨e4, he4, _⟩ := idx_lt (l := e.Stops) (i := r8.1) h80 (by omega)
    simp only [hr8, hr9, he4, Option.bind_some, flb_go]
    refine fin _ _ _ _ _ _ _ (hc9.mono (by omega)) (by omega) (by simp) (fun x hx => ?_) (by show e.Runs.length ≤ 11; omega)
    rcases List.mem_or_eq_of_mem_set hx with hx | hx
    · exact n3 x hx
    · subst hx; exact ⟨by simpa using g1, g2⟩
  split
  · obtain ⟨r12, hr12, hc12, h120, h121⟩ := pick_ok (e.Runs.length : Int) hc2 (by omega)
    obtain ⟨r13, hr13, hc13, _⟩ := amongw_ok ([0, 60, 61, (-1)] : List Int) (by simp) hc12 (by omega)
    obtain ⟨e6, he6, _⟩ := idx_lt (l := e.Runs) (i := r12.1) h120 (by omega)
    simp only [hr12, hr13, he6, Option.bind_some, flb_go]
    refine fin _ _ _ _ _ _ _ (hc13.mono (by omega)) (by omega) (by simp) (fun x hx => ?_) (by simp; omega)
    rcases List.mem_or_eq_of_mem_set hx with hx | hx
    · exact n3 x hx
    · subst hx; exact ⟨g1, by simpa using g2⟩
  split
  · have hch : chk (e.Runs.length + ([3] : List Int).length ≤ 4294967296) = some () := chk_of (by simp; omega)
    simp only [hch, Option.bind_some, flb_go]
    exact fin _ _ _ _ _ _ _ (hc2.mono (by omega)) (by omega) rfl n3 (by simp; omega)
  split
  · simp only [flb_ret]
    exact ⟨_, rfl, hc2.mono (by omega), by show r.1.Stops.length ≤ _; omega, by simp, by simp⟩
  split
  · have loop : ∃ b, iter (s_l1Cur_anyNetwork_L1 r) (0, r2.2.code_, r2.2.at_, r2.2.seed_.v, r.1.Lines) = some b ∧ (Cur (k + 900) ⟨b.1, b.2.1, ⟨b.2.2.1⟩⟩ ∧ b.2.2.2.length ≤ 20 ∧ ∀ x ∈ b.2.2.2, LB x) := by
      refine iter_rule (fun m a => ∃ i : Nat, a.1 = (i : Int) ∧ m + i = 8 ∧ i ≤ 7 ∧ a.2.2.2.2.length ≤ 8 + i ∧ (∀ x ∈ a.2.2.2.2, LB x) ∧ Cur (k + 310 + 50 * i) ⟨a.2.1, a.2.2.1, ⟨a.2.2.2.1⟩⟩) _ ?_ (k := 8) ⟨0, rfl, rfl, by omega, by simpa using n2.2, n3, hc2.mono (by omega)⟩
      rintro m ⟨v7, v8, v9, v10, v11⟩ ⟨i, hi, hm, hi7, hl, hlb, hcur⟩
      simp only at hi hl hlb hcur
      subst hi
      unfold s_l1Cur_anyNetwork_L1
      obtain ⟨r16, hr16, hc16, h160, h161⟩ := pick_ok 2 hcur (by omega)
      have w1 : w64 (5 + r16.1) = 5 + r16.1 := w64_id (by omega)
      simp only [hr16, w1, Option.bind_some]
      by_cases a1 : (v11.length : Int) < 5 + r16.1 ∧ (i : Int) < 7
      · left
        have d1 : decide ((v11.length : Int) < 5 + r16.1) = true := by simp; omega
        have d2 : decide ((i : Int) < 7) = true := by simp; omega
        obtain ⟨r19, hr19, hs19⟩ := l1Num_ok (i : Int) (by omega) (by omega)
        have hs : (str [120]).size = 1 := rfl
        have hch : chk ((str [120]).size + r19.size ≤ 4294967296) = some () := chk_of (by omega)
        obtain ⟨r20, hr20, hc20, hb20⟩ := line_ok (str [120] ++ r19) (r.1.Stops.length : Int) (by omega) hc16 (by omega)
        have hch2 : ∀ y : Line, chk (v11.length + ([y] : List Line).length ≤ 4294967296) = some () := fun y => chk_of (by simp; omega)
        refine ⟨_, m - 1, by simp only [d1, d2, if_true, hr19, hch, hr20, hch2, Option.bind_some, w64_succ (n := i) (by omega)]; rfl, by omega, i + 1, rfl, by omega, by omega, ?_, fun x hx => ?_, ?_⟩
        · simp; omega
        · rcases List.mem_append.1 hx with hx | hx
          · exact hlb x hx
          · simp at hx; subst hx; exact hb20
        · exact hc20.mono (by omega)
      · right
        have hcond : (if decide ((v11.length : Int) < 5 + r16.1) = true then some (decide ((i : Int) < 7)) else some false) = some false := by
          by_cases b1 : (v11.length : Int) < 5 + r16.1
          · have : decide ((i : Int) < 7) = false := by simp; omega
            simp [b1, this]
          · simp [b1]
        refine ⟨_, by simp only [hcond, Option.bind_some, Bool.false_eq_true, if_false]; rfl, ?_, ?_, hlb⟩
        · exact hc16.mono (by omega)
        · show v11.length ≤ 20; omega
    obtain ⟨⟨v13, v14, v15, v16⟩, hb, hcb, hlb, hall⟩ := loop
    simp only at hcb hlb hall
    rw [hb]
    simp only [Option.bind_some, flb_ret]
    refine ⟨_, rfl, hcb.mono (by omega), by show r.1.Stops.length ≤ _; omega, by show v16.length ≤ _; omega, fun x hx => ?_⟩
    have := hall x hx
    unfold LB at this; omega
  · simp only [flb_go]
    exact fin _ _ _ _ _ _ _ (hc2.mono (by omega)) (by omega) rfl n3 (by omega)

/-! Timetables: when they are valid. -/
def TB (t : Timetable) : Prop := Bd t.Network ∧ t.Trips.length ≤ 1000
def TripP (n : Network) (x : Trip) : Prop := (1 ≤ x.Id ∧ x.Id ≤ 999) ∧ ∃ l, idx n.Lines x.Line = some l ∧ (0 ≤ x.Start ∧ x.Start ≤ 1799) ∧ 0 ≤ x.Start + l.Runs.sum ∧ x.Start + l.Runs.sum ≤ 1799
def GoodT (t : Timetable) : Prop := Good t.Network ∧ t.Trips.length ≤ 12 ∧ (∀ (i : Nat) x, t.Trips[i]? = some x → TripP t.Network x) ∧ ∀ (i : Nat) a b, t.Trips[i]? = some a → t.Trips[i + 1]? = some b → a.Id < b.Id
noncomputable instance (t : Timetable) : Decidable (GoodT t) := Classical.propDecidable _
noncomputable instance (n : Network) (x : Trip) : Decidable (TripP n x) := Classical.propDecidable _
theorem time_eq (t : Int) : i_IsValidTime t = some (decide (0 ≤ t ∧ t ≤ 1799)) := by
  unfold i_IsValidTime; rw [within_eq]; rfl
theorem l4Time_eq (t : Int) : s_l4Time t = some (decide (0 ≤ t ∧ t ≤ 1799)) := by
  unfold s_l4Time; rw [l1In_eq]; rfl
theorem total_eq (l : List Int) (h1 : l.length ≤ 1000000) (h2 : ∀ x ∈ l, 0 ≤ x ∧ x ≤ 1000000) : i_total l = some l.sum := by
  unfold i_total
  rw [sum_loop (fun x : Int => x) l h1 h2 (fun i s x hx => ?_) (fun s => ?_)]
  · simp
  · have := get_lt hx
    unfold i_total_L1
    simp (disch := omega) only [if_pos, if_neg, decide_eq_true_eq, decide_true, decide_false, Bool.not_true, Bool.not_false, Bool.false_eq_true, Bool.not_eq_true', decide_eq_false_iff_not, if_true, if_false, w64_id, chk_of, idx_nat, Option.bind_some, Option.map_some, Int.toNat_natCast, not_true_eq_false, not_false_eq_true, true_and, and_true, and_self, false_and, and_false, reduceIte, flb_go, flb_ret, beq_self_eq_true, ne_eq, bne_self_eq_false, Int.ofNat_lt.2 this, hx]
  · unfold i_total_L1; simp
theorem l2Run_eq (x : Line) (a b : Nat) (hab : a ≤ b) (hb : b ≤ x.Runs.length) (hl : x.Runs.length ≤ 1000) (h2 : ∀ r ∈ x.Runs, 0 ≤ r ∧ r ≤ 1000000) : s_l2Run x (a : Int) (b : Int) = some (((x.Runs.take b).drop a).sum) := by
  unfold s_l2Run
  refine Tot.val (.call (P := fun v => v = ((x.Runs.take b).drop a).sum) ?_ fun v h => .ok h)
  refine .iter (fun m s => ∃ k : Nat, s.2 = ((a + k : Nat) : Int) ∧ m + k = b - a ∧ s.1 = (((x.Runs.take b).drop a).take k).sum) (n := b - a) ⟨0, by simp, by omega, by simp⟩ ?_
  rintro m ⟨s, v⟩ ⟨k, hk, hm, hs⟩
  simp only at hk hs
  subst hk
  unfold s_l2Run_L1
  refine .iteP (fun hc => ?_) (fun hc => .dn ?_)
  · obtain ⟨r, hr⟩ := get_ex (l := x.Runs) (i := a + k) (by omega)
    have hr2 : ((x.Runs.take b).drop a)[k]? = some r := by
      rw [List.getElem?_drop, List.getElem?_take_of_lt (by omega)]; exact hr
    have hb1 := h2 r (List.mem_of_getElem? hr)
    have hb2 := sum_bd (l := ((x.Runs.take b).drop a).take k) (M := 1000000) fun y hy => h2 y (List.mem_of_mem_take (List.mem_of_mem_drop (List.mem_of_mem_take hy)))
    have hlen : ((((x.Runs.take b).drop a).take k).length : Int) ≤ 1000 := by simp; omega
    rw [← hs] at hb2
    refine .eq (by rw [idx_nat]; exact hr) (.nx ⟨m - 1, by omega, k + 1, ?_, by omega, ?_⟩)
    · show w64 (((a + k : Nat) : Int) + 1) = _
      rw [w64_id (by omega)]; omega
    · show w64 (s + r) = _
      rw [w64_id (by omega), sum_take_succ hr2, hs]
  · rw [hs, List.take_of_length_le (by rw [List.length_drop, List.length_take]; omega)]
theorem good_line {n : Network} (h : Good n) {k : Int} {l : Line} (hl : idx n.Lines k = some l) : LineP n.Stops.length l := h.2.2.2.2 _ l (idx_some hl).2.2
theorem line_stop {st : Nat} {l : Line} (h : LineP st l) {j : Nat} {s : Int} (hs : l.Stops[j]? = some s) : 0 ≤ s ∧ s < (st : Int) := (h.2.2.1 j s hs).1
theorem line_runs {st : Nat} {l : Line} (h : LineP st l) : (l.Runs.length + 1 = l.Stops.length ∧ 1 ≤ l.Runs.length ∧ l.Runs.length ≤ 5) ∧ ∀ r ∈ l.Runs, 1 ≤ r ∧ r ≤ 60 := by
  obtain ⟨h1, h2, h3, h4⟩ := h
  refine ⟨by omega, fun r hr => ?_⟩
  obtain ⟨i, hi⟩ := List.getElem?_of_mem hr
  exact h4 i r hi
theorem runs_sum {st : Nat} {l : Line} (h : LineP st l) (k : Nat) : 0 ≤ (l.Runs.take k).sum ∧ (l.Runs.take k).sum ≤ 300 := by
  obtain ⟨⟨h1, h2, h3⟩, h4⟩ := line_runs h
  have := sum_bd (l := l.Runs.take k) (M := 60) fun x hx => by have := h4 x (List.mem_of_mem_take hx); omega
  have hl : ((l.Runs.take k).length : Int) ≤ 5 := by simp; omega
  omega
theorem runs_sum' {st : Nat} {l : Line} (h : LineP st l) : 0 ≤ l.Runs.sum ∧ l.Runs.sum ≤ 300 := by
  have := runs_sum h l.Runs.length
  rwa [List.take_length] at this
theorem endOf_eq {t : Timetable} (hg : Good t.Network) {x : Trip} {l : Line} (hl : idx t.Network.Lines x.Line = some l) (hs : 0 ≤ x.Start ∧ x.Start ≤ 1799) : i_endOf t x = some (x.Start + l.Runs.sum) := by
  have h := good_line hg hl
  obtain ⟨⟨h1, h2, h3⟩, h4⟩ := line_runs h
  have h5 := runs_sum' h
  unfold i_endOf
  rw [hl]
  simp only [Option.bind_some]
  rw [total_eq l.Runs (by omega) (fun x hx => by have := h4 x hx; omega)]
  simp (disch := omega) only [if_pos, if_neg, decide_eq_true_eq, decide_true, decide_false, Bool.not_true, Bool.not_false, Bool.false_eq_true, Bool.not_eq_true', decide_eq_false_iff_not, if_true, if_false, w64_id, chk_of, idx_nat, Option.bind_some, Option.map_some, Int.toNat_natCast, not_true_eq_false, not_false_eq_true, true_and, and_true, and_self, false_and, and_false, reduceIte, flb_go, flb_ret, beq_self_eq_true, ne_eq, bne_self_eq_false]
theorem l5Line_eq {t : Timetable} {i : Nat} {x : Trip} {l : Line} (hx : t.Trips[i]? = some x) (hl : idx t.Network.Lines x.Line = some l) : s_l5Line t (i : Int) = some l := by
  unfold s_l5Line
  simp (disch := omega) only [if_pos, if_neg, decide_eq_true_eq, decide_true, decide_false, Bool.not_true, Bool.not_false, Bool.false_eq_true, Bool.not_eq_true', decide_eq_false_iff_not, if_true, if_false, w64_id, chk_of, idx_nat, Option.bind_some, Option.map_some, Int.toNat_natCast, not_true_eq_false, not_false_eq_true, true_and, and_true, and_self, false_and, and_false, reduceIte, flb_go, flb_ret, beq_self_eq_true, ne_eq, bne_self_eq_false, hx, hl]
theorem l5Stops_eq {t : Timetable} {i : Nat} {x : Trip} {l : Line} (hx : t.Trips[i]? = some x) (hl : idx t.Network.Lines x.Line = some l) : s_l5Stops t (i : Int) = some l.Stops := by
  unfold s_l5Stops
  rw [l5Line_eq hx hl]; rfl
theorem l5At_eq {t : Timetable} (hg : Good t.Network) {i : Nat} {x : Trip} {l : Line} (hx : t.Trips[i]? = some x) (hl : idx t.Network.Lines x.Line = some l) (hs : 0 ≤ x.Start ∧ x.Start ≤ 1799) {k : Nat} (hk : k ≤ l.Runs.length) : s_l5At t (i : Int) (k : Int) = some (x.Start + (l.Runs.take k).sum) := by
  have h := good_line hg hl
  obtain ⟨⟨h1, h2, h3⟩, h4⟩ := line_runs h
  have h5 := runs_sum h k
  have e := l2Run_eq l 0 k (by omega) hk (by omega) (fun x hx => by have := h4 x hx; omega)
  rw [List.drop_zero] at e
  have e' : s_l2Run l 0 (k : Int) = some (l.Runs.take k).sum := e
  unfold s_l5At
  simp (disch := omega) only [if_pos, if_neg, decide_eq_true_eq, decide_true, decide_false, Bool.not_true, Bool.not_false, Bool.false_eq_true, Bool.not_eq_true', decide_eq_false_iff_not, if_true, if_false, w64_id, chk_of, idx_nat, Option.bind_some, Option.map_some, Int.toNat_natCast, not_true_eq_false, not_false_eq_true, true_and, and_true, and_self, false_and, and_false, reduceIte, flb_go, flb_ret, beq_self_eq_true, ne_eq, bne_self_eq_false, hx, l5Line_eq hx hl, e']
theorem l5End_eq {t : Timetable} (hg : Good t.Network) {i : Nat} {x : Trip} {l : Line} (hx : t.Trips[i]? = some x) (hl : idx t.Network.Lines x.Line = some l) (hs : 0 ≤ x.Start ∧ x.Start ≤ 1799) : s_l5End t (i : Int) = some (x.Start + l.Runs.sum) := by
  have h := good_line hg hl
  obtain ⟨⟨h1, h2, h3⟩, h4⟩ := line_runs h
  have e : w64 ((l.Stops.length : Int) - 1) = (l.Runs.length : Int) := by rw [w64_id (by omega)]; omega
  unfold s_l5End
  rw [l5Stops_eq hx hl]
  simp only [Option.bind_some, e, l5At_eq hg hx hl hs (Nat.le_refl _), List.take_length]
def TripsP (t : Timetable) : Prop := (∀ (i : Nat) x, t.Trips[i]? = some x → TripP t.Network x) ∧ ∀ (i : Nat) a b, t.Trips[i]? = some a → t.Trips[i + 1]? = some b → a.Id < b.Id
noncomputable instance (t : Timetable) : Decidable (TripsP t) := Classical.propDecidable _
/-- One trip's check in the program. -/
theorem trip_i {t : Timetable} (hb : TB t) (hg : Good t.Network) (x : Trip) (last : Int) (hlast : 0 ≤ last) : ((if (decide (x.Id ≤ last)) = true then some true else if (decide (999 < x.Id)) = true then some true else (i_isLine t.Network x.Line).bind fun r =>
      if (!r) = true then some true else (i_IsValidTime x.Start).bind fun r1 =>
      if (!r1) = true then some true else (i_endOf t x).bind fun r2 =>
      (i_IsValidTime r2).bind fun r3 =>
      some (!r3))) = some (!decide (last < x.Id ∧ TripP t.Network x)) := by
  by_cases c1 : x.Id ≤ last
  · have : ¬ (last < x.Id ∧ TripP t.Network x) := fun h => by omega
    simp [c1, this]
  · by_cases c2 : 999 < x.Id
    · have : ¬ (last < x.Id ∧ TripP t.Network x) := fun h => by have := h.2.1; omega
      simp [c1, c2, this]
    · simp only [isLine_eq, time_eq, Option.bind_some, c1, c2, decide_false, Bool.false_eq_true, if_false]
      by_cases c3 : 0 ≤ x.Line ∧ x.Line < (t.Network.Lines.length : Int)
      · obtain ⟨l, hl, _⟩ := idx_lt (l := t.Network.Lines) c3.1 c3.2
        by_cases c4 : 0 ≤ x.Start ∧ x.Start ≤ 1799
        · have hT : (last < x.Id ∧ TripP t.Network x) ↔ (0 ≤ x.Start + l.Runs.sum ∧ x.Start + l.Runs.sum ≤ 1799) := by
            constructor
            · rintro ⟨_, _, l', hl', _, h⟩
              rw [hl] at hl'; cases hl'; exact h
            · intro h; exact ⟨by omega, ⟨by omega, by omega⟩, l, hl, c4, h⟩
          simp only [c3, c4, and_self, decide_true, Bool.not_true, Bool.false_eq_true, if_false, endOf_eq hg hl c4, time_eq, Option.bind_some, hT]
        · have : ¬ (last < x.Id ∧ TripP t.Network x) := fun h => by
            obtain ⟨_, _, l', _, h4, _⟩ := h
            exact c4 h4
          simp only [c3, c4, this, and_self, decide_true, decide_false, Bool.not_true, Bool.not_false, Bool.false_eq_true, if_false, if_true]
      · have : ¬ (last < x.Id ∧ TripP t.Network x) := fun h => by
          obtain ⟨_, _, l', hl', _⟩ := h
          have := idx_some hl'
          exact c3 ⟨this.1, this.2.1⟩
        simp only [c3, this, decide_false, Bool.not_false, if_true]
theorem areTrips_eq {t : Timetable} (hb : TB t) (hg : Good t.Network) : i_areTrips t = some (decide (t.Trips.length ≤ 12 ∧ TripsP t)) := by
  unfold i_areTrips
  by_cases h12 : t.Trips.length ≤ 12
  · have d : decide ((12 : Int) < (t.Trips.length : Int)) = false := by simp; omega
    have e : decide (t.Trips.length ≤ 12 ∧ TripsP t) = decide (TripsP t) := by simp [h12]
    rw [d, e]
    simp only [Bool.false_eq_true, if_false]
    refine flb_dec (.iter (fun m a => ∃ i : Nat, a.2 = (i : Int) ∧ m + i = t.Trips.length ∧ 0 ≤ a.1 ∧ (∀ y, 0 < i → t.Trips[i - 1]? = some y → a.1 = y.Id) ∧ (i = 0 → a.1 = 0) ∧ (∀ (j : Nat) x, j < i → t.Trips[j]? = some x → TripP t.Network x) ∧ ∀ (j : Nat) a b, j + 1 < i → t.Trips[j]? = some a → t.Trips[j + 1]? = some b → a.Id < b.Id)
      (n := t.Trips.length) ⟨0, rfl, rfl, by simp, by simp, by simp, fun j x h => by omega, fun j a b h => by omega⟩ ?_)
    rintro m ⟨last, v⟩ ⟨i, hv, hm, h0, h1, h2, h3, h4⟩
    simp only at hv h0 h1 h2
    subst hv
    unfold i_areTrips_L1
    refine .iteP (fun hc => ?_) (fun hc => .dn (.inl ⟨rfl, fun j x hx => h3 j x (by have := get_lt hx; omega) hx, fun j a b ha hb' => h4 j a b (by have := get_lt hb'; omega) ha hb'⟩))
    obtain ⟨x, hx⟩ := get_ex (l := t.Trips) (i := i) (by omega)
    refine .eq (by rw [idx_nat]; exact hx) (.eq (trip_i hb hg x last h0) (.iteN (fun hn => .dn (.inr ⟨rfl, fun hp => hn ⟨?_, hp.1 i x hx⟩⟩)) (fun hp => .nx ⟨m - 1, by omega, i + 1, w64_succ (by omega), by omega, ?_, ?_, by simp, ?_, ?_⟩)))
    · by_cases hi : i = 0
      · rw [h2 hi]; have := (hp.1 i x hx).1; omega
      · obtain ⟨y, hy⟩ := get_ex (l := t.Trips) (i := i - 1) (by omega)
        rw [h1 y (by omega) hy]
        exact hp.2 (i - 1) y x hy (by rw [show i - 1 + 1 = i by omega]; exact hx)
    · show 0 ≤ x.Id
      have := hp.2.1; omega
    · intro y _ hy
      rw [show i + 1 - 1 = i by omega, hx] at hy; cases hy; rfl
    · intro j y hj hy
      by_cases hji : j = i
      · subst hji; rw [hx] at hy; cases hy; exact hp.2
      · exact h3 j y (by omega) hy
    · intro j a b hj ha hb'
      by_cases hji : j + 1 = i
      · subst hji; rw [hx] at hb'; cases hb'
        have := h1 a (by omega) (by simpa using ha)
        omega
      · exact h4 j a b (by omega) ha hb'
  · have d : decide ((12 : Int) < (t.Trips.length : Int)) = true := by simp; omega
    simp [d, h12]
/-- A trip is as it should be, and behind the one before it. -/
def TripQ (t : Timetable) (i : Nat) (x : Trip) : Prop := TripP t.Network x ∧ ∀ y, 0 < i → t.Trips[i - 1]? = some y → y.Id < x.Id
noncomputable instance (t : Timetable) (i : Nat) (x : Trip) : Decidable (TripQ t i x) := Classical.propDecidable _
theorem goodT_iff (t : Timetable) : GoodT t ↔ Good t.Network ∧ t.Trips.length ≤ 12 ∧ TripsP t := Iff.rfl
theorem validT_eq {t : Timetable} (hb : TB t) : i_IsValidTimetable t = some (decide (GoodT t)) := by
  unfold i_IsValidTimetable
  rw [valid_eq _ hb.1]
  by_cases hg : Good t.Network
  · simp only [hg, decide_true, if_true, Option.bind_some, areTrips_eq hb hg, goodT_iff, true_and]
  · have : ¬ GoodT t := fun h => hg h.1
    simp [hg, this]
theorem goodT_eq {t : Timetable} (hb : TB t) : s_l5Good t = some (decide (GoodT t)) := by
  unfold s_l5Good
  rw [good_eq _ hb.1]
  by_cases hg : Good t.Network
  · by_cases h12 : t.Trips.length ≤ 12
    · have d : decide ((12 : Int) < (t.Trips.length : Int)) = false := by simp; omega
      have e : decide (GoodT t) = decide (TripsP t) := by rw [decide_eq_decide, goodT_iff]; simp [hg, h12]
      simp only [hg, decide_true, Bool.not_true, Bool.false_eq_true, if_false, Option.bind_some, d, e]
      refine flb_dec (.iter (fun m a => ∃ i : Nat, a = (i : Int) ∧ m + i = t.Trips.length ∧ (∀ (j : Nat) x, j < i → t.Trips[j]? = some x → TripP t.Network x) ∧ ∀ (j : Nat) a b, j + 1 < i → t.Trips[j]? = some a → t.Trips[j + 1]? = some b → a.Id < b.Id)
        (n := t.Trips.length) ⟨0, rfl, rfl, fun j x h => by omega, fun j a b h => by omega⟩ ?_)
      rintro m v ⟨i, hv, hm, h3, h4⟩
      subst hv
      unfold s_l5Good_L1
      refine .iteP (fun hc => ?_) (fun hc => .dn (.inl ⟨rfl, fun j x hx => h3 j x (by have := get_lt hx; omega) hx, fun j a b ha hb' => h4 j a b (by have := get_lt hb'; omega) ha hb'⟩))
      obtain ⟨x, hx⟩ := get_ex (l := t.Trips) (i := i) (by omega)
      refine .eq (by rw [idx_nat]; exact hx) ?_
      have hll := hg.2.1
      have ew : w64 ((t.Network.Lines.length : Int) - 1) = (t.Network.Lines.length : Int) - 1 := w64_id (by omega)
      have key : ((s_l1In x.Id 1 999).bind fun r6 =>
      (if (!r6) = true then some true else (s_l1In x.Line 0 (w64 ((t.Network.Lines.length : Int) - 1))).bind fun r7 =>
      if (!r7) = true then some true else (s_l4Time x.Start).bind fun r8 =>
      if (!r8) = true then some true else (s_l5End t (i : Int)).bind fun r9 =>
      (s_l4Time r9).bind fun r10 =>
      if (!r10) = true then some true else if (decide (0 < (i : Int))) = true then (idx t.Trips (w64 ((i : Int) - 1))).bind fun e2 =>
      some (decide (x.Id ≤ e2.Id)) else some false)) = some (!decide (TripQ t i x)) := by
        have no : ¬ TripP t.Network x → (!decide (TripQ t i x)) = true := fun h => (by simp [show ¬ TripQ t i x from fun q => h q.1])
        simp only [l1In_eq, l4Time_eq, ew, Option.bind_some]
        by_cases c1 : 1 ≤ x.Id ∧ x.Id ≤ 999
        · by_cases c3 : 0 ≤ x.Line ∧ x.Line ≤ (t.Network.Lines.length : Int) - 1
          · obtain ⟨l, hl, _⟩ := idx_lt (l := t.Network.Lines) c3.1 (by omega)
            by_cases c4 : 0 ≤ x.Start ∧ x.Start ≤ 1799
            · simp only [c1, c3, c4, and_self, decide_true, Bool.not_true, Bool.false_eq_true, if_false, l5End_eq hg hx hl c4, l4Time_eq, Option.bind_some]
              by_cases c5 : 0 ≤ x.Start + l.Runs.sum ∧ x.Start + l.Runs.sum ≤ 1799
              · have hT : TripP t.Network x := ⟨c1, l, hl, c4, c5⟩
                simp only [c5, and_self, decide_true, Bool.not_true, Bool.false_eq_true, if_false, ]
                by_cases c6 : 0 < i
                · obtain ⟨y, hy⟩ := get_ex (l := t.Trips) (i := i - 1) (by omega)
                  have e1 : w64 ((i : Int) - 1) = ((i - 1 : Nat) : Int) := by rw [w64_id (by omega)]; omega
                  have c6' : (0 : Int) < (i : Int) := by omega
                  simp only [c6', decide_true, if_true, e1, idx_nat, hy, Option.bind_some, Option.some.injEq]
                  by_cases c7 : x.Id ≤ y.Id
                  · have : ¬ TripQ t i x := fun h => by have := h.2 y c6 hy; omega
                    simp only [c7, decide_true, this, decide_false, Bool.not_false]
                  · have : TripQ t i x := ⟨hT, fun z _ hz => by rw [hy] at hz; cases hz; omega⟩
                    simp only [c7, decide_false, this, decide_true, Bool.not_true]
                · have c6' : ¬ (0 : Int) < (i : Int) := by omega
                  have : TripQ t i x := ⟨hT, fun z h0 _ => absurd h0 c6⟩
                  simp only [c6', decide_false, Bool.false_eq_true, if_false, this, decide_true, Bool.not_true]
              · rw [no (fun hT => by
                  obtain ⟨_, l', hl', _, h⟩ := hT
                  rw [hl] at hl'; cases hl'; exact c5 h)]
                simp only [c5, decide_false, Bool.not_false, if_true]
            · rw [no (fun hT => by obtain ⟨_, l', _, h, _⟩ := hT; exact c4 h)]
              simp only [c1, c3, c4, and_self, decide_true, decide_false, Bool.not_true, Bool.not_false, Bool.false_eq_true, if_false, if_true]
          · rw [no (fun hT => by
              obtain ⟨_, l', hl', _⟩ := hT
              have := idx_some hl'
              exact c3 ⟨this.1, by omega⟩)]
            simp only [c1, c3, and_self, decide_true, decide_false, Bool.not_true, Bool.not_false, Bool.false_eq_true, if_false, if_true]
        · rw [no (fun hT => c1 hT.1)]
          simp only [c1, decide_false, Bool.not_false, if_true]
      rw [bind_assoc', key]
      refine .iteN (fun hn => .dn (.inr ⟨rfl, fun hp => hn ⟨hp.1 i x hx, fun y hi hy => hp.2 (i - 1) y x hy (by rw [show i - 1 + 1 = i by omega]; exact hx)⟩⟩)) (fun hp => .nx ⟨m - 1, by omega, i + 1, w64_succ (by omega), by omega, ?_, ?_⟩)
      · intro j y hj hy
        by_cases hji : j = i
        · subst hji; rw [hx] at hy; cases hy; exact hp.1
        · exact h3 j y (by omega) hy
      · intro j a b hj ha hb'
        by_cases hji : j + 1 = i
        · subst hji; rw [hx] at hb'; cases hb'
          exact hp.2 a (by omega) (by simpa using ha)
        · exact h4 j a b (by omega) ha hb'
    · have d : decide ((12 : Int) < (t.Trips.length : Int)) = true := by simp; omega
      have : ¬ GoodT t := fun h => h12 h.2.1
      simp [hg, d, this]
  · have : ¬ GoodT t := fun h => hg h.1
    simp [hg, this]
/-! Timetables: what is looked up; stop times; draws. -/
theorem tripIndex_eq (t : Timetable) (h : t.Trips.length ≤ 1000) (id : Int) : i_tripIndex t id = some (fixI (fun x => x.Id == id) t.Trips) := by
  unfold i_tripIndex slices_IndexFunc_Trip__i_tripIndex_1 slices_IndexFunc_Trip
  rw [find_val t.Trips (fun x => x.Id == id) (fun i x hx => ?_) (by unfold slices_IndexFunc_Trip_L1; simp)]
  · rfl
  · have := get_lt hx
    unfold slices_IndexFunc_Trip_L1 i_tripIndex_1
    simp (disch := omega) only [if_pos, if_neg, decide_eq_true_eq, decide_true, decide_false, Bool.not_true, Bool.not_false, Bool.false_eq_true, Bool.not_eq_true', decide_eq_false_iff_not, if_true, if_false, w64_id, chk_of, idx_nat, Option.bind_some, Option.map_some, Int.toNat_natCast, not_true_eq_false, not_false_eq_true, true_and, and_true, and_self, false_and, and_false, reduceIte, flb_go, flb_ret, beq_self_eq_true, ne_eq, bne_self_eq_false, hx, Int.ofNat_lt.2 this]
    split <;> simp [*] <;> omega
theorem l5Find_eq (t : Timetable) (h : t.Trips.length ≤ 1000) (id : Int) : s_l5Find t id = some (fixI (fun x => x.Id == id) t.Trips) := by
  unfold s_l5Find
  rw [find_val t.Trips (fun x => x.Id == id) (fun i x hx => ?_) (by unfold s_l5Find_L1; simp)]
  have := get_lt hx
  unfold s_l5Find_L1
  simp (disch := omega) only [if_pos, if_neg, decide_eq_true_eq, decide_true, decide_false, Bool.not_true, Bool.not_false, Bool.false_eq_true, Bool.not_eq_true', decide_eq_false_iff_not, if_true, if_false, w64_id, chk_of, idx_nat, Option.bind_some, Option.map_some, Int.toNat_natCast, not_true_eq_false, not_false_eq_true, true_and, and_true, and_self, false_and, and_false, reduceIte, flb_go, flb_ret, beq_self_eq_true, ne_eq, bne_self_eq_false, hx, Int.ofNat_lt.2 this]
  split <;> simp [*] <;> omega
theorem lineOf_eq {t : Timetable} {x : Trip} {l : Line} (hl : idx t.Network.Lines x.Line = some l) : i_lineOf t x = some l := by
  unfold i_lineOf; rw [hl]; rfl
/-- A valid timetable's trip, with its line. -/
theorem trip_line {t : Timetable} (h : GoodT t) {i : Nat} {x : Trip} (hx : t.Trips[i]? = some x) : ∃ l, idx t.Network.Lines x.Line = some l ∧ LineP t.Network.Stops.length l ∧ (1 ≤ x.Id ∧ x.Id ≤ 999) ∧ (0 ≤ x.Start ∧ x.Start ≤ 1799) ∧ 0 ≤ x.Start + l.Runs.sum ∧ x.Start + l.Runs.sum ≤ 1799 := by
  obtain ⟨h1, l, hl, h2, h3⟩ := h.2.2.1 i x hx
  exact ⟨l, hl, good_line h.1 hl, h1, h2, h3⟩
theorem ids_lt {t : Timetable} (h : GoodT t) {i j : Nat} {a b : Trip} (hij : i < j) (ha : t.Trips[i]? = some a) (hb : t.Trips[j]? = some b) : a.Id < b.Id := by
  induction j generalizing b with
  | zero => omega
  | succ j ih =>
    obtain ⟨c, hc⟩ := get_ex (l := t.Trips) (i := j) (by have := get_lt hb; omega)
    have h1 := h.2.2.2 j c b hc hb
    by_cases hji : i = j
    · subst hji; rw [ha] at hc; cases hc; exact h1
    · have := ih (by omega) hc; omega
/-- A trip is found by its Id. -/
theorem trip_fix {t : Timetable} (h : GoodT t) {i : Nat} {x : Trip} (hx : t.Trips[i]? = some x) : fixI (fun y => y.Id == x.Id) t.Trips = (i : Int) := by
  refine fixI_of hx (by simp) fun j y hj hy => ?_
  have := ids_lt h hj hy hx
  simp; omega
/-- The stop times. -/
def ST (l : Line) (s : Int) : List Int := (List.range (l.Runs.length + 1)).map fun k => s + (l.Runs.take k).sum
theorem ST_len (l : Line) (s : Int) : (ST l s).length = l.Runs.length + 1 := by simp [ST]
theorem ST_at {l : Line} {s : Int} {k : Nat} (hk : k ≤ l.Runs.length) : (ST l s)[k]? = some (s + (l.Runs.take k).sum) := by
  unfold ST; rw [List.getElem?_map, List.getElem?_range (by omega)]; rfl
theorem stopTimes_eq {t : Timetable} {x : Trip} {l : Line} {st : Nat} (hl : idx t.Network.Lines x.Line = some l) (hp : LineP st l) (hs : 0 ≤ x.Start ∧ x.Start ≤ 1799) : i_stopTimes t x = some (ST l x.Start) := by
  obtain ⟨⟨h1, h2, h3⟩, h4⟩ := line_runs hp
  unfold i_stopTimes
  rw [lineOf_eq hl]
  simp only [Option.bind_some]
  refine Tot.val (.call (P := fun v => v = ST l x.Start) ?_ fun v h => .ok h)
  refine .iter (fun m s => ∃ k : Nat, s.1 = (k : Int) ∧ m + k = l.Runs.length ∧ s.2 = (ST l x.Start).take (k + 1)) (n := l.Runs.length) ⟨0, rfl, rfl, ?_⟩ ?_
  · rw [take_succ (x := x.Start) (by have := ST_at (l := l) (s := x.Start) (k := 0) (by omega); simpa using this)]; rfl
  · rintro m ⟨v, r⟩ ⟨k, hk, hm, hr⟩
    simp only at hk hr
    subst hk
    unfold i_stopTimes_L1
    have hlen := ST_len l x.Start
    refine .iteP (fun hc => ?_) (fun hc => .dn (by rw [hr, List.take_of_length_le (by omega)]))
    obtain ⟨e, he⟩ := get_ex (l := l.Runs) (i := k) (by omega)
    have hk1 := ST_at (l := l) (s := x.Start) (k := k) (by omega)
    have hk2 := ST_at (l := l) (s := x.Start) (k := k + 1) (by omega)
    have b1 := runs_sum hp k
    have b2 := h4 e (List.mem_of_getElem? he)
    refine .eq (by rw [idx_nat]; exact he) (.eq (by rw [idx_nat, hr, List.getElem?_take_of_lt (by omega)]; exact hk1) (.chk (by rw [hr]; simp; omega) (.nx ⟨m - 1, by omega, k + 1, w64_succ (by omega), by omega, ?_⟩)))
    show r ++ [w64 (x.Start + (l.Runs.take k).sum + e)] = _
    rw [take_succ hk2, hr, w64_id (by omega), sum_take_succ he, Int.add_assoc]

/-- A trip that is there, found by its Id. -/
theorem find_trip {t : Timetable} (hb : TB t) (hT : GoodT t) {k : Nat} {y : Trip} (hy : t.Trips[k]? = some y) : i_tripIndex t y.Id = some (k : Int) ∧ s_l5Find t y.Id = some (k : Int) := by
  rw [tripIndex_eq t hb.2, l5Find_eq t hb.2, trip_fix hT hy]
  exact ⟨rfl, rfl⟩
theorem found_or {t : Timetable} (id : Int) : (fixI (fun x => x.Id == id) t.Trips < 0 ∧ ∀ (k : Nat) y, t.Trips[k]? = some y → y.Id ≠ id) ∨ ∃ (k : Nat) (y : Trip), t.Trips[k]? = some y ∧ y.Id = id := by
  by_cases h : fixI (fun x => x.Id == id) t.Trips < 0
  · refine .inl ⟨h, fun k y hy => ?_⟩
    have := fixI_neg h y (List.mem_of_getElem? hy)
    simpa using this
  · obtain ⟨k, y, _, h2, h3, _⟩ := idx_fix h
    exact .inr ⟨k, y, h2, by simpa using h3⟩
/-! Draws -/
theorem network_ok {k : Nat} {c : l1Cur} (h : Cur k c) (hk : k ≤ 500000000) : ∃ r, s_l1Cur_network c = some r ∧ Cur (k + 300) r.2 ∧ NB r.1 := networkT_ok h hk
theorem network_t_ok {k : Nat} {c : l1Cur} (h : Cur k c) (hk : k ≤ 500000000) : ∃ r, s_l1Cur_network_t c = some r ∧ Cur (k + 300) r.2 ∧ NB r.1 := networkT_ok h hk
theorem anyNet_ok {k : Nat} {c : l1Cur} (h : Cur k c) (hk : k ≤ 200000000) : Tot (s_l1Cur_anyNetwork c) fun r => Cur (k + 1000) r.2 ∧ Bd r.1 := anyNetwork_ok h hk
def DT (t : Timetable) : Prop := Bd t.Network ∧ t.Trips.length ≤ 30
theorem DT.tb {t : Timetable} (h : DT t) : TB t := ⟨h.1, by have := h.2; omega⟩
theorem timetable_ok {k : Nat} {c : l1Cur} (h : Cur k c) (hk : k ≤ 100000000) : Tot (s_l1Cur_timetable c) fun r => Cur (k + 400) r.2 ∧ DT r.1 ∧ NB r.1.Network ∧ r.1.Trips.length ≤ 8 := by
  unfold s_l1Cur_timetable
  refine .call (networkT_ok h (by omega)) fun r ⟨hc, hn⟩ => .call (pick_ok 8 hc (by omega)) fun r1 ⟨hc1, h0, h1⟩ => ?_
  refine .call (P := fun o => Cur (k + 400) ⟨o.1, o.2.1, ⟨o.2.2.1⟩⟩ ∧ o.2.2.2.length ≤ 8) ?_ fun o ⟨ho1, ho2⟩ => .ok ⟨ho1, ⟨hn.bd, by show o.2.2.2.length ≤ 30; omega⟩, hn, ho2⟩
  refine .iter (fun m s => s.2.1 = (m : Int) ∧ m + s.2.2.2.2.2.length ≤ 8 ∧ Cur (k + 302 + 6 * (8 - m)) ⟨s.2.2.1, s.2.2.2.1, ⟨s.2.2.2.2.1⟩⟩) (n := r1.1.toNat) ⟨by show r1.1 = _; omega, by show r1.1.toNat + 0 ≤ 8; omega, hc1.mono (by omega)⟩ ?_
  rintro m ⟨n, v, v1, v2, v3, v4⟩ ⟨hv, hl, hcur⟩
  simp only at hv hl hcur
  subst hv
  unfold s_l1Cur_timetable_L1
  refine .iteP (fun hc => ?_) (fun hc => .dn ⟨hcur.mono (by omega), by show v4.length ≤ 8; omega⟩)
  refine .call (pick_ok 3 hcur (by omega)) fun r2 ⟨hc2, _⟩ => .call (pick_ok _ hc2 (by omega)) fun r5 ⟨hc5, _⟩ => .call (pick_ok 24 hc5 (by omega)) fun r6 ⟨hc6, _⟩ => .chk (by simp; omega) (.nx ⟨m - 1, by omega, ?_, ?_, ?_⟩)
  · show w64 ((m : Int) - 1) = _; rw [w64_id (by omega)]; omega
  · show m - 1 + (v4 ++ [_]).length ≤ 8; simp; omega
  · exact hc6.mono (by omega)
theorem anyTimetable_ok {k : Nat} {c : l1Cur} (h : Cur k c) (hk : k ≤ 50000000) : Tot (s_l1Cur_anyTimetable c) fun r => Cur (k + 2000) r.2 ∧ DT r.1 := by
  unfold s_l1Cur_anyTimetable
  refine .call (timetable_ok h (by omega)) fun r ⟨hc, hd, hn, hl⟩ => ?_
  refine .ite (fun _ => .ok ⟨hc.mono (by omega), hd⟩) fun he => ?_
  have hpos : 0 < r.1.Trips.length := by
    have : (r.1.Trips.length : Int) ≠ 0 := by simpa using he
    omega
  refine .call (pick_ok _ hc (by omega)) fun r1 ⟨hc1, h10, h11⟩ => ?_
  have h12 : r1.1 < (r.1.Trips.length : Int) := by omega
  refine .idx h10 h12 fun e _ => ?_
  have fin : ∀ (v : List UInt8) (v1 v2 : Int) (v3 : List Line) (v4 v5 v6 : Int) (v7 : List ByteArray), Cur (k + 2000) ⟨v, v1, ⟨v2⟩⟩ → Bd ⟨v7, v3⟩ → Tot ((idx r.1.Trips r1.1).bind fun e2 => some ((⟨(⟨v7, v3⟩ : Network), (r.1.Trips.set r1.1.toNat (⟨v4, v5, v6⟩ : Trip))⟩ : Timetable), (⟨v, v1, (⟨v2⟩ : IK .u64)⟩ : l1Cur))) fun r => Cur (k + 2000) r.2 ∧ DT r.1 := fun v v1 v2 v3 v4 v5 v6 v7 q1 q2 =>
    .idx h10 h12 fun e2 _ => .ok ⟨q1, q2, by show (r.1.Trips.set _ _).length ≤ 30; rw [List.length_set]; omega⟩
  refine .flb (.call (pick_ok 24 hc1 (by omega)) fun r2 ⟨hc2, _⟩ => ?_)
  refine .ite (fun _ => .call (among_ok _ (by simp) hc2 (by omega)) fun r3 ⟨hc3, _⟩ => .go (fin _ _ _ _ _ _ _ _ (hc3.mono (by omega)) hd.1)) fun _ => ?_
  refine .ite (fun _ => .call (pick_ok 7 hc2 (by omega)) fun r3 ⟨hc3, _⟩ => .go (fin _ _ _ _ _ _ _ _ (hc3.mono (by omega)) hd.1)) fun _ => ?_
  refine .ite (fun _ => .call (among_ok _ (by simp) hc2 (by omega)) fun r3 ⟨hc3, _⟩ => .go (fin _ _ _ _ _ _ _ _ (hc3.mono (by omega)) hd.1)) fun _ => ?_
  refine .ite (fun _ => .call (anyNet_ok hc2 (by omega)) fun r3 ⟨hc3, hb⟩ => .go (fin _ _ _ _ _ _ _ _ (hc3.mono (by omega)) hb)) fun _ => ?_
  refine .ite (fun _ => ?_) fun _ => .go (fin _ _ _ _ _ _ _ _ (hc2.mono (by omega)) hd.1)
  refine .call (P := fun o => Cur (k + 2000) ⟨o.1, o.2.1, ⟨o.2.2.1⟩⟩ ∧ o.2.2.2.length ≤ 30) ?_ fun o ⟨ho1, ho2⟩ => .ret ⟨ho1, hd.1, ho2⟩
  refine .iter (fun m s => ∃ i : Nat, s.1 = (i : Int) ∧ m + i = 14 ∧ s.2.2.2.2.length ≤ 8 + i ∧ Cur (k + 500 + 2 * i) ⟨s.2.1, s.2.2.1, ⟨s.2.2.2.1⟩⟩) (n := 14) ⟨0, rfl, rfl, by simpa using hl, hc2.mono (by omega)⟩ ?_
  rintro m ⟨v8, v9, v10, v11, v12⟩ ⟨i, hv, hm, hl12, hcur⟩
  simp only at hv hl12 hcur
  subst hv
  unfold s_l1Cur_anyTimetable_L1
  refine .call (pick_ok 2 hcur (by omega)) fun r8 ⟨hc8, _⟩ => ?_
  refine .call (P := fun b => b = true → i < 14) (.ite (fun _ => .ok fun hb => by simp at hb; omega) fun _ => .ok fun hb => by cases hb) fun b hb => ?_
  refine .ite (fun ht => .chk (by simp; omega) (.nx ⟨m - 1, by have := hb ht; omega, i + 1, w64_succ (by omega), by have := hb ht; omega, ?_, hc8.mono (by omega)⟩)) (fun _ => .dn ⟨hc8.mono (by omega), by show v12.length ≤ 30; omega⟩)
  show (v12 ++ [_]).length ≤ 8 + (i + 1); simp; omega
theorem idOf_ok {k : Nat} {c : l1Cur} (t : Timetable) (h : Cur k c) (hk : k ≤ 1000000000) : Tot (s_l1Cur_idOf c t) fun r => Cur (k + 4) r.2 := by
  unfold s_l1Cur_idOf
  refine .call (P := fun o => Cur (k + 2) ⟨o.2.1, o.2.2.1, ⟨o.2.2.2⟩⟩ ∧ (o.1 = false → 0 < t.Trips.length)) (.ite (fun _ => .ok ⟨h.mono (by omega), fun h => by cases h⟩) fun he => .call (one_ok 8 h (by omega)) fun r hc => .ok ⟨hc, fun _ => ?_⟩) fun o ⟨ho, hz⟩ => ?_
  · have : (t.Trips.length : Int) ≠ 0 := by simpa using he
    omega
  · refine .ite (fun _ => .call (pick_ok 30 ho (by omega)) fun r1 ⟨hc1, _⟩ => .ok (hc1.mono (by omega))) fun hf => ?_
    have := hz hf
    refine .call (pick_ok _ ho (by omega)) fun r3 ⟨hc3, h0, h1⟩ => .idx h0 (by omega) fun e _ => .ok (hc3.mono (by omega))
/-! What many laws lean on: draws in the style of Tot, lists held against themselves, comparisons. -/
theorem t_pick {k : Nat} {c : l1Cur} (n : Int) (h : Cur k c) (hk : k ≤ 3000000000) : Tot (s_l1Cur_pick c n) fun r => Cur (k + 2) r.2 ∧ 0 ≤ r.1 ∧ (r.1 < n ∨ r.1 = 0) := pick_ok n h hk
theorem t_one {k : Nat} {c : l1Cur} (n : Int) (h : Cur k c) (hk : k ≤ 3000000000) : Tot (s_l1Cur_one c n) fun r => Cur (k + 2) r.2 := one_ok n h hk
theorem t_among {k : Nat} {c : l1Cur} (l : List Int) (hl : l ≠ []) (h : Cur k c) (hk : k ≤ 3000000000) : Tot (s_l1Cur_among c l) fun r => Cur (k + 2) r.2 ∧ r.1 ∈ l := among_ok l hl h hk
theorem t_amongw {k : Nat} {c : l1Cur} (l : List Int) (hl : l ≠ []) (h : Cur k c) (hk : k ≤ 3000000000) : Tot (s_l1Cur_among_w c l) fun r => Cur (k + 2) r.2 ∧ r.1 ∈ l := amongw_ok l hl h hk
theorem t_time {k : Nat} {c : l1Cur} (h : Cur k c) (hk : k ≤ 2000000000) : Tot (s_l1Cur_time c) fun r => Cur (k + 4) r.2 := by
  unfold s_l1Cur_time
  refine Tot.call (t_one 16 h (by omega)) fun r hr => .ite (fun _ => ?_) (fun _ => ?_)
  · exact Tot.call (t_among _ (by simp) hr (by omega)) fun r hr => .ok hr.1
  · exact Tot.call (t_pick 240 hr (by omega)) fun r hr => .ok hr.1
theorem rBig_eq (code : List UInt8) : v_rBig code = some (decide (65536 < (code.length : Int))) := rfl
theorem compare_int (x y : Int) : cmp_Compare_int x y = some (if x < y then -1 else if y < x then 1 else 0) := by
  unfold cmp_Compare_int cmp_isNaN_int
  by_cases h : x < y
  · simp [h]
  · by_cases h2 : y < x <;> simp [h, h2]
theorem idx0 {α : Type} (l : List α) : idx l 0 = l[0]? := idx_nat l 0
/-! Lists held against themselves (the second half's helpers). -/
theorem rInts_refl (a : List Int) (h : a.length ≤ 100000) : v_rInts a a = some true := by
  unfold v_rInts
  simp only [bne_self_eq_false, Bool.false_eq_true, if_false]
  rw [all_val (hd := Classical.propDecidable _) a (fun _ _ => True) (fun i x hx => ?_) (by unfold v_rInts_L1; simp)]
  · rw [if_pos (fun _ _ _ => trivial)]
  · have hi := get_lt hx
    unfold v_rInts_L1
    have hlt : decide ((i : Int) < (a.length : Int)) = true := by simp; omega
    left
    simp only [hlt, if_true, idx_nat, hx, Option.bind_some, bne_self_eq_false, Bool.false_eq_true, if_false, w64_succ (n := i) (by omega), and_self]
theorem rTable_refl (a : List (List Int)) (h : a.length ≤ 100000) (h2 : ∀ r ∈ a, r.length ≤ 100000) : v_rTable a a = some true := by
  unfold v_rTable
  simp only [bne_self_eq_false, Bool.false_eq_true, if_false]
  rw [all_val (hd := Classical.propDecidable _) a (fun _ _ => True) (fun i x hx => ?_) (by unfold v_rTable_L1; simp)]
  · rw [if_pos (fun _ _ _ => trivial)]
  · have hi := get_lt hx
    unfold v_rTable_L1
    have hlt : decide ((i : Int) < (a.length : Int)) = true := by simp; omega
    left
    simp only [hlt, if_true, idx_nat, hx, Option.bind_some, rInts_refl x (h2 x (List.mem_of_getElem? hx)), Bool.not_true, Bool.false_eq_true, if_false, w64_succ (n := i) (by omega), and_self]
/-! Sorting: the helpers of the library's quicksort. -/
theorem fdivp {x : Int} (h : 0 ≤ x) (k : Nat) : x.fdiv (2 ^ k) = x / (2 ^ k : Nat) := by
  rw [Int.fdiv_eq_ediv_of_nonneg _ (by exact_mod_cast Nat.zero_le (2 ^ k))]
  simp
theorem pow_step {x y : Int} {v k : Nat} (h : y * (2 ^ v : Nat) ≤ x) (hy : 0 ≤ y) : y / (2 ^ k : Nat) * (2 ^ (v + k) : Nat) ≤ x := by
  have h1 : y / (2 ^ k : Nat) * (2 ^ k : Nat) ≤ y := Int.ediv_mul_le _ (by have := Nat.two_pow_pos k; omega)
  have h2 : y / (2 ^ k : Nat) * (2 ^ k : Nat) * (2 ^ v : Nat) ≤ y * (2 ^ v : Nat) := Int.mul_le_mul_of_nonneg_right h1 (Int.natCast_nonneg _)
  rw [Nat.add_comm, Nat.pow_add, Int.natCast_mul, ← Int.mul_assoc]
  omega
theorem len64_ok (x : IK .u64) (h0 : 0 ≤ x.v) (h1 : x.v < 8589934592) : Tot (math_bits_Len64 x) fun r => 0 ≤ r ∧ r ≤ 64 ∧ (1 ≤ x.v → ((2 ^ r.toNat : Nat) : Int) ≤ 2 * x.v) := by
  unfold math_bits_Len64
  refine Tot.call (P := fun (r : Int × Int) => 0 ≤ r.1 ∧ r.1 < 4294967296 ∧ (1 ≤ x.v → 1 ≤ r.1) ∧ 0 ≤ r.2 ∧ r.2 ≤ 32 ∧ r.1 * (2 ^ r.2.toNat : Nat) ≤ x.v) (.iteP (fun hc => Tot.chk (by decide) (.ok ?_)) (fun hc => .ok ⟨h0, by dsimp only; omega, fun h => h, Int.le_refl _, by dsimp only; omega, by simp⟩)) fun ⟨x1, v⟩ ⟨p1, p2, p3, p4, p5, p6⟩ => ?_
  · have e : ((2 ^ 32 : Nat) : Int) = 4294967296 := by decide
    have e2 : x.v.fdiv (2 ^ (min (32 : Int).toNat (IntKind.u64).bits)) = x.v / (2 ^ 32 : Nat) := fdivp h0 32
    simp only [e2]
    exact ⟨by omega, by omega, fun _ => by omega, by omega, by omega, Int.ediv_mul_le _ (by decide)⟩
  dsimp only at p1 p2 p3 p4 p5 p6 ⊢
  refine Tot.call (P := fun (r : Int × Int) => 0 ≤ r.1 ∧ r.1 < 65536 ∧ (1 ≤ x.v → 1 ≤ r.1) ∧ 0 ≤ r.2 ∧ r.2 ≤ 48 ∧ r.1 * (2 ^ r.2.toNat : Nat) ≤ x.v) (.iteP (fun hc => Tot.chk (by decide) (.ok ?_)) (fun hc => .ok ⟨p1, by dsimp only; omega, p3, p4, by dsimp only; omega, p6⟩)) fun ⟨x2, v1⟩ ⟨q1, q2, q3, q4, q5, q6⟩ => ?_
  · have e : ((2 ^ 16 : Nat) : Int) = 65536 := by decide
    have e2 : x1.fdiv (2 ^ (min (16 : Int).toNat (IntKind.u64).bits)) = x1 / (2 ^ 16 : Nat) := fdivp p1 16
    have e3 : w64 (v + 16) = v + 16 := w64_id (by omega)
    have e4 : (v + 16).toNat = v.toNat + 16 := by omega
    simp only [e2, e3, e4]
    exact ⟨by omega, by omega, fun _ => by omega, by omega, by omega, pow_step p6 p1⟩
  dsimp only at q1 q2 q3 q4 q5 q6 ⊢
  refine Tot.call (P := fun (r : Int × Int) => 0 ≤ r.1 ∧ r.1 < 256 ∧ (1 ≤ x.v → 1 ≤ r.1) ∧ 0 ≤ r.2 ∧ r.2 ≤ 56 ∧ r.1 * (2 ^ r.2.toNat : Nat) ≤ x.v) (.iteP (fun hc => Tot.chk (by decide) (.ok ?_)) (fun hc => .ok ⟨q1, by dsimp only; omega, q3, q4, by dsimp only; omega, q6⟩)) fun ⟨x3, v2⟩ ⟨r1, r2, r3, r4, r5, r6⟩ => ?_
  · have e : ((2 ^ 8 : Nat) : Int) = 256 := by decide
    have e2 : x2.fdiv (2 ^ (min (8 : Int).toNat (IntKind.u64).bits)) = x2 / (2 ^ 8 : Nat) := fdivp q1 8
    have e3 : w64 (v1 + 8) = v1 + 8 := w64_id (by omega)
    have e4 : (v1 + 8).toNat = v1.toNat + 8 := by omega
    simp only [e2, e3, e4]
    exact ⟨by omega, by omega, fun _ => by omega, by omega, by omega, pow_step q6 q1⟩
  dsimp only at r1 r2 r3 r4 r5 r6 ⊢
  have e8 : IntKind.u8.wrap x3 = x3 := Int.emod_eq_of_lt r1 r2
  rw [e8]
  generalize hs : str _ = S
  have hS : (Nat.beq S.size 256 && (List.range 256).all fun i => Nat.ble (S.data.toList.getD i 0).toNat 8 && (Nat.beq i 0 || Nat.ble (2 ^ (S.data.toList.getD i 0).toNat) (2 * i))) = true := by
    rw [← hs]; kernel_rfl
  clear hs
  simp only [Bool.and_eq_true, List.all_eq_true, List.mem_range, Bool.or_eq_true] at hS
  obtain ⟨s1, s2⟩ := hS
  have s1 := Nat.eq_of_beq_eq_true s1
  obtain ⟨n, rfl⟩ : ∃ n : Nat, x3 = n := ⟨x3.toNat, by omega⟩
  have s2 := s2 n (by omega)
  have t1 := Nat.le_of_ble_eq_true s2.1
  refine Tot.chk (by omega) (.ok ?_)
  rw [Int.toNat_natCast]
  revert t1 s2
  generalize (S.data.toList.getD n 0).toNat = t
  intro s2 t1
  rw [w64_id (x := (t : Int)) (by omega), w64_id (by omega)]
  refine ⟨by omega, by omega, fun hx => ?_⟩
  have e1 : (v2 + (t : Int)).toNat = v2.toNat + t := by omega
  rw [e1, Nat.pow_add, Int.natCast_mul]
  have hn := r3 hx
  have t2 : 2 ^ t ≤ 2 * n := by
    rcases s2.2 with h | h
    · have := Nat.eq_of_beq_eq_true h; omega
    · exact Nat.le_of_ble_eq_true h
  have t3 : ((2 ^ v2.toNat : Nat) : Int) * (2 ^ t : Nat) ≤ (2 ^ v2.toNat : Nat) * (2 * n : Nat) := Int.mul_le_mul_of_nonneg_left (by exact_mod_cast t2) (by exact_mod_cast Nat.zero_le _)
  have t4 : ((2 ^ v2.toNat : Nat) : Int) * ((2 * n : Nat) : Int) = 2 * ((n : Int) * (2 ^ v2.toNat : Nat)) := by
    rw [Int.natCast_mul, Int.mul_comm ((2 ^ v2.toNat : Nat) : Int), Int.mul_assoc]; rfl
  omega
theorem len_ok (x : IK .u64) (h0 : 0 ≤ x.v) (h1 : x.v < 8589934592) : Tot (math_bits_Len x) fun r => 0 ≤ r ∧ r ≤ 64 ∧ (1 ≤ x.v → ((2 ^ r.toNat : Nat) : Int) ≤ 2 * x.v) := by
  unfold math_bits_Len
  exact Tot.call (len64_ok x h0 h1) fun r hr => .ok hr
theorem u64_id' {n : Int} (h0 : 0 ≤ n) (h1 : n < 18446744073709551616) : IntKind.u64.wrap n = n := by
  show n % 18446744073709551616 = n
  exact Int.emod_eq_of_lt h0 h1
theorem hlp : Pdq.Hlp slices_nextPowerOfTwo slices_xorshift_Next := by
  refine ⟨fun n h1 h2 => ?_, fun x => ?_⟩
  · unfold slices_nextPowerOfTwo
    rw [u64_id' (by omega) (by omega)]
    refine Tot.call (len_ok ⟨n⟩ (by dsimp only; omega) (by dsimp only; omega)) fun r ⟨r1, r2, r3⟩ => Tot.chk r1 (.ok ?_)
    have r3 := r3 (by dsimp only; omega)
    dsimp only at r3 ⊢
    have e : min r.toNat (IntKind.u64).bits = r.toNat := Nat.min_eq_left (by show r.toNat ≤ 64; omega)
    have e2 : (1 : Int) * 2 ^ r.toNat = ((2 ^ r.toNat : Nat) : Int) := by rw [Int.one_mul]; norm_cast
    rw [e, e2]
    have := Nat.two_pow_pos r.toNat
    rw [u64_id' (by omega) (by omega)]
    omega
  · unfold slices_xorshift_Next
    exact Tot.chk (by decide) (Tot.chk (by decide) (Tot.chk (by decide) (.ok trivial)))
/-! Sorting pairs of numbers. -/
theorem lt_ArrivalsAt : Pdq.Lt i_ArrivalsAt_1 (fun a b => a.X0 < b.X0 ∨ (a.X0 = b.X0 ∧ a.X1 ≤ b.X1)) := by
  refine ⟨fun x y => by omega, fun a b => by omega, fun x y => ?_⟩
  have hz : ∀ (a b : Int), idx [a, b] 0 = some a ∧ idx [a, b] 1 = some b := fun a b => ⟨rfl, rfl⟩
  have e : i_ArrivalsAt_1 x y = some (if x.X0 < y.X0 then -1 else if y.X0 < x.X0 then 1 else if x.X1 < y.X1 then -1 else if y.X1 < x.X1 then 1 else 0) := by
    unfold i_ArrivalsAt_1 slices_Compare_int
    have w1 : w64 (0 + 1) = 1 := rfl
    have w2 : w64 (1 + 1) = 2 := rfl
    by_cases h1 : x.X0 < y.X0
    · rw [iter_eq]; unfold slices_Compare_int_L1; simp [hz, compare_int, h1]
    · by_cases h2 : y.X0 < x.X0
      · rw [iter_eq]; unfold slices_Compare_int_L1; simp [hz, compare_int, h1, h2]
      · rw [iter_eq]
        have s1 : slices_Compare_int_L1 [x.X0, x.X1] [y.X0, y.X1] 0 = some (.nx 1) := by unfold slices_Compare_int_L1; simp [hz, compare_int, h1, h2]; rfl
        rw [s1]; simp only []
        by_cases h3 : x.X1 < y.X1
        · rw [iter_eq]; unfold slices_Compare_int_L1; simp [hz, compare_int, h1, h2, h3]
        · by_cases h4 : y.X1 < x.X1
          · rw [iter_eq]; unfold slices_Compare_int_L1; simp [hz, compare_int, h1, h2, h3, h4]
          · have s2 : slices_Compare_int_L1 [x.X0, x.X1] [y.X0, y.X1] 1 = some (.nx 2) := by unfold slices_Compare_int_L1; simp [hz, compare_int, h3, h4]; rfl
            have s3 : slices_Compare_int_L1 [x.X0, x.X1] [y.X0, y.X1] 2 = some (.dn (.go ())) := by unfold slices_Compare_int_L1; simp
            simp only [iter_eq, s2, s3]
            simp [h1, h2, h3, h4]
  refine ⟨_, e, ?_⟩
  by_cases h1 : x.X0 < y.X0
  · rw [if_pos h1]; omega
  · by_cases h2 : y.X0 < x.X0
    · simp [h1, h2]
    · by_cases h3 : x.X1 < y.X1
      · rw [if_neg h1, if_neg h2, if_pos h3]; omega
      · by_cases h4 : y.X1 < x.X1
        · rw [if_neg h1, if_neg h2, if_neg h3, if_pos h4]; omega
        · rw [if_neg h1, if_neg h2, if_neg h3, if_neg h4]; omega
theorem pdqk_ArrivalsAt : ∀ n, slices_pdqsortCmpFunc__2_int_w__i_ArrivalsAt_1_k n = Pdq.pdq_k slices_nextPowerOfTwo slices_xorshift_Next i_ArrivalsAt_1 n
  | 0 => rfl
  | n + 1 => by
    show slices_pdqsortCmpFunc__2_int_w__i_ArrivalsAt_1_F (slices_pdqsortCmpFunc__2_int_w__i_ArrivalsAt_1_k n) = Pdq.pdq_F slices_nextPowerOfTwo slices_xorshift_Next i_ArrivalsAt_1 (Pdq.pdq_k slices_nextPowerOfTwo slices_xorshift_Next i_ArrivalsAt_1 n)
    rw [pdqk_ArrivalsAt n]
    rfl
theorem sort_ArrivalsAt (l : List A2_Int) (h : l.length < 4294967296) : Tot (slices_SortFunc__2_int_w__i_ArrivalsAt_1 l) fun l' => l'.Perm l ∧ l'.Pairwise fun a b => a.X0 < b.X0 ∨ (a.X0 = b.X0 ∧ a.X1 ≤ b.X1) := by
  unfold slices_SortFunc__2_int_w__i_ArrivalsAt_1
  refine Tot.call (len_ok _ (by dsimp only; rw [u64_id' (by omega) (by omega)]; omega) (by dsimp only; rw [u64_id' (by omega) (by omega)]; omega)) fun r _ => ?_
  unfold slices_pdqsortCmpFunc__2_int_w__i_ArrivalsAt_1
  rw [pdqk_ArrivalsAt]
  exact Tot.call (Pdq.pdq_ok lt_ArrivalsAt hlp (limit := r) h) fun l' hl' => .ok hl'
/-! Delays of trips: when they are valid; what is looked up; one more delay. -/
def DelP (t : Timetable) (d : TripDelay) : Prop := (∃ (k : Nat) (y : Trip), t.Trips[k]? = some y ∧ y.Id = d.Id) ∧ 0 ≤ d.Minutes ∧ d.Minutes ≤ 600
def GoodD (t : Timetable) (l : List TripDelay) : Prop := ∀ (i : Nat) d, l[i]? = some d → DelP t d ∧ ∀ z, 0 < i → l[i - 1]? = some z → z.Id < d.Id
noncomputable instance (t : Timetable) (l : List TripDelay) : Decidable (GoodD t l) := Classical.propDecidable _
noncomputable instance (t : Timetable) (d : TripDelay) : Decidable (DelP t d) := Classical.propDecidable _
theorem goodD_lt {t : Timetable} {l : List TripDelay} (h : GoodD t l) {i j : Nat} {a b : TripDelay} (hij : i < j) (ha : l[i]? = some a) (hb : l[j]? = some b) : a.Id < b.Id := by
  induction j generalizing b with
  | zero => omega
  | succ j ih =>
    obtain ⟨c, hc⟩ := get_ex (l := l) (i := j) (by have := get_lt hb; omega)
    have h1 := (h (j + 1) b hb).2 c (by omega) (by simpa using hc)
    by_cases hji : i = j
    · subst hji; rw [ha] at hc; cases hc; exact h1
    · have := ih (by omega) hc; omega
theorem goodD_iff {t : Timetable} {l : List TripDelay} : GoodD t l ↔ (∀ d ∈ l, DelP t d) ∧ l.Pairwise fun a b => a.Id < b.Id := by
  constructor
  · intro h
    refine ⟨fun d hd => ?_, List.pairwise_iff_getElem.2 fun i j hi hj hij => goodD_lt h hij (List.getElem?_eq_getElem hi) (List.getElem?_eq_getElem hj)⟩
    obtain ⟨i, hi⟩ := List.getElem?_of_mem hd
    exact (h i d hi).1
  · rintro ⟨h1, h2⟩ i d hd
    refine ⟨h1 d (List.mem_of_getElem? hd), fun z h0 hz => ?_⟩
    have := List.pairwise_iff_getElem.1 h2 (i - 1) i (get_lt hz) (get_lt hd) (by omega)
    rwa [(List.getElem?_eq_some_iff.1 hz).2, (List.getElem?_eq_some_iff.1 hd).2] at this
theorem tripIx_neg {t : Timetable} (id : Int) : fixI (fun x => x.Id == id) t.Trips < 0 ↔ ¬ ∃ (k : Nat) (y : Trip), t.Trips[k]? = some y ∧ y.Id = id := by
  constructor
  · rintro h ⟨k, y, h1, h2⟩
    have := fixI_neg h y (List.mem_of_getElem? h1)
    simp at this; exact this h2
  · intro h
    rcases found_or (t := t) id with h1 | ⟨k, y, h1, h2⟩
    · exact h1.1
    · exact absurd ⟨k, y, h1, h2⟩ h
theorem areDelays_eq {t : Timetable} (hb : TB t) (hT : GoodT t) (l : List TripDelay) (hl : l.length ≤ 100000) : i_areTripDelays t l = some (decide (GoodD t l)) := by
  unfold i_areTripDelays
  refine flb_dec (.iter (fun m s => ∃ i : Nat, s.2 = (i : Int) ∧ m + i = l.length ∧ (i = 0 → s.1 = 0) ∧ (∀ x, 0 < i → l[i - 1]? = some x → s.1 = x.Id) ∧ ∀ (j : Nat) d, j < i → l[j]? = some d → DelP t d ∧ ∀ z, 0 < j → l[j - 1]? = some z → z.Id < d.Id) (n := l.length) ⟨0, rfl, by omega, fun _ => rfl, fun x h => by omega, fun j d h => by omega⟩ ?_)
  rintro m ⟨d, v⟩ ⟨i, hv, hm, h0, h1, h2⟩
  simp only at hv h0 h1
  subst hv
  unfold i_areTripDelays_L1
  refine .iteP (fun hc => ?_) (fun hc => .dn (.inl ⟨rfl, fun j e he => h2 j e (by have := get_lt he; omega) he⟩))
  obtain ⟨e, he⟩ := get_ex (l := l) (i := i) (by omega)
  have hd : d < e.Id ∧ DelP t e ↔ DelP t e ∧ ∀ z, 0 < i → l[i - 1]? = some z → z.Id < e.Id := by
    constructor
    · rintro ⟨g1, g2⟩
      exact ⟨g2, fun z hz hz2 => by rw [← h1 z hz hz2]; exact g1⟩
    · rintro ⟨g1, g2⟩
      refine ⟨?_, g1⟩
      by_cases hi : i = 0
      · rw [h0 hi]
        obtain ⟨⟨k, y, hy, hy2⟩, _⟩ := g1
        obtain ⟨_, _, _, hid, _⟩ := trip_line hT hy
        omega
      · obtain ⟨z, hz⟩ := get_ex (l := l) (i := i - 1) (by omega)
        rw [h1 z (by omega) hz]; exact g2 z (by omega) hz
  refine .eq (ixs he) (.call (P := fun b => b = !decide (d < e.Id ∧ DelP t e)) ?_ fun b hb' => ?_)
  · refine .iteP (fun c => .ok ?_) (fun c => .eq (tripIndex_eq t hb.2 _) (.iteP (fun c2 => .ok ?_) (fun c2 => .eq (within_eq _ _ _) (.ok ?_))))
    · have : ¬ (d < e.Id ∧ DelP t e) := fun h => by omega
      simp [this]
    · have : ¬ (d < e.Id ∧ DelP t e) := fun h => (tripIx_neg e.Id).1 c2 h.2.1
      simp [this]
    · have hex : ∃ (k : Nat) (y : Trip), t.Trips[k]? = some y ∧ y.Id = e.Id   := Classical.byContradiction fun h => c2 ((tripIx_neg e.Id).2 h)
      congr 1
      rw [decide_eq_decide]
      unfold DelP
      constructor
      · intro h; exact ⟨by omega, hex, h⟩
      · intro h; exact h.2.2
  · subst hb'
    refine .iteN (fun hn => .dn (.inr ⟨rfl, fun hg => hn (hd.2 (hg i e he))⟩)) (fun hp => .nx ⟨m - 1, by omega, i + 1, w64_succ (by omega), by omega, fun h => by omega, fun x _ hx => ?_, fun j e' hj he' => ?_⟩)
    · rw [Nat.add_sub_cancel, he] at hx; cases hx; rfl
    · by_cases hji : j = i
      · subst hji; rw [he] at he'; cases he'; exact hd.1 hp
      · exact h2 j e' (by omega) he'
theorem l23Good_eq {t : Timetable} (hb : TB t) (l : List TripDelay) (hl : l.length ≤ 100000) : s_l23Good t l = some (decide (GoodT t ∧ GoodD t l)) := by
  unfold s_l23Good
  rw [goodT_eq hb]
  by_cases hT : GoodT t
  · simp only [hT, decide_true, Bool.not_true, Bool.false_eq_true, if_false, Option.bind_some, true_and]
    rw [all_val (hd := Classical.propDecidable _) l (fun i e => DelP t e ∧ ∀ z, 0 < i → l[i - 1]? = some z → z.Id < e.Id) (fun i e he => ?_) (by unfold s_l23Good_L1; simp)]
    · by_cases h : GoodD t l
      · rw [if_pos (fun i x hx => h i x hx)]; simp [h]
      · rw [if_neg (fun hc => h fun i x hx => hc i x hx)]; simp [h]
    have hi := get_lt he
    unfold s_l23Good_L1
    simp only [Int.ofNat_lt.2 hi, decide_true, if_true, idx_nat, he, Option.bind_some, l5Find_eq t hb.2, l1In_eq]
    by_cases c1 : ∃ (k : Nat) (y : Trip), t.Trips[k]? = some y ∧ y.Id = e.Id
    · have n1 : ¬ fixI (fun x => x.Id == e.Id) t.Trips < 0 := fun h => (tripIx_neg e.Id).1 h c1
      by_cases c2 : 0 ≤ e.Minutes ∧ e.Minutes ≤ 600
      · simp only [n1, c2, and_self, decide_true, decide_false, Bool.not_true, Bool.false_eq_true, if_false, Option.bind_some]
        by_cases h0 : 0 < (i : Int)
        · obtain ⟨z, hz⟩ := get_ex (l := l) (i := i - 1) (by omega)
          have ew : w64 ((i : Int) - 1) = ((i - 1 : Nat) : Int) := by rw [w64_id (by omega)]; omega
          simp only [h0, decide_true, if_true, ew, idx_nat, hz, Option.bind_some]
          by_cases c3 : e.Id ≤ z.Id
          · right
            refine ⟨by simp [c3], fun h => ?_⟩
            have := h.2 z (by omega) rfl; omega
          · left
            refine ⟨by rw [w64_succ (by omega)]; simp [c3], ⟨c1, c2⟩, fun z' _ hz' => by cases hz'; omega⟩
        · simp only [h0, decide_false, Bool.false_eq_true, if_false, Option.bind_some]
          left
          exact ⟨by rw [w64_succ (by omega)], ⟨c1, c2⟩, fun z hz => by omega⟩
      · right
        simp only [n1, c2, decide_false, Bool.not_false, Bool.false_eq_true, if_false, if_true, Option.bind_some]
        exact ⟨trivial, fun h => c2 h.1.2⟩
    · right
      have n1 : fixI (fun x => x.Id == e.Id) t.Trips < 0 := (tripIx_neg e.Id).2 c1
      simp only [n1, decide_true, if_true, Option.bind_some]
      exact ⟨trivial, fun h => c1 h.1.1⟩
  · simp [hT]
theorem validD_eq {t : Timetable} (hb : TB t) (l : List TripDelay) (hl : l.length ≤ 100000) : i_IsValidTripDelays t l = some (decide (GoodT t ∧ GoodD t l)) := by
  unfold i_IsValidTripDelays
  rw [validT_eq hb]
  by_cases hT : GoodT t
  · simp only [hT, decide_true, if_true, Option.bind_some, areDelays_eq hb hT l hl, true_and]
  · simp [hT]
def dOf (l : List TripDelay) (id : Int) : Int := ((l.find? fun e => e.Id == id).map (·.Minutes)).getD 0
theorem drop_at {α : Type} {l : List α} {k : Nat} {x : α} (h : l[k]? = some x) : l.drop k = x :: l.drop (k + 1) := by
  rw [List.drop_eq_getElem_cons (get_lt h)]
  congr 1
  exact (List.getElem?_eq_some_iff.1 h).2
theorem delayOf_eq (l : List TripDelay) (hl : l.length ≤ 100000) (id : Int) : i_delayOf l id = some (dOf l id) := by
  unfold i_delayOf
  refine Tot.val (.flb ((Tot.iter (fun m (v : Int) => ∃ k : Nat, v = (k : Int) ∧ m + k = l.length ∧ (l.drop k).find? (fun e => e.Id == id) = l.find? fun e => e.Id == id) (Q := fun b => (b = .go () ∧ dOf l id = 0) ∨ b = .ret (dOf l id)) (n := l.length) ⟨0, rfl, by omega, rfl⟩ ?_).mono fun b hb => ?_))
  · rintro m v ⟨k, rfl, hm, hf⟩
    unfold i_delayOf_L1
    refine .iteP (fun hc => ?_) (fun hc => .dn (.inl ⟨rfl, ?_⟩))
    · obtain ⟨e, he⟩ := get_ex (l := l) (i := k) (by omega)
      rw [drop_at he, List.find?_cons] at hf
      refine .eq (ixs he) (.ite (fun h => .dn (.inr ?_)) (fun h => .nx ⟨m - 1, by omega, k + 1, w64_succ (by omega), by omega, ?_⟩))
      · rw [h] at hf
        unfold dOf; rw [← hf]; rfl
      · rw [h] at hf; exact hf
    · rw [List.drop_of_length_le (by omega)] at hf
      unfold dOf; rw [← hf]; rfl
  · rcases hb with ⟨rfl, h⟩ | rfl
    · exact ⟨fun r e => (by cases e), fun u _ => .ok h.symm⟩
    · exact ⟨fun r e => (by cases e; rfl), fun u e => by cases e⟩
theorem l23Delay_eq (l : List TripDelay) (hl : l.length ≤ 100000) (id : Int) : s_l23Delay l id = some (dOf l id) := by
  unfold s_l23Delay
  refine Tot.val (.flb ((Tot.iter (fun m (v : Int) => ∃ k : Nat, v = (k : Int) ∧ m + k = l.length ∧ (l.drop k).find? (fun e => e.Id == id) = l.find? fun e => e.Id == id) (Q := fun b => (b = .go () ∧ dOf l id = 0) ∨ b = .ret (dOf l id)) (n := l.length) ⟨0, rfl, by omega, rfl⟩ ?_).mono fun b hb => ?_))
  · rintro m v ⟨k, rfl, hm, hf⟩
    unfold s_l23Delay_L1
    refine .iteP (fun hc => ?_) (fun hc => .dn (.inl ⟨rfl, ?_⟩))
    · obtain ⟨e, he⟩ := get_ex (l := l) (i := k) (by omega)
      rw [drop_at he, List.find?_cons] at hf
      refine .eq (ixs he) (.ite (fun h => .eq (ixs he) (.dn (.inr ?_))) (fun h => .nx ⟨m - 1, by omega, k + 1, w64_succ (by omega), by omega, ?_⟩))
      · rw [h] at hf
        unfold dOf; rw [← hf]; rfl
      · rw [h] at hf; exact hf
    · rw [List.drop_of_length_le (by omega)] at hf
      unfold dOf; rw [← hf]; rfl
  · rcases hb with ⟨rfl, h⟩ | rfl
    · exact ⟨fun r e => (by cases e), fun u _ => .ok h.symm⟩
    · exact ⟨fun r e => (by cases e; rfl), fun u e => by cases e⟩
theorem dOf_rng {t : Timetable} {l : List TripDelay} (h : GoodD t l) (id : Int) : 0 ≤ dOf l id ∧ dOf l id ≤ 600 := by
  unfold dOf
  cases hf : l.find? fun e => e.Id == id with
  | none => simp
  | some e =>
    obtain ⟨i, hi⟩ := List.getElem?_of_mem (List.mem_of_find?_eq_some hf)
    exact (h i e hi).1.2
def loD (l : List TripDelay) (id : Int) : List TripDelay := l.filter fun e => decide (e.Id < id)
def hiD (l : List TripDelay) (id : Int) : List TripDelay := l.filter fun e => decide (id < e.Id)
def midD (id w : Int) : List TripDelay := if w ≠ 0 then [⟨id, w⟩] else []
def putD (l : List TripDelay) (id w : Int) : List TripDelay := loD l id ++ midD id w ++ hiD l id
theorem flt_succ {α : Type} {l : List α} {i : Nat} {x : α} (p : α → Bool) (h : l[i]? = some x) : (l.take (i + 1)).filter p = (l.take i).filter p ++ (if p x = true then [x] else []) := by
  rw [take_succ h, List.filter_append]
  by_cases hp : p x = true <;> simp [hp]
theorem putD_len (l : List TripDelay) (id w : Int) : (putD l id w).length ≤ 2 * l.length + 1 := by
  unfold putD loD hiD midD
  have h1 := List.length_filter_le (fun e : TripDelay => decide (e.Id < id)) l
  have h2 := List.length_filter_le (fun e : TripDelay => decide (id < e.Id)) l
  rw [List.length_append, List.length_append]
  split <;> simp <;> omega
theorem iLo_ok (l : List TripDelay) (hl : l.length ≤ 100000) (id : Int) : iter (i_DelayTrip_L1 l id) ((0 : Int), ([] : List TripDelay)) = some (loD l id) := by
  refine Tot.val (Tot.iter (fun m s => ∃ k : Nat, s.1 = (k : Int) ∧ m + k = l.length ∧ s.2 = loD (l.take k) id) (n := l.length) ⟨0, rfl, by omega, by simp [loD]⟩ ?_)
  rintro m ⟨v, o⟩ ⟨k, hv, hm, ho⟩
  simp only at hv ho
  subst hv; subst ho
  unfold i_DelayTrip_L1
  have hle := List.length_filter_le (fun e : TripDelay => decide (e.Id < id)) (l.take k)
  rw [List.length_take] at hle
  refine .iteP (fun hc => ?_) (fun hc => .dn (by rw [show k = l.length by omega, List.take_length]))
  obtain ⟨e, he⟩ := get_ex (l := l) (i := k) (by omega)
  refine .call (P := fun o => o = loD (l.take (k + 1)) id) (.eq (ixs he) ?_) fun o ho => .nx ⟨m - 1, by omega, k + 1, w64_succ (by omega), by omega, ho⟩
  unfold loD at *
  rw [flt_succ _ he]
  exact .iteP (fun h => .chk (by simp; omega) (.ok (by rw [if_pos (by simpa using h)]))) (fun h => .ok (by rw [if_neg (by simpa using h), List.append_nil]))
theorem iHi_ok (l : List TripDelay) (hl : l.length ≤ 100000) (id : Int) (a : List TripDelay) (ha : a.length ≤ 1000000) : iter (i_DelayTrip_L2 l id) ((0 : Int), a) = some (a ++ hiD l id) := by
  refine Tot.val (Tot.iter (fun m s => ∃ k : Nat, s.1 = (k : Int) ∧ m + k = l.length ∧ s.2 = a ++ hiD (l.take k) id) (n := l.length) ⟨0, rfl, by omega, by simp [hiD]⟩ ?_)
  rintro m ⟨v, o⟩ ⟨k, hv, hm, ho⟩
  simp only at hv ho
  subst hv; subst ho
  unfold i_DelayTrip_L2
  have hle := List.length_filter_le (fun e : TripDelay => decide (id < e.Id)) (l.take k)
  rw [List.length_take] at hle
  refine .iteP (fun hc => ?_) (fun hc => .dn (by rw [show k = l.length by omega, List.take_length]))
  obtain ⟨e, he⟩ := get_ex (l := l) (i := k) (by omega)
  refine .call (P := fun o => o = a ++ hiD (l.take (k + 1)) id) (.eq (ixs he) ?_) fun o ho => .nx ⟨m - 1, by omega, k + 1, w64_succ (by omega), by omega, ho⟩
  unfold hiD at *
  rw [flt_succ _ he]
  exact .iteP (fun h => .chk (by simp; omega) (.ok (by rw [if_pos (by simpa using h), List.append_assoc]))) (fun h => .ok (by rw [if_neg (by simpa using h), List.append_nil]))
/-- The reference's loop: the delay is put in at its place. -/
theorem sPut_ok {t : Timetable} {l : List TripDelay} (h : GoodD t l) (hl : l.length ≤ 100000) (id m r : Int) (hw : w64 (r + m) = r + m) : Tot (iter (s_DelayTrip_L1 l id m r) ((r + m == 0), (0 : Int), ([] : List TripDelay))) fun (o : Bool × List TripDelay) => (if o.1 = true then o.2 else o.2 ++ [(⟨id, r + m⟩ : TripDelay)]) = putD l id (r + m) := by
  refine Tot.iter (fun q s => ∃ k : Nat, s.2.1 = (k : Int) ∧ q + k = l.length ∧ s.2.2 = loD (l.take k) id ++ (if s.1 = true then midD id (r + m) else []) ++ hiD (l.take k) id ∧ (s.1 = false → r + m ≠ 0 ∧ ∀ x ∈ l.take k, ¬ id < x.Id) ∧ (s.1 = true → r + m ≠ 0 → ∃ x ∈ l.take k, id < x.Id)) (n := l.length) ⟨0, rfl, by omega, ?_, fun hz => ⟨by simpa using hz, fun x hx => by simp at hx⟩, fun h1 h2 => by simp at h1; exact absurd h1 h2⟩ ?_
  · by_cases hz : r + m = 0 <;> simp [loD, hiD, midD, hz]
  rintro q ⟨b, v, a⟩ ⟨k, hv, hq, ha, hf, ht⟩
  simp only at hv ha hf ht
  subst hv
  unfold s_DelayTrip_L1
  have hle := List.length_filter_le (fun e : TripDelay => decide (e.Id < id)) (l.take k)
  have hle2 := List.length_filter_le (fun e : TripDelay => decide (id < e.Id)) (l.take k)
  rw [List.length_take] at hle hle2
  have hal : a.length ≤ 2 * k + 1 := by
    rw [ha, List.length_append, List.length_append]
    unfold loD hiD midD
    split
    · split <;> simp <;> omega
    · simp; omega
  refine .iteP (fun hc => ?_) (fun hc => .dn ?_)
  · obtain ⟨e, he⟩ := get_ex (l := l) (i := k) (by omega)
    have hbef : ∀ x ∈ l.take k, x.Id < e.Id := fun x hx => by
      obtain ⟨j, hj⟩ := List.getElem?_of_mem hx
      have hjk := get_lt hj
      rw [List.length_take] at hjk
      rw [List.getElem?_take_of_lt (by omega)] at hj
      exact goodD_lt h (by omega) hj he
    have hlo := flt_succ (fun e : TripDelay => decide (e.Id < id)) he
    have hhi := flt_succ (fun e : TripDelay => decide (id < e.Id)) he
    have hmem : ∀ x, x ∈ l.take (k + 1) ↔ x ∈ l.take k ∨ x = e := fun x => by rw [take_succ he]; simp
    rw [hw]
    refine .call (P := fun (o : Bool × List TripDelay) => o.2 = loD (l.take (k + 1)) id ++ (if o.1 = true then midD id (r + m) else []) ++ hiD (l.take (k + 1)) id ∧ (o.1 = false → r + m ≠ 0 ∧ ∀ x ∈ l.take (k + 1), ¬ id < x.Id) ∧ (o.1 = true → r + m ≠ 0 → ∃ x ∈ l.take (k + 1), id < x.Id)) ?_ fun o ⟨o1, o2, o3⟩ => .nx ⟨q - 1, by omega, k + 1, w64_succ (by omega), by omega, o1, o2, o3⟩
    refine .call (P := fun (o : Bool × List TripDelay) => o = (if b = false ∧ id < e.Id then (true, a ++ [⟨id, r + m⟩]) else (b, a))) ?_ fun ⟨b2, a2⟩ ho => ?_
    · refine .call (P := fun c => c = decide (b = false ∧ id < e.Id)) (.ite (fun hb => .eq (ixs he) (.ok (by simp at hb; simp [hb]))) (fun hb => .ok (by simp at hb; simp [hb]))) fun c hcc => ?_
      subst hcc
      exact .iteP (fun hp => .chk (by simp; omega) (.ok (by rw [if_pos hp]))) (fun hp => .ok (by rw [if_neg hp]))
    · refine .eq (ixs he) ?_
      by_cases hp : b = false ∧ id < e.Id
      · rw [if_pos hp] at ho
        cases ho
        obtain ⟨hz, hn⟩ := hf hp.1
        have hne : (e.Id != id) = true := by simp; omega
        refine .ite (fun _ => .eq (ixs he) (.chk (by simp; omega) (.ok ⟨?_, fun h => (by cases h), fun _ _ => ⟨e, (hmem e).2 (.inr rfl), hp.2⟩⟩))) (fun hx => by rw [hne] at hx; cases hx)
        have e1 : hiD (l.take k) id = [] := List.filter_eq_nil_iff.2 fun x hx => by simpa using hn x hx
        have e2 : loD (l.take (k + 1)) id = loD (l.take k) id := by unfold loD; rw [hlo, if_neg (by simp; omega), List.append_nil]
        have e3 : hiD (l.take (k + 1)) id = [e] := by unfold hiD at e1 ⊢; rw [hhi, e1, if_pos (by simpa using hp.2)]; rfl
        rw [hp.1, e1] at ha
        dsimp only
        rw [e2, e3, ha]
        unfold midD
        rw [if_pos hz]; simp
      · rw [if_neg hp] at ho
        cases ho
        by_cases hid : e.Id = id
        · have e2 : loD (l.take (k + 1)) id = loD (l.take k) id := by unfold loD; rw [hlo, if_neg (by simp; omega), List.append_nil]
          have e3 : hiD (l.take (k + 1)) id = hiD (l.take k) id := by unfold hiD; rw [hhi, if_neg (by simp; omega), List.append_nil]
          refine .ite (fun hx => by simp [hid] at hx) (fun _ => .ok ⟨by dsimp only; rw [e2, e3]; exact ha, fun hb => ⟨(hf hb).1, fun x hx => ?_⟩, fun hb hz => ?_⟩)
          · rcases (hmem x).1 hx with hx | rfl
            · exact (hf hb).2 x hx
            · omega
          · obtain ⟨x, hx, hx2⟩ := ht hb hz
            exact ⟨x, (hmem x).2 (.inl hx), hx2⟩
        · refine .ite (fun _ => .eq (ixs he) (.chk (by simp; omega) (.ok ?_))) (fun hx => by simp at hx; exact absurd hx hid)
          dsimp only
          by_cases hlt : e.Id < id
          · have e2 : loD (l.take (k + 1)) id = loD (l.take k) id ++ [e] := by unfold loD; rw [hlo, if_pos (by simpa using hlt)]
            have e3 : hiD (l.take (k + 1)) id = hiD (l.take k) id := by unfold hiD; rw [hhi, if_neg (by simp; omega), List.append_nil]
            have e1 : hiD (l.take k) id = [] := List.filter_eq_nil_iff.2 fun x hx => by have := hbef x hx; simp; omega
            have e4 : (if b = true then midD id (r + m) else []) = [] := by
              cases b with
              | false => rfl
              | true =>
                rw [if_pos rfl]; unfold midD
                by_cases hz : r + m = 0
                · simp [hz]
                · obtain ⟨x, hx, hx2⟩ := ht rfl hz
                  have := hbef x hx; omega
            refine ⟨?_, fun hb => ⟨(hf hb).1, fun x hx => ?_⟩, fun hb hz => ?_⟩
            · rw [ha, e2, e3, e1, e4]; simp
            · rcases (hmem x).1 hx with hx | rfl
              · exact (hf hb).2 x hx
              · omega
            · obtain ⟨x, hx, hx2⟩ := ht hb hz
              exact ⟨x, (hmem x).2 (.inl hx), hx2⟩
          · have hgt : id < e.Id := by omega
            have hb : b = true := by
              cases b with
              | true => rfl
              | false => exact absurd ⟨rfl, hgt⟩ hp
            subst hb
            have e2 : loD (l.take (k + 1)) id = loD (l.take k) id := by unfold loD; rw [hlo, if_neg (by simp; omega), List.append_nil]
            have e3 : hiD (l.take (k + 1)) id = hiD (l.take k) id ++ [e] := by unfold hiD; rw [hhi, if_pos (by simpa using hgt)]
            refine ⟨?_, fun hb => (by cases hb), fun _ _ => ⟨e, (hmem e).2 (.inr rfl), hgt⟩⟩
            rw [ha, e2, e3]; simp
  · have hk : k = l.length := by omega
    subst hk
    rw [List.take_length] at ha hf ht
    dsimp only
    unfold putD
    cases b with
    | true => rw [if_pos rfl, ha, if_pos rfl]
    | false =>
      obtain ⟨hz, hn⟩ := hf rfl
      have e1 : hiD l id = [] := List.filter_eq_nil_iff.2 fun x hx => by simpa using hn x hx
      rw [if_neg (by simp), ha, e1]
      unfold midD
      rw [if_pos hz]; simp
/-! A trip is delayed: both answers; taken back; overtakings. -/
theorem putD_good {t : Timetable} {l : List TripDelay} (h : GoodD t l) {id : Int} (hex : ∃ (k : Nat) (y : Trip), t.Trips[k]? = some y ∧ y.Id = id) {w : Int} (hw : 0 ≤ w ∧ w ≤ 600) : GoodD t (putD l id w) := by
  obtain ⟨h1, h2⟩ := goodD_iff.1 h
  have hmid : ∀ d ∈ midD id w, d = ⟨id, w⟩ := fun d hd => by
    unfold midD at hd
    split at hd
    · simpa using hd
    · cases hd
  refine goodD_iff.2 ⟨fun d hd => ?_, ?_⟩
  · unfold putD at hd
    rcases List.mem_append.1 hd with hd | hd
    · rcases List.mem_append.1 hd with hd | hd
      · exact h1 d (List.mem_filter.1 hd).1
      · rw [hmid d hd]; exact ⟨hex, hw⟩
    · exact h1 d (List.mem_filter.1 hd).1
  · unfold putD
    rw [List.pairwise_append, List.pairwise_append]
    refine ⟨⟨h2.filter _, ?_, fun a ha b hb => ?_⟩, h2.filter _, fun a ha b hb => ?_⟩
    · unfold midD; split <;> simp
    · have := (List.mem_filter.1 ha).2
      rw [hmid b hb]; simpa using this
    · have hb := (List.mem_filter.1 hb).2
      have hb : id < b.Id := by simpa using hb
      rcases List.mem_append.1 ha with ha | ha
      · have := (List.mem_filter.1 ha).2
        have : a.Id < id := by simpa using this
        omega
      · rw [hmid a ha]; exact hb
theorem dOf_put {l : List TripDelay} {id w : Int} : dOf (putD l id w) id = w := by
  have hlo : (loD l id).find? (fun e => e.Id == id) = none := List.find?_eq_none.2 fun x hx => by
    have := (List.mem_filter.1 hx).2
    simp at this ⊢; omega
  have hhi : (hiD l id).find? (fun e => e.Id == id) = none := List.find?_eq_none.2 fun x hx => by
    have := (List.mem_filter.1 hx).2
    simp at this ⊢; omega
  unfold dOf putD
  rw [List.find?_append, List.find?_append, hlo, hhi]
  unfold midD
  by_cases hz : w = 0
  · simp [hz]
  · simp [hz]
theorem loD_put {l : List TripDelay} {id w : Int} : loD (putD l id w) id = loD l id := by
  unfold loD putD
  rw [List.filter_append, List.filter_append]
  have e1 : (loD l id).filter (fun e => decide (e.Id < id)) = loD l id := List.filter_eq_self.2 fun x hx => (List.mem_filter.1 hx).2
  have e2 : (hiD l id).filter (fun e => decide (e.Id < id)) = [] := List.filter_eq_nil_iff.2 fun x hx => by
    have := (List.mem_filter.1 hx).2
    simp at this ⊢; omega
  have e3 : (midD id w).filter (fun e => decide (e.Id < id)) = [] := by unfold midD; split <;> simp
  rw [e1, e2, e3]; simp [loD]
theorem hiD_put {l : List TripDelay} {id w : Int} : hiD (putD l id w) id = hiD l id := by
  unfold hiD putD
  rw [List.filter_append, List.filter_append]
  have e1 : (loD l id).filter (fun e => decide (id < e.Id)) = [] := List.filter_eq_nil_iff.2 fun x hx => by
    have := (List.mem_filter.1 hx).2
    simp at this ⊢; omega
  have e2 : (hiD l id).filter (fun e => decide (id < e.Id)) = hiD l id := List.filter_eq_self.2 fun x hx => (List.mem_filter.1 hx).2
  have e3 : (midD id w).filter (fun e => decide (id < e.Id)) = [] := by unfold midD; split <;> simp
  rw [e1, e2, e3]; simp [hiD]
def AskD (t : Timetable) (l : List TripDelay) (id m : Int) : Prop := GoodT t ∧ GoodD t l ∧ (∃ (k : Nat) (y : Trip), t.Trips[k]? = some y ∧ y.Id = id) ∧ -600 ≤ m ∧ m ≤ 600
theorem iDelay_ok {t : Timetable} (hb : TB t) {l : List TripDelay} (hl : l.length ≤ 10000) (id m : Int) :
    (AskD t l id m ∧ i_DelayTrip t l id m = if GoodD t (putD l id (dOf l id + m)) then some (putD l id (dOf l id + m), true) else some ([], false)) ∨ (¬ AskD t l id m ∧ i_DelayTrip t l id m = some ([], false)) := by
  unfold i_DelayTrip
  simp only [validD_eq hb l (by omega), tripIndex_eq t hb.2, within_eq, Option.bind_some]
  by_cases h1 : GoodT t ∧ GoodD t l
  · by_cases h2 : ∃ (k : Nat) (y : Trip), t.Trips[k]? = some y ∧ y.Id = id
    · have n2 : ¬ fixI (fun x => x.Id == id) t.Trips < 0 := fun h => (tripIx_neg id).1 h h2
      by_cases h3 : -600 ≤ m ∧ m ≤ 600
      · left
        refine ⟨⟨h1.1, h1.2, h2, h3⟩, ?_⟩
        have hd := dOf_rng h1.2 id
        have ew : w64 (dOf l id + m) = dOf l id + m := w64_id (by omega)
        have hlo := List.length_filter_le (fun e : TripDelay => decide (e.Id < id)) l
        have hpl := putD_len l id (dOf l id + m)
        simp only [h1, n2, h3, and_self, decide_true, decide_false, Bool.not_true, Bool.false_eq_true, if_false, Option.bind_some, delayOf_eq l (by omega), iLo_ok l (by omega), ew]
        rw [← apply_ite some]
        refine Tot.val (.call (P := fun o => o = loD l id ++ midD id (dOf l id + m)) ?_ fun o ho => ?_)
        · unfold loD midD
          by_cases hz : dOf l id + m = 0
          · refine .ite (fun h => by simp [hz] at h) (fun _ => .ok (by simp [hz]))
          · refine .ite (fun _ => .chk (by simp; omega) (.ok (by rw [if_pos hz]))) (fun h => by simp at h; exact absurd h hz)
        · have hol : o.length ≤ 100000 := by
            rw [ho, List.length_append]
            unfold loD midD
            split <;> simp <;> omega
          refine .eq (iHi_ok l (by omega) id o (by omega)) ?_
          rw [ho]
          show Tot ((i_areTripDelays t (putD l id (dOf l id + m))).bind _) _
          refine .eq (areDelays_eq hb h1.1 _ (by omega)) (.iteN (fun h => .ok (by rw [if_neg h])) (fun h => .ok (by rw [if_pos h]; rfl)))
      · right
        refine ⟨fun h => h3 h.2.2.2, ?_⟩
        simp only [h1, n2, h3, and_self, decide_true, decide_false, Bool.not_true, Bool.not_false, Bool.false_eq_true, if_false, if_true, Option.bind_some]
    · right
      have n2 := (tripIx_neg id).2 h2
      refine ⟨fun h => h2 h.2.2.1, ?_⟩
      simp only [h1, n2, and_self, decide_true, Bool.not_true, Bool.false_eq_true, if_false, if_true, Option.bind_some]
  · right
    refine ⟨fun h => h1 ⟨h.1, h.2.1⟩, ?_⟩
    simp only [h1, decide_false, Bool.not_false, if_true, Option.bind_some]
theorem sDelay_ok {t : Timetable} (hb : TB t) {l : List TripDelay} (hl : l.length ≤ 10000) (id m : Int) :
    (AskD t l id m → s_DelayTrip t l id m = if GoodD t (putD l id (dOf l id + m)) then some (putD l id (dOf l id + m), true) else some ([], false)) ∧ (¬ AskD t l id m → s_DelayTrip t l id m = some ([], false)) := by
  unfold s_DelayTrip
  simp only [l23Good_eq hb l (by omega), l5Find_eq t hb.2, l1In_eq, Option.bind_some]
  constructor
  · rintro ⟨h1, h2, h3, h4⟩
    have n2 : ¬ fixI (fun x => x.Id == id) t.Trips < 0 := fun h => (tripIx_neg id).1 h h3
    have hd := dOf_rng h2 id
    have ew : w64 (dOf l id + m) = dOf l id + m := w64_id (by omega)
    have hpl := putD_len l id (dOf l id + m)
    simp only [h1, h2, n2, h4, and_self, decide_true, decide_false, Bool.not_true, Bool.false_eq_true, if_false, Option.bind_some, l23Delay_eq l (by omega), ew]
    rw [← apply_ite some]
    refine Tot.val (.call (sPut_ok h2 (by omega) id m (dOf l id) ew) fun ⟨b, o⟩ ho => ?_)
    dsimp only at ho ⊢
    refine .call (P := fun q => q = putD l id (dOf l id + m)) ?_ fun q hq => ?_
    · cases b with
      | true => rw [if_pos rfl] at ho; exact .ite (fun h => by cases h) (fun _ => .ok ho)
      | false =>
        rw [if_neg (by simp)] at ho
        have : o.length + 1 = (putD l id (dOf l id + m)).length := by rw [← ho]; simp
        exact .ite (fun _ => .chk (by simp; omega) (.ok ho)) (fun h => by cases h)
    · subst hq
      refine .eq (l23Good_eq hb _ (by omega)) ?_
      simp only [h1, true_and]
      exact .iteN (fun h => .ok (by rw [if_neg h])) (fun h => .ok (by rw [if_pos h]))
  · intro h
    by_cases h1 : GoodT t ∧ GoodD t l
    · by_cases h2 : ∃ (k : Nat) (y : Trip), t.Trips[k]? = some y ∧ y.Id = id
      · have n2 : ¬ fixI (fun x => x.Id == id) t.Trips < 0 := fun h => (tripIx_neg id).1 h h2
        have h3 : ¬ (-600 ≤ m ∧ m ≤ 600) := fun h3 => h ⟨h1.1, h1.2, h2, h3⟩
        simp only [h1, n2, h3, and_self, decide_true, decide_false, Bool.not_true, Bool.not_false, Bool.false_eq_true, if_false, if_true, Option.bind_some]
      · have n2 := (tripIx_neg id).2 h2
        simp only [h1, n2, and_self, decide_true, Bool.not_true, Bool.false_eq_true, if_false, if_true, Option.bind_some]
    · simp only [h1, decide_false, Bool.not_false, if_true, Option.bind_some]
/-- Both answers, and what comes when the delay is taken away again. -/
theorem delay_ok {t : Timetable} (hb : TB t) {l : List TripDelay} (hl : l.length ≤ 1000) (id m : Int) : ∃ q b, i_DelayTrip t l id m = some (q, b) ∧ s_DelayTrip t l id m = some (q, b) ∧ q.length ≤ 2001 ∧ (b = true → ∃ q', q'.length ≤ 2001 ∧ i_DelayTrip t q id (w64 (0 - m)) = some (q', true) ∧ i_DelayTrip t l id 0 = some (q', true)) := by
  rcases iDelay_ok hb (show l.length ≤ 10000 by omega) id m with ⟨hA, hi⟩ | ⟨hA, hi⟩
  · have hs := (sDelay_ok hb (show l.length ≤ 10000 by omega) id m).1 hA
    have hpl := putD_len l id (dOf l id + m)
    by_cases hg : GoodD t (putD l id (dOf l id + m))
    · rw [if_pos hg] at hi hs
      refine ⟨_, _, hi, hs, by omega, fun _ => ⟨putD l id (dOf l id), by have := putD_len l id (dOf l id); omega, ?_, ?_⟩⟩
      · have ew : w64 (0 - m) = 0 - m := w64_id (by have := hA.2.2.2; omega)
        rw [ew]
        rcases iDelay_ok hb (show (putD l id (dOf l id + m)).length ≤ 10000 by omega) id (0 - m) with ⟨_, h⟩ | ⟨h, _⟩
        · have e : putD (putD l id (dOf l id + m)) id (dOf (putD l id (dOf l id + m)) id + (0 - m)) = putD l id (dOf l id) := by
            rw [dOf_put]
            unfold putD at *
            have e1 := loD_put (l := l) (id := id) (w := dOf l id + m)
            have e2 := hiD_put (l := l) (id := id) (w := dOf l id + m)
            unfold putD at e1 e2
            rw [e1, e2, show dOf l id + m + (0 - m) = dOf l id by omega]
          rw [h, e, if_pos (putD_good hA.2.1 hA.2.2.1 (dOf_rng hA.2.1 id))]
        · exact absurd ⟨hA.1, hg, hA.2.2.1, by have := hA.2.2.2; omega, by have := hA.2.2.2; omega⟩ h
      · rcases iDelay_ok hb (show l.length ≤ 10000 by omega) id 0 with ⟨_, h⟩ | ⟨h, _⟩
        · rw [h, show dOf l id + 0 = dOf l id by omega, if_pos (putD_good hA.2.1 hA.2.2.1 (dOf_rng hA.2.1 id))]
        · exact absurd ⟨hA.1, hA.2.1, hA.2.2.1, by omega, by omega⟩ h
    · rw [if_neg hg] at hi hs
      exact ⟨_, _, hi, hs, by simp, fun h => by cases h⟩
  · exact ⟨_, _, hi, (sDelay_ok hb (show l.length ≤ 10000 by omega) id m).2 hA, by simp, fun h => by cases h⟩
/-! Stable sorting: two comparisons that agree on what matters; lists in the same order are the same. -/
theorem insE_cg {α : Type} {lt lt' : α → α → Bool} {x : α} : ∀ (n : Nat) {o : List α}, o.length = n → (∀ y ∈ o, lt x y = lt' x y) → Pdq.insE lt x o = Pdq.insE lt' x o
  | 0, o, hn, _ => by
    have : o = [] := List.length_eq_zero_iff.1 hn
    subst this; rfl
  | n + 1, o, hn, h => by
    obtain ⟨p, y, rfl⟩ := Pdq.snoc_ex (l := o) (by omega)
    rw [Pdq.insE_snoc, Pdq.insE_snoc, h y (by simp), insE_cg n (o := p) (by simpa using hn) fun z hz => h z (by simp [hz])]
theorem isort_cg {α : Type} {lt lt' : α → α → Bool} : ∀ (n : Nat) {l : List α}, l.length = n → (l.Pairwise fun y x => lt x y = lt' x y) → Pdq.isort lt l = Pdq.isort lt' l
  | 0, l, hn, _ => by
    have : l = [] := List.length_eq_zero_iff.1 hn
    subst this; rfl
  | n + 1, l, hn, h => by
    obtain ⟨p, y, rfl⟩ := Pdq.snoc_ex (l := l) (by omega)
    rw [List.pairwise_append] at h
    rw [Pdq.isort_snoc, Pdq.isort_snoc, isort_cg n (l := p) (by simpa using hn) h.1]
    exact insE_cg _ rfl fun z hz => h.2.2 z ((Pdq.isort_perm _).mem_iff.1 hz) y (by simp)
theorem flatMap_fm {α β γ : Type} (f : α → Option β) (g : β → List γ) : ∀ l : List α, (l.filterMap f).flatMap g = l.flatMap fun x => match f x with | some a => g a | none => []
  | [] => rfl
  | x :: l => by
    have ih := flatMap_fm f g l
    cases h : f x <;> simp [h, ih]
theorem flatMap_le {α β : Type} (f : α → List β) (c : Nat) : ∀ l : List α, (∀ x ∈ l, (f x).length ≤ c) → (l.flatMap f).length ≤ c * l.length
  | [], _ => by simp
  | x :: l, h => by
    have ih := flatMap_le f c l fun y hy => h y (List.mem_cons_of_mem _ hy)
    have := h x (List.mem_cons_self ..)
    rw [List.flatMap_cons, List.length_append, List.length_cons, Nat.mul_add]
    omega
theorem flatMap_take {α β : Type} (f : α → List β) {l : List α} {k : Nat} {x : α} (h : l[k]? = some x) : (l.take (k + 1)).flatMap f = (l.take k).flatMap f ++ f x := by
  rw [take_succ h, List.flatMap_append]; simp
/-! Departures with delays; overtakings. -/
def dpT (t : Timetable) (D : List TripDelay) (stop : Int) (x : Trip) : Option departure := match idx t.Network.Lines x.Line with
  | some l => if 0 ≤ fixI (fun e => stop == e) l.Stops ∧ fixI (fun e => stop == e) l.Stops < (l.Runs.length : Int) then some ⟨x, x.Start + (l.Runs.take (fixI (fun e => stop == e) l.Stops).toNat).sum, dOf D x.Id⟩ else none
  | none => none
def dps (t : Timetable) (D : List TripDelay) (stop : Int) (k : Nat) : List departure := (t.Trips.take k).filterMap (dpT t D stop)
theorem dps_succ {t : Timetable} {D : List TripDelay} {stop : Int} {k : Nat} {x : Trip} (hx : t.Trips[k]? = some x) : dps t D stop (k + 1) = dps t D stop k ++ (dpT t D stop x).toList := by
  unfold dps
  rw [take_succ hx, List.filterMap_append]
  cases h : dpT t D stop x <;> simp [h]
theorem dps_le {t : Timetable} {D : List TripDelay} {stop : Int} {k : Nat} : (dps t D stop k).length ≤ k := by
  have := List.length_filterMap_le (dpT t D stop) (t.Trips.take k)
  rw [List.length_take] at this
  unfold dps; omega
theorem dpT_eq {t : Timetable} {D : List TripDelay} {stop : Int} {x : Trip} {l : Line} (hl : idx t.Network.Lines x.Line = some l) : dpT t D stop x = if 0 ≤ fixI (fun e => stop == e) l.Stops ∧ fixI (fun e => stop == e) l.Stops < (l.Runs.length : Int) then some ⟨x, x.Start + (l.Runs.take (fixI (fun e => stop == e) l.Stops).toNat).sum, dOf D x.Id⟩ else none := by
  unfold dpT; rw [hl]
theorem dp_rng {t : Timetable} (hT : GoodT t) {D : List TripDelay} (hD : GoodD t D) {stop : Int} {d : departure} (h : d ∈ dps t D stop t.Trips.length) : (0 ≤ d.time_ ∧ d.time_ ≤ 2099) ∧ 0 ≤ d.delay_ ∧ d.delay_ ≤ 600 := by
  unfold dps at h
  rw [List.take_length] at h
  obtain ⟨x, hx1, hx2⟩ := List.mem_filterMap.1 h
  obtain ⟨j, hj⟩ := List.getElem?_of_mem hx1
  obtain ⟨l, hl, hp, _, hs, _⟩ := trip_line hT hj
  rw [dpT_eq hl] at hx2
  have hd := dOf_rng hD x.Id
  have hr := runs_sum hp (fixI (fun e => stop == e) l.Stops).toNat
  by_cases hC : 0 ≤ fixI (fun e => stop == e) l.Stops ∧ fixI (fun e => stop == e) l.Stops < (l.Runs.length : Int)
  · rw [if_pos hC] at hx2
    obtain rfl := Option.some.inj hx2
    dsimp only; omega
  · rw [if_neg hC] at hx2; cases hx2
theorem depAt_ok {t : Timetable} (hT : GoodT t) {D : List TripDelay} (hDl : D.length ≤ 100000) (stop : Int) : i_departuresAt t D stop = some (dps t D stop t.Trips.length) := by
  have h12 := hT.2.1
  unfold i_departuresAt
  refine Tot.val (.call (P := fun o => o = dps t D stop t.Trips.length) ?_ fun o ho => .ok ho)
  refine Tot.iter (fun m s => ∃ i : Nat, s.1 = (i : Int) ∧ m + i = t.Trips.length ∧ s.2 = dps t D stop i) (n := t.Trips.length) ⟨0, rfl, rfl, rfl⟩ ?_
  rintro m ⟨v, o⟩ ⟨i, hv, hm, ho⟩
  simp only at hv ho
  subst hv; subst ho
  unfold i_departuresAt_L1
  have hle := dps_le (t := t) (D := D) (stop := stop) (k := i)
  refine .iteP (fun hc => ?_) (fun hc => .dn (by rw [show i = t.Trips.length by omega]))
  obtain ⟨x, hx⟩ := get_ex (l := t.Trips) (i := i) (by omega)
  obtain ⟨l, hl, hp, hid, hs, _⟩ := trip_line hT hx
  obtain ⟨⟨r1, r2, r3⟩, _⟩ := line_runs hp
  refine .call (P := fun o => o = dps t D stop (i + 1)) ?_ fun o ho => .nx ⟨m - 1, by omega, i + 1, w64_succ (by omega), by omega, ho⟩
  refine .eq (ixs hx) (.eq (lineOf_eq hl) (.eq (stopTimes_eq hl hp hs) (.eq (index_int_eq l.Stops (by omega) stop) ?_)))
  rw [dps_succ hx, dpT_eq hl]
  generalize fixI (fun e => stop == e) l.Stops = p
  have hlen : w64 ((l.Stops.length : Int) - 1) = (l.Runs.length : Int) := by rw [w64_id (by omega)]; omega
  rw [hlen]
  refine .call (P := fun b => b = decide (0 ≤ p ∧ p < (l.Runs.length : Int))) (.iteP (fun h1 => .ok (by simp [h1])) (fun h1 => .ok (by simp [h1]))) fun b hb => ?_
  subst hb
  refine .iteP (fun hC => .eq (idx_of hC.1 (ST_at (l := l) (s := x.Start) (k := p.toNat) (by omega))) (.eq (delayOf_eq D hDl x.Id) (.chk (by simp; omega) (.ok ?_)))) (fun hC => .ok ?_)
  · rw [if_pos hC]; rfl
  · rw [if_neg hC]; simp
def ov (a b : departure) : List (List Int) := if a.time_ < b.time_ ∧ b.time_ + b.delay_ < a.time_ + a.delay_ then [[a.trip_.Id, b.trip_.Id]] else []
theorem ov_len (a b : departure) : (ov a b).length ≤ 1 := by unfold ov; split <;> simp
def ovs (l : List departure) : List (List Int) := l.flatMap fun a => l.flatMap (ov a)
theorem iOv_ok {l : List departure} (hl : l.length ≤ 100) (hb : ∀ d ∈ l, (0 ≤ d.time_ ∧ d.time_ ≤ 2099) ∧ 0 ≤ d.delay_ ∧ d.delay_ ≤ 600) : iter (i_Overtakings_L2 l) ((0 : Int), ([] : List (List Int))) = some (ovs l) := by
  refine Tot.val (Tot.iter (fun m s => ∃ i : Nat, s.1 = (i : Int) ∧ m + i = l.length ∧ s.2 = (l.take i).flatMap fun a => l.flatMap (ov a)) (n := l.length) ⟨0, rfl, by omega, rfl⟩ ?_)
  rintro m ⟨v, o⟩ ⟨i, hv, hm, ho⟩
  simp only at hv ho
  subst hv; subst ho
  unfold i_Overtakings_L2
  refine .iteP (fun hc => ?_) (fun hc => .dn (by unfold ovs; rw [List.take_of_length_le (by omega)]))
  obtain ⟨a, ha⟩ := get_ex (l := l) (i := i) (by omega)
  have hab := hb a (List.mem_of_getElem? ha)
  have hl1 := flatMap_le (fun a => l.flatMap (ov a)) l.length (l.take i) fun x _ => by
    have := flatMap_le (ov x) 1 l fun y _ => ov_len x y
    omega
  have hl2 : ((l.take i).flatMap fun a => l.flatMap (ov a)).length ≤ 100 * 100 := by
    refine Nat.le_trans hl1 (Nat.mul_le_mul hl ?_)
    rw [List.length_take]; omega
  refine .eq (ixs ha) (.call (P := fun o => o = (l.take (i + 1)).flatMap fun a => l.flatMap (ov a)) ?_ fun o ho => .nx ⟨m - 1, by omega, i + 1, w64_succ (by omega), by omega, ho⟩)
  rw [flatMap_take _ ha]
  refine Tot.iter (fun m s => ∃ k : Nat, s.1 = (k : Int) ∧ m + k = l.length ∧ s.2 = ((l.take i).flatMap fun a => l.flatMap (ov a)) ++ (l.take k).flatMap (ov a)) (n := l.length) ⟨0, rfl, by omega, by simp⟩ ?_
  rintro q ⟨w, p⟩ ⟨k, hw, hq, hp⟩
  simp only at hw hp
  subst hw; subst hp
  unfold i_Overtakings_L1
  refine .iteP (fun hc => ?_) (fun hc => .dn (by rw [List.take_of_length_le (l := l) (i := k) (by omega)]))
  obtain ⟨b, hb'⟩ := get_ex (l := l) (i := k) (by omega)
  have hbb := hb b (List.mem_of_getElem? hb')
  have hl3 := flatMap_le (ov a) 1 (l.take k) fun y _ => ov_len a y
  rw [List.length_take] at hl3
  have e1 : w64 (b.time_ + b.delay_) = b.time_ + b.delay_ := w64_id (by omega)
  have e2 : w64 (a.time_ + a.delay_) = a.time_ + a.delay_ := w64_id (by omega)
  rw [e2]
  refine .call (P := fun o => o = ((l.take i).flatMap fun a => l.flatMap (ov a)) ++ (l.take (k + 1)).flatMap (ov a)) (.eq (ixs hb') ?_) fun o ho => .nx ⟨q - 1, by omega, k + 1, w64_succ (by omega), by omega, ho⟩
  rw [e1, flatMap_take _ hb']
  refine .call (P := fun c => c = decide (a.time_ < b.time_ ∧ b.time_ + b.delay_ < a.time_ + a.delay_)) (.iteP (fun h => .ok (by simp [h])) (fun h => .ok (by simp [h]))) fun c hc => ?_
  subst hc
  refine .iteP (fun h => .chk (by simp only [List.length_append, List.length_cons, List.length_nil]; omega) (.ok ?_)) (fun h => .ok ?_)
  · unfold ov; rw [if_pos h, List.append_assoc]
  · rw [show ov a b = [] by unfold ov; rw [if_neg h], List.append_nil]
/-- A trip's departure as the reference has it. -/
theorem l23Dep_ok {t : Timetable} (hT : GoodT t) (D : List TripDelay) {i : Nat} {x : Trip} (hx : t.Trips[i]? = some x) (stop : Int) : (∃ d, dpT t D stop x = some d ∧ d.trip_ = x ∧ d.delay_ = dOf D x.Id ∧ 0 ≤ d.time_ ∧ d.time_ ≤ 2099 ∧ s_l23Departure t (i : Int) stop = some d.time_) ∨ (dpT t D stop x = none ∧ s_l23Departure t (i : Int) stop = some (-1)) := by
  obtain ⟨l, hl, hp, hid, hs, _⟩ := trip_line hT hx
  obtain ⟨⟨r1, r2, r3⟩, _⟩ := line_runs hp
  rw [dpT_eq hl]
  unfold s_l23Departure
  rw [l5Line_eq hx hl]
  simp only [Option.bind_some]
  rw [l2Place_eq l (by omega) stop]
  simp only [Option.bind_some, l5Stops_eq hx hl]
  have hr : fixI (fun e => stop == e) l.Stops ≤ (l.Runs.length : Int) := by
    rcases fixI_rng (fun e => stop == e) l.Stops with h | h <;> omega
  revert hr
  generalize fixI (fun e => stop == e) l.Stops = p
  intro hr
  have hlen : w64 ((l.Stops.length : Int) - 1) = (l.Runs.length : Int) := by rw [w64_id (by omega)]; omega
  rw [hlen]
  by_cases hC : 0 ≤ p ∧ p < (l.Runs.length : Int)
  · left
    have hAt := l5At_eq hT.1 hx hl hs (k := p.toNat) (by omega)
    rw [show ((p.toNat : Nat) : Int) = p by omega] at hAt
    have hrs := runs_sum hp p.toNat
    refine ⟨_, if_pos hC, rfl, rfl, by dsimp only; omega, by dsimp only; omega, ?_⟩
    have h1 : ¬ p < 0 := by omega
    have h2 : (p == (l.Runs.length : Int)) = false := by simp; omega
    simp only [h1, decide_false, Bool.false_eq_true, if_false, h2, Option.bind_some, hAt]
  · right
    refine ⟨if_neg hC, ?_⟩
    by_cases h1 : p < 0
    · simp only [h1, decide_true, if_true, Option.bind_some]
    · have h2 : (p == (l.Runs.length : Int)) = true := by simp; omega
      simp only [h1, decide_false, Bool.false_eq_true, if_false, h2, if_true, Option.bind_some]
def ovO : Option departure → Option departure → List (List Int)
  | some a, some b => ov a b
  | _, _ => []
theorem ovO_len (a b : Option departure) : (ovO a b).length ≤ 1 := by
  unfold ovO
  split
  · exact ov_len _ _
  · simp
theorem ovs_eq (t : Timetable) (D : List TripDelay) (stop : Int) : ovs (dps t D stop t.Trips.length) = t.Trips.flatMap fun x => t.Trips.flatMap fun y => ovO (dpT t D stop x) (dpT t D stop y) := by
  unfold ovs dps
  rw [List.take_length, flatMap_fm]
  congr 1
  funext x
  cases hx : dpT t D stop x with
  | none =>
    symm
    rw [List.flatMap_eq_nil_iff]
    intro y _; rfl
  | some a =>
    show (t.Trips.filterMap (dpT t D stop)).flatMap (ov a) = _
    rw [flatMap_fm]
    congr 1
    funext y
    cases hy : dpT t D stop y <;> rfl
theorem sOv_ok {t : Timetable} (hT : GoodT t) {D : List TripDelay} (hD : GoodD t D) (hDl : D.length ≤ 100000) (stop : Int) : iter (s_Overtakings_L2 t D stop) ((0 : Int), ([] : List (List Int))) = some (ovs (dps t D stop t.Trips.length)) := by
  have h12 := hT.2.1
  rw [ovs_eq]
  refine Tot.val (Tot.iter (fun m s => ∃ i : Nat, s.1 = (i : Int) ∧ m + i = t.Trips.length ∧ s.2 = (t.Trips.take i).flatMap fun x => t.Trips.flatMap fun y => ovO (dpT t D stop x) (dpT t D stop y)) (n := t.Trips.length) ⟨0, rfl, by omega, rfl⟩ ?_)
  rintro m ⟨v, o⟩ ⟨i, hv, hm, ho⟩
  simp only at hv ho
  subst hv; subst ho
  unfold s_Overtakings_L2
  refine .iteP (fun hc => ?_) (fun hc => .dn (by rw [List.take_of_length_le (by omega)]))
  obtain ⟨x, hx⟩ := get_ex (l := t.Trips) (i := i) (by omega)
  have hl1 := flatMap_le (fun x => t.Trips.flatMap fun y => ovO (dpT t D stop x) (dpT t D stop y)) 12 (t.Trips.take i) fun x _ => by
    have := flatMap_le (fun y => ovO (dpT t D stop x) (dpT t D stop y)) 1 t.Trips fun y _ => ovO_len _ _
    omega
  rw [List.length_take] at hl1
  refine .call (P := fun o => o = (t.Trips.take (i + 1)).flatMap fun x => t.Trips.flatMap fun y => ovO (dpT t D stop x) (dpT t D stop y)) ?_ fun o ho => .nx ⟨m - 1, by omega, i + 1, w64_succ (by omega), by omega, ho⟩
  rw [flatMap_take _ hx]
  refine Tot.iter (fun m s => ∃ k : Nat, s.1 = (k : Int) ∧ m + k = t.Trips.length ∧ s.2 = ((t.Trips.take i).flatMap fun x => t.Trips.flatMap fun y => ovO (dpT t D stop x) (dpT t D stop y)) ++ (t.Trips.take k).flatMap fun y => ovO (dpT t D stop x) (dpT t D stop y)) (n := t.Trips.length) ⟨0, rfl, by omega, by simp⟩ ?_
  rintro q ⟨w, p⟩ ⟨k, hw, hq, hp⟩
  simp only at hw hp
  subst hw; subst hp
  unfold s_Overtakings_L1
  refine .iteP (fun hc => ?_) (fun hc => .dn (by rw [List.take_of_length_le (l := t.Trips) (i := k) (by omega)]))
  obtain ⟨y, hy⟩ := get_ex (l := t.Trips) (i := k) (by omega)
  have hl3 := flatMap_le (fun y => ovO (dpT t D stop x) (dpT t D stop y)) 1 (t.Trips.take k) fun y _ => ovO_len _ _
  rw [List.length_take] at hl3
  have dx := dOf_rng hD x.Id
  have dy := dOf_rng hD y.Id
  refine .call (P := fun o => o = ((t.Trips.take i).flatMap fun x => t.Trips.flatMap fun y => ovO (dpT t D stop x) (dpT t D stop y)) ++ (t.Trips.take (k + 1)).flatMap fun y => ovO (dpT t D stop x) (dpT t D stop y)) ?_ fun o ho => .nx ⟨q - 1, by omega, k + 1, w64_succ (by omega), by omega, ho⟩
  rw [flatMap_take _ hy]
  have key : ∀ (a b : Int), s_l23Departure t (i : Int) stop = some a → s_l23Departure t (k : Int) stop = some b → -1 ≤ a → a ≤ 2099 → -1 ≤ b → b ≤ 2099 → ovO (dpT t D stop x) (dpT t D stop y) = (if 0 ≤ a ∧ 0 ≤ b ∧ a < b ∧ b + dOf D y.Id < a + dOf D x.Id then [[x.Id, y.Id]] else []) → Tot ((s_l23Departure t (i : Int) stop).bind fun r3 =>
   (s_l23Departure t (k : Int) stop).bind fun r4 =>
   (idx t.Trips (i : Int)).bind fun e2 =>
   (s_l23Delay D e2.Id).bind fun r7 =>
   (idx t.Trips (k : Int)).bind fun e3 =>
   (s_l23Delay D e3.Id).bind fun r8 =>
   (if (decide (0 ≤ r3)) = true then if (decide (0 ≤ r4)) = true then if (decide (r3 < r4)) = true then some (decide ((w64 (r4 + r8)) < (w64 (r3 + r7)))) else some false else some false else some false).bind fun (v : Bool) =>
   if v = true then
    (idx t.Trips (i : Int)).bind fun e6 =>
    (idx t.Trips (k : Int)).bind fun e7 =>
    (chk ((((t.Trips.take i).flatMap fun x => t.Trips.flatMap fun y => ovO (dpT t D stop x) (dpT t D stop y)) ++ (t.Trips.take k).flatMap fun y => ovO (dpT t D stop x) (dpT t D stop y)).length + ([([e6.Id, e7.Id] : List Int)] : List (List Int)).length ≤ 4294967296)).bind fun u1 =>
    some ((((t.Trips.take i).flatMap fun x => t.Trips.flatMap fun y => ovO (dpT t D stop x) (dpT t D stop y)) ++ (t.Trips.take k).flatMap fun y => ovO (dpT t D stop x) (dpT t D stop y)) ++ ([([e6.Id, e7.Id] : List Int)] : List (List Int)))
   else
    some (((t.Trips.take i).flatMap fun x => t.Trips.flatMap fun y => ovO (dpT t D stop x) (dpT t D stop y)) ++ (t.Trips.take k).flatMap fun y => ovO (dpT t D stop x) (dpT t D stop y))) fun o => o = ((t.Trips.take i).flatMap fun x => t.Trips.flatMap fun y => ovO (dpT t D stop x) (dpT t D stop y)) ++ ((t.Trips.take k).flatMap (fun y => ovO (dpT t D stop x) (dpT t D stop y)) ++ ovO (dpT t D stop x) (dpT t D stop y)) := fun a b ha hb a1 a2 b1 b2 hov => by
    rw [hov]
    have e1 : w64 (b + dOf D y.Id) = b + dOf D y.Id := w64_id (by omega)
    have e2 : w64 (a + dOf D x.Id) = a + dOf D x.Id := w64_id (by omega)
    refine .eq ha (.eq hb (.eq (ixs hx) (.eq (l23Delay_eq D hDl x.Id) (.eq (ixs hy) (.eq (l23Delay_eq D hDl y.Id) ?_)))))
    rw [e1, e2]
    refine .call (P := fun c => c = decide (0 ≤ a ∧ 0 ≤ b ∧ a < b ∧ b + dOf D y.Id < a + dOf D x.Id)) (.iteP (fun h1 => .iteP (fun h2 => .iteP (fun h3 => .ok (by simp [h1, h2, h3])) (fun h3 => .ok (by simp [h3]))) (fun h2 => .ok (by simp [h2]))) (fun h1 => .ok (by simp [h1]))) fun c hc => ?_
    subst hc
    refine .iteP (fun h => .eq (ixs hx) (.eq (ixs hy) (.chk (by simp only [List.length_append, List.length_cons, List.length_nil]; omega) (.ok ?_)))) (fun h => .ok ?_)
    · rw [if_pos h, List.append_assoc]
    · rw [if_neg h, List.append_nil]
  rcases l23Dep_ok hT D hx stop with ⟨a, p1, p2, p3, p4, p5, p6⟩ | ⟨p1, p2⟩
  · rcases l23Dep_ok hT D hy stop with ⟨b, q1, q2, q3, q4, q5, q6⟩ | ⟨q1, q2⟩
    · refine key _ _ p6 q6 (by omega) p5 (by omega) q5 ?_
      rw [p1, q1]
      show ov a b = _
      unfold ov
      rw [p2, q2, p3, q3]
      by_cases h : a.time_ < b.time_ ∧ b.time_ + dOf D y.Id < a.time_ + dOf D x.Id
      · rw [if_pos h, if_pos ⟨p4, q4, h⟩]
      · rw [if_neg h, if_neg (fun h' => h h'.2.2)]
    · refine key _ _ p6 q2 (by omega) p5 (by omega) (by omega) ?_
      rw [q1, if_neg (by omega)]
      cases dpT t D stop x <;> rfl
  · rcases l23Dep_ok hT D hy stop with ⟨b, q1, q2, q3, q4, q5, q6⟩ | ⟨q1, q2⟩
    · refine key _ _ p2 q6 (by omega) (by omega) (by omega) q5 ?_
      rw [p1, if_neg (by omega)]; rfl
    · refine key _ _ p2 q2 (by omega) (by omega) (by omega) (by omega) ?_
      rw [p1, if_neg (by omega)]; rfl
/-! Arrivals at a stop; draws; FnTripDelays. -/
def arT (t : Timetable) (D : List TripDelay) (stop from_ to : Int) (x : Trip) : Option A2_Int := match idx t.Network.Lines x.Line with
  | some l => if 1 ≤ fixI (fun e => stop == e) l.Stops ∧ from_ ≤ x.Start + (l.Runs.take (fixI (fun e => stop == e) l.Stops).toNat).sum + dOf D x.Id ∧ x.Start + (l.Runs.take (fixI (fun e => stop == e) l.Stops).toNat).sum + dOf D x.Id ≤ to then some ⟨x.Start + (l.Runs.take (fixI (fun e => stop == e) l.Stops).toNat).sum + dOf D x.Id, x.Id⟩ else none
  | none => none
theorem arT_eq {t : Timetable} {D : List TripDelay} {stop from_ to : Int} {x : Trip} {l : Line} (hl : idx t.Network.Lines x.Line = some l) : arT t D stop from_ to x = if 1 ≤ fixI (fun e => stop == e) l.Stops ∧ from_ ≤ x.Start + (l.Runs.take (fixI (fun e => stop == e) l.Stops).toNat).sum + dOf D x.Id ∧ x.Start + (l.Runs.take (fixI (fun e => stop == e) l.Stops).toNat).sum + dOf D x.Id ≤ to then some ⟨x.Start + (l.Runs.take (fixI (fun e => stop == e) l.Stops).toNat).sum + dOf D x.Id, x.Id⟩ else none := by
  unfold arT; rw [hl]
def ars (t : Timetable) (D : List TripDelay) (stop from_ to : Int) (k : Nat) : List A2_Int := (t.Trips.take k).filterMap (arT t D stop from_ to)
theorem ars_succ {t : Timetable} {D : List TripDelay} {stop from_ to : Int} {k : Nat} {x : Trip} (hx : t.Trips[k]? = some x) : ars t D stop from_ to (k + 1) = ars t D stop from_ to k ++ (arT t D stop from_ to x).toList := by
  unfold ars
  rw [take_succ hx, List.filterMap_append]
  cases h : arT t D stop from_ to x <;> simp [h]
theorem ars_le {t : Timetable} {D : List TripDelay} {stop from_ to : Int} {k : Nat} : (ars t D stop from_ to k).length ≤ k := by
  have := List.length_filterMap_le (arT t D stop from_ to) (t.Trips.take k)
  rw [List.length_take] at this
  unfold ars; omega
/-- By time alone, and by time and Id. -/
def aLt (a b : A2_Int) : Bool := decide (a.X0 < b.X0)
def aLx (a b : A2_Int) : Bool := decide (a.X0 < b.X0 ∨ (a.X0 = b.X0 ∧ a.X1 < b.X1))
theorem arT_id {t : Timetable} {D : List TripDelay} {stop from_ to : Int} {x : Trip} {a : A2_Int} (h : arT t D stop from_ to x = some a) : a.X1 = x.Id := by
  unfold arT at h
  split at h
  · split at h
    · cases h; rfl
    · cases h
  · cases h
theorem ars_ids {t : Timetable} (hT : GoodT t) (D : List TripDelay) (stop from_ to : Int) (k : Nat) : (ars t D stop from_ to k).Pairwise fun a b => a.X1 < b.X1 := by
  unfold ars
  have h1 : t.Trips.Pairwise fun a b => a.Id < b.Id := List.pairwise_iff_getElem.2 fun i j hi hj hij => ids_lt hT hij (List.getElem?_eq_getElem hi) (List.getElem?_eq_getElem hj)
  refine List.Pairwise.filterMap (arT t D stop from_ to) (fun a b hab a' ha b' hb => ?_) (h1.sublist (List.take_sublist k _))
  rw [arT_id ha, arT_id hb]; exact hab
theorem ars_sort {t : Timetable} (hT : GoodT t) (D : List TripDelay) (stop from_ to : Int) (k : Nat) : Pdq.isort aLt (ars t D stop from_ to k) = Pdq.isort aLx (ars t D stop from_ to k) := by
  refine isort_cg _ rfl ((ars_ids hT D stop from_ to k).imp fun {a b} hab => ?_)
  unfold aLt aLx
  rw [decide_eq_decide]
  constructor
  · exact .inl
  · rintro (h | h)
    · exact h
    · omega
theorem sort_uniq {l r : List A2_Int} (hp : r.Perm l) (hr : r.Pairwise fun a b => a.X0 < b.X0 ∨ (a.X0 = b.X0 ∧ a.X1 ≤ b.X1)) : r = Pdq.isort aLx l := by
  refine List.Perm.eq_of_pairwise (fun a b _ _ h1 h2 => ?_) hr ?_ (hp.trans (Pdq.isort_perm l).symm)
  · obtain ⟨a0, a1⟩ := a
    obtain ⟨b0, b1⟩ := b
    simp only at h1 h2
    obtain rfl : a0 = b0 := by omega
    obtain rfl : a1 = b1 := by omega
    rfl
  · refine (Pdq.isort_sorted (lt := aLx) (fun a b c h1 h2 => ?_) (fun a b h => ?_) l).imp fun {a b} h => ?_
    · unfold aLx at *
      rw [decide_eq_false_iff_not] at *
      omega
    · unfold aLx at *
      rw [decide_eq_true_iff] at h
      rw [decide_eq_false_iff_not]
      omega
    · unfold aLx at h
      rw [decide_eq_false_iff_not] at h
      omega
theorem iArr_ok {t : Timetable} (hT : GoodT t) {D : List TripDelay} (hD : GoodD t D) (hDl : D.length ≤ 100000) (stop from_ to : Int) : iter (i_ArrivalsAt_L1 t D stop from_ to) ((0 : Int), ([] : List A2_Int)) = some (ars t D stop from_ to t.Trips.length) := by
  have h12 := hT.2.1
  refine Tot.val (Tot.iter (fun m s => ∃ i : Nat, s.1 = (i : Int) ∧ m + i = t.Trips.length ∧ s.2 = ars t D stop from_ to i) (n := t.Trips.length) ⟨0, rfl, rfl, rfl⟩ ?_)
  rintro m ⟨v, o⟩ ⟨i, hv, hm, ho⟩
  simp only at hv ho
  subst hv; subst ho
  unfold i_ArrivalsAt_L1
  have hle := ars_le (t := t) (D := D) (stop := stop) (from_ := from_) (to := to) (k := i)
  refine .iteP (fun hc => ?_) (fun hc => .dn (by rw [show i = t.Trips.length by omega]))
  obtain ⟨x, hx⟩ := get_ex (l := t.Trips) (i := i) (by omega)
  obtain ⟨l, hl, hp, hid, hs, _⟩ := trip_line hT hx
  obtain ⟨⟨r1, r2, r3⟩, _⟩ := line_runs hp
  refine .call (P := fun o => o = ars t D stop from_ to (i + 1)) ?_ fun o ho => .nx ⟨m - 1, by omega, i + 1, w64_succ (by omega), by omega, ho⟩
  refine .eq (ixs hx) (.eq (lineOf_eq hl) (.eq (index_int_eq l.Stops (by omega) stop) ?_))
  rw [ars_succ hx, arT_eq hl]
  have hr : fixI (fun e => stop == e) l.Stops ≤ (l.Runs.length : Int) := by
    rcases fixI_rng (fun e => stop == e) l.Stops with h | h <;> omega
  revert hr
  generalize fixI (fun e => stop == e) l.Stops = p
  intro hr
  have hd := dOf_rng hD x.Id
  have hrs := runs_sum hp p.toNat
  have ew : w64 (x.Start + (l.Runs.take p.toNat).sum + dOf D x.Id) = x.Start + (l.Runs.take p.toNat).sum + dOf D x.Id := w64_id (by omega)
  refine .iteP (fun h0 => .ok ?_) (fun h0 => .eq (stopTimes_eq hl hp hs) (.eq (idx_of (by omega) (ST_at (l := l) (s := x.Start) (k := p.toNat) (by omega))) (.eq (delayOf_eq D hDl x.Id) ?_)))
  · rw [if_neg (by omega)]; simp
  · rw [ew]
    refine .eq (within_eq _ _ _) (.iteP (fun h => .chk (by simp; omega) (.ok ?_)) (fun h => .ok ?_))
    · rw [if_pos ⟨by omega, h⟩]; rfl
    · rw [if_neg (fun q => h q.2)]; simp
theorem iArr2_ok {l : List A2_Int} (hl : l.length ≤ 100000) : iter (i_ArrivalsAt_L2 l) ((0 : Int), ([] : List Int)) = some (l.map (·.X1)) := by
  refine app_loop (fun a : A2_Int => a.X1) l (fun i a x ha hx => ?_) (fun a ha => ?_)
  · have hi := get_lt hx
    unfold i_ArrivalsAt_L2
    have hlt : decide ((i : Int) < (l.length : Int)) = true := by simp; omega
    simp only [hlt, if_true, idx_nat, hx, Option.bind_some]
    rw [chk_of (by simp; omega)]
    simp only [Option.bind_some, w64_succ (n := i) (by omega)]
  · unfold i_ArrivalsAt_L2
    simp
theorem sArr1_ok {P : List A2_Int} (hP : P.length ≤ 1000) {a b : Int} (hw : w64 (a + b) = a + b) (hs : P.Pairwise fun x y => aLt y x = false) : Tot (iter (s_ArrivalsAt_L1 (P.map (·.X0)) a b) (P.length : Int)) fun v => ∃ k : Nat, v = (k : Int) ∧ k ≤ P.length ∧ (∀ y ∈ P.drop k, a + b < y.X0) ∧ ∀ y, 0 < k → P[k - 1]? = some y → ¬ a + b < y.X0 := by
  refine Tot.iter (fun m s => s = (m : Int) ∧ m ≤ P.length ∧ ∀ y ∈ P.drop m, a + b < y.X0) (n := P.length) ⟨rfl, Nat.le_refl _, by simp⟩ ?_
  rintro m s ⟨rfl, hm, hall⟩
  unfold s_ArrivalsAt_L1
  rw [hw]
  refine .call (P := fun c => (c = true → 0 < m ∧ ∀ y, P[m - 1]? = some y → a + b < y.X0) ∧ (c = false → ∀ y, 0 < m → P[m - 1]? = some y → ¬ a + b < y.X0)) (.iteP (fun h0 => ?_) (fun h0 => .ok ⟨fun h => (by cases h), fun _ y h _ => by omega⟩)) fun c hc => .ite (fun ht => ?_) (fun hf => .dn ⟨m, rfl, hm, hall, hc.2 hf⟩)
  · have ew : w64 ((m : Int) - 1) = ((m - 1 : Nat) : Int) := by rw [w64_id (by omega)]; omega
    obtain ⟨y, hy⟩ := get_ex (l := P) (i := m - 1) (by omega)
    rw [ew]
    refine .eq (ixs (by rw [List.getElem?_map, hy]; rfl)) (.ok ⟨fun h => ⟨by omega, fun z hz => ?_⟩, fun h z _ hz => ?_⟩)
    · rw [hy] at hz; cases hz; exact of_decide_eq_true h
    · rw [hy] at hz; cases hz; exact of_decide_eq_false h
  · obtain ⟨h0, h1⟩ := hc.1 ht
    obtain ⟨y, hy⟩ := get_ex (l := P) (i := m - 1) (by omega)
    refine .nx ⟨m - 1, by omega, by rw [w64_id (by omega)]; omega, by omega, fun z hz => ?_⟩
    have e2 : P.drop (m - 1) = y :: P.drop m := by
      have := List.drop_eq_getElem_cons (l := P) (i := m - 1) (by omega)
      rw [this, show m - 1 + 1 = m by omega]
      congr 1
      exact (List.getElem?_eq_some_iff.1 hy).2
    rw [e2] at hz
    rcases List.mem_cons.1 hz with rfl | hz
    · exact h1 _ hy
    · exact hall z hz
theorem sArr_ok {t : Timetable} (hT : GoodT t) {D : List TripDelay} (hD : GoodD t D) (hDl : D.length ≤ 100000) (stop from_ to : Int) : iter (s_ArrivalsAt_L2 t D stop from_ to) ((0 : Int), ([] : List Int), ([] : List Int)) = some ((Pdq.isort aLt (ars t D stop from_ to t.Trips.length)).map (·.X1)) := by
  have h12 := hT.2.1
  refine Tot.val (Tot.iter (fun m s => ∃ i : Nat, s.1 = (i : Int) ∧ m + i = t.Trips.length ∧ s.2.1 = (Pdq.isort aLt (ars t D stop from_ to i)).map (·.X1) ∧ s.2.2 = (Pdq.isort aLt (ars t D stop from_ to i)).map (·.X0)) (n := t.Trips.length) ⟨0, rfl, rfl, rfl, rfl⟩ ?_)
  rintro m ⟨v, o, o2⟩ ⟨i, hv, hm, ho, ho2⟩
  simp only at hv ho ho2
  subst hv; subst ho; subst ho2
  unfold s_ArrivalsAt_L2
  have hle := ars_le (t := t) (D := D) (stop := stop) (from_ := from_) (to := to) (k := i)
  have hpl := Pdq.isort_len (lt := aLt) (ars t D stop from_ to i)
  have hps := Pdq.isort_sorted (lt := aLt) (fun a b c h1 h2 => by
    unfold aLt at *
    rw [decide_eq_false_iff_not] at *
    omega) (fun a b h => by
    unfold aLt at *
    rw [decide_eq_true_iff] at h
    rw [decide_eq_false_iff_not]
    omega) (ars t D stop from_ to i)
  refine .iteP (fun hc => ?_) (fun hc => .dn (by rw [show i = t.Trips.length by omega]))
  obtain ⟨x, hx⟩ := get_ex (l := t.Trips) (i := i) (by omega)
  obtain ⟨l, hl, hp, hid, hs, _⟩ := trip_line hT hx
  obtain ⟨⟨r1, r2, r3⟩, _⟩ := line_runs hp
  refine .call (P := fun o => o.1 = (Pdq.isort aLt (ars t D stop from_ to (i + 1))).map (·.X1) ∧ o.2 = (Pdq.isort aLt (ars t D stop from_ to (i + 1))).map (·.X0)) ?_ fun o ho => .nx ⟨m - 1, by omega, i + 1, w64_succ (by omega), by omega, ho.1, ho.2⟩
  refine .eq (l5Line_eq hx hl) (.eq (l2Place_eq l (by omega) stop) ?_)
  rw [ars_succ hx, arT_eq hl]
  have hr : fixI (fun e => stop == e) l.Stops ≤ (l.Runs.length : Int) := by
    rcases fixI_rng (fun e => stop == e) l.Stops with h | h <;> omega
  revert hr
  generalize fixI (fun e => stop == e) l.Stops = p
  intro hr
  have hd := dOf_rng hD x.Id
  have hrs := runs_sum hp p.toNat
  have ew : w64 (x.Start + (l.Runs.take p.toNat).sum + dOf D x.Id) = x.Start + (l.Runs.take p.toNat).sum + dOf D x.Id := w64_id (by omega)
  refine .iteP (fun h0 => .ok ?_) (fun h0 => ?_)
  · rw [if_neg (by omega)]; simp
  · have hAt := l5At_eq hT.1 hx hl hs (k := p.toNat) (by omega)
    rw [show ((p.toNat : Nat) : Int) = p by omega] at hAt
    refine .eq hAt (.eq (ixs hx) (.eq (l23Delay_eq D hDl x.Id) ?_))
    rw [ew]
    refine .eq (l1In_eq _ _ _) (.iteN (fun h => .ok ?_) (fun h => ?_))
    · rw [if_neg (fun q => h q.2)]; simp
    · rw [if_pos ⟨by omega, h⟩]
      show Tot _ fun (o : List Int × List Int) => o.1 = (Pdq.isort aLt (ars t D stop from_ to i ++ [_])).map (·.X1) ∧ o.2 = (Pdq.isort aLt (ars t D stop from_ to i ++ [_])).map (·.X0)
      rw [Pdq.isort_snoc, List.length_map]
      refine .call (sArr1_ok (by omega) ew hps) fun v ⟨k, hv, hk, h1, h2⟩ => ?_
      subst hv
      rw [Int.toNat_natCast]
      have hsl := Pdq.insE_slot (lt := aLt) (x := (⟨x.Start + (l.Runs.take p.toNat).sum + dOf D x.Id, x.Id⟩ : A2_Int)) _ (o := Pdq.isort aLt (ars t D stop from_ to i)) (k := k) rfl hk (fun y hy => decide_eq_true (h1 y hy)) (fun y h0 hy => decide_eq_false (h2 y h0 hy))
      have hid := ixs hx
      simp only [hid, Option.bind_some]
      have hml : ∀ {β : Type} (f : A2_Int → β), ((Pdq.isort aLt (ars t D stop from_ to i)).map f).length = (ars t D stop from_ to i).length := fun f => by rw [List.length_map, hpl]
      refine .chk (by omega) (.chk (by simp only [List.length_append, List.length_nil, List.length_drop, List.length_take, hml]; omega) (.chk (by simp only [List.length_append, List.length_nil, List.length_cons, List.length_drop, List.length_take, hml]; omega) (.chk (by omega) (.chk (by simp only [List.length_append, List.length_nil, List.length_cons, List.length_drop, List.length_take, hml]; omega) ?_))))
      refine .chk (by rw [hml]; omega) (.chk (by simp only [List.length_append, List.length_nil, List.length_drop, List.length_take, hml]; omega) (.chk (by simp only [List.length_append, List.length_nil, List.length_cons, List.length_drop, List.length_take, hml]; omega) (.chk (by rw [hml]; omega) (.chk (by simp only [List.length_append, List.length_nil, List.length_cons, List.length_drop, List.length_take, hml]; omega) (.ok ?_)))))
      rw [← hsl]
      simp
theorem isBoard_eq {t : Timetable} (hb : TB t) {D : List TripDelay} (hDl : D.length ≤ 100000) (stop now : Int) : i_isBoard t D stop now = some (decide ((GoodT t ∧ GoodD t D) ∧ (0 ≤ stop ∧ stop < (t.Network.Stops.length : Int)) ∧ 0 ≤ now ∧ now ≤ 1799)) := by
  unfold i_isBoard
  rw [validD_eq hb D hDl]
  simp only [isStop_eq, time_eq, Option.bind_some]
  by_cases h1 : GoodT t ∧ GoodD t D
  · by_cases h2 : 0 ≤ stop ∧ stop < (t.Network.Stops.length : Int)
    · simp [h1, h2]
    · simp only [h1, h2, and_self, decide_true, decide_false, if_true, Bool.false_eq_true, if_false, Option.bind_some, and_false, false_and]
  · simp only [h1, decide_false, Bool.false_eq_true, if_false, Option.bind_some, false_and]
theorem asked23_eq {t : Timetable} (hb : TB t) {D : List TripDelay} (hDl : D.length ≤ 100000) (stop : Int) : s_l23Asked t D stop = some (decide ((GoodT t ∧ GoodD t D) ∧ 0 ≤ stop ∧ stop < (t.Network.Stops.length : Int))) := by
  have ew : w64 ((t.Network.Stops.length : Int) - 1) = (t.Network.Stops.length : Int) - 1 := by have := hb.1.1; exact w64_id (by omega)
  have e : (0 ≤ stop ∧ stop ≤ (t.Network.Stops.length : Int) - 1) ↔ (0 ≤ stop ∧ stop < (t.Network.Stops.length : Int)) := by omega
  unfold s_l23Asked
  rw [l23Good_eq hb D hDl]
  simp only [l1In_eq, ew, e, Option.bind_some]
  by_cases h1 : GoodT t ∧ GoodD t D
  · simp only [h1, and_self, decide_true, if_true, Option.bind_some, true_and]
  · simp only [h1, decide_false, Bool.false_eq_true, if_false, Option.bind_some, false_and]
def OvP (t : Timetable) (D : List TripDelay) (stop : Int) : Prop := (GoodT t ∧ GoodD t D) ∧ 0 ≤ stop ∧ stop < (t.Network.Stops.length : Int)
theorem over_ok {t : Timetable} (hb : TB t) {D : List TripDelay} (hDl : D.length ≤ 100000) (stop : Int) : ∃ l ok, i_Overtakings t D stop = some (l, ok) ∧ s_Overtakings t D stop = some (l, ok) ∧ l.length ≤ 100000 ∧ (∀ r ∈ l, r.length ≤ 100000) ∧ (D = [] → l = []) := by
  unfold i_Overtakings s_Overtakings
  rw [isBoard_eq hb hDl, asked23_eq hb hDl]
  by_cases h : (GoodT t ∧ GoodD t D) ∧ 0 ≤ stop ∧ stop < (t.Network.Stops.length : Int)
  · have h' : (GoodT t ∧ GoodD t D) ∧ (0 ≤ stop ∧ stop < (t.Network.Stops.length : Int)) ∧ (0 : Int) ≤ 0 ∧ (0 : Int) ≤ 1799 := ⟨h.1, h.2, by omega⟩
    have h12 := h.1.1.2.1
    have hle := dps_le (t := t) (D := D) (stop := stop) (k := t.Trips.length)
    have hr := fun d hd => dp_rng h.1.1 h.1.2 (stop := stop) (d := d) hd
    simp only [h, h', and_self, decide_true, Bool.not_true, Bool.false_eq_true, if_false, Option.bind_some, depAt_ok h.1.1 hDl, iOv_ok (show (dps t D stop t.Trips.length).length ≤ 100 by omega) hr, sOv_ok h.1.1 h.1.2 hDl]
    refine ⟨_, _, rfl, rfl, ?_, fun r hr2 => ?_, fun hD => ?_⟩
    · unfold ovs
      have := flatMap_le (fun a => (dps t D stop t.Trips.length).flatMap (ov a)) 12 (dps t D stop t.Trips.length) fun x _ => by
        have := flatMap_le (ov x) 1 (dps t D stop t.Trips.length) fun y _ => ov_len x y
        omega
      omega
    · unfold ovs at hr2
      obtain ⟨a, _, hr2⟩ := List.mem_flatMap.1 hr2
      obtain ⟨b, _, hr2⟩ := List.mem_flatMap.1 hr2
      unfold ov at hr2
      split at hr2
      · have : r = [a.trip_.Id, b.trip_.Id] := by simpa using hr2
        subst this; simp
      · simp at hr2
    · subst hD
      unfold ovs
      rw [List.flatMap_eq_nil_iff]
      intro a ha
      rw [List.flatMap_eq_nil_iff]
      intro b hb'
      have hz : ∀ d ∈ dps t [] stop t.Trips.length, d.delay_ = 0 := fun d hd => by
        unfold dps at hd
        obtain ⟨x, _, hx⟩ := List.mem_filterMap.1 hd
        unfold dpT at hx
        split at hx
        · split at hx
          · cases hx; rfl
          · cases hx
        · cases hx
      have h1 := hz a ha
      have h2 := hz b hb'
      unfold ov
      rw [if_neg (by omega)]
  · have h' : ¬ ((GoodT t ∧ GoodD t D) ∧ (0 ≤ stop ∧ stop < (t.Network.Stops.length : Int)) ∧ (0 : Int) ≤ 0 ∧ (0 : Int) ≤ 1799) := fun q => h ⟨q.1, q.2.1⟩
    simp only [h, h', decide_false, Bool.not_false, if_true, Option.bind_some]
    exact ⟨_, _, rfl, rfl, by simp, by simp, fun _ => rfl⟩
theorem arr_ok {t : Timetable} (hb : TB t) {D : List TripDelay} (hDl : D.length ≤ 100000) (stop from_ to : Int) : ∃ l ok, i_ArrivalsAt t D stop from_ to = some (l, ok) ∧ s_ArrivalsAt t D stop from_ to = some (l, ok) ∧ l.length ≤ 100000 := by
  unfold i_ArrivalsAt s_ArrivalsAt
  rw [isBoard_eq hb hDl, asked23_eq hb hDl]
  simp only [time_eq, l4Time_eq, Option.bind_some]
  by_cases h1 : (GoodT t ∧ GoodD t D) ∧ 0 ≤ stop ∧ stop < (t.Network.Stops.length : Int)
  · by_cases h2 : 0 ≤ from_ ∧ from_ ≤ 1799
    · have h12 : (GoodT t ∧ GoodD t D) ∧ (0 ≤ stop ∧ stop < (t.Network.Stops.length : Int)) ∧ 0 ≤ from_ ∧ from_ ≤ 1799 := ⟨h1.1, h1.2, h2⟩
      by_cases h3 : 0 ≤ to ∧ to ≤ 1799
      · by_cases h4 : to < from_
        · simp only [h1, h2, h3, h4, h12, and_self, decide_true, Bool.not_true, Bool.false_eq_true, if_false, if_true, Option.bind_some]
          exact ⟨_, _, rfl, rfl, by simp⟩
        · simp only [h1, h2, h3, h4, h12, and_self, decide_true, decide_false, Bool.not_true, Bool.false_eq_true, if_false, Option.bind_some, iArr_ok h1.1.1 h1.1.2 hDl, sArr_ok h1.1.1 h1.1.2 hDl]
          have hle := ars_le (t := t) (D := D) (stop := stop) (from_ := from_) (to := to) (k := t.Trips.length)
          have hl12 := h1.1.1.2.1
          obtain ⟨r, hr, hr1, hr2⟩ := sort_ArrivalsAt (ars t D stop from_ to t.Trips.length) (by omega)
          have hu := sort_uniq hr1 hr2
          rw [← ars_sort h1.1.1] at hu
          have hlen := hr1.length_eq
          rw [hr]
          simp only [Option.bind_some, iArr2_ok (show r.length ≤ 100000 by omega), ← hu]
          exact ⟨_, _, rfl, rfl, by rw [List.length_map]; omega⟩
      · simp only [h1, h2, h3, h12, and_self, decide_true, decide_false, Bool.not_true, Bool.not_false, Bool.false_eq_true, if_false, if_true, Option.bind_some]
        exact ⟨_, _, rfl, rfl, by simp⟩
    · have h12 : ¬ ((GoodT t ∧ GoodD t D) ∧ (0 ≤ stop ∧ stop < (t.Network.Stops.length : Int)) ∧ 0 ≤ from_ ∧ from_ ≤ 1799) := fun q => h2 q.2.2
      simp only [h1, h2, h12, and_self, decide_true, decide_false, Bool.not_true, Bool.not_false, Bool.false_eq_true, if_false, if_true, Option.bind_some]
      exact ⟨_, _, rfl, rfl, by simp⟩
  · have h12 : ¬ ((GoodT t ∧ GoodD t D) ∧ (0 ≤ stop ∧ stop < (t.Network.Stops.length : Int)) ∧ 0 ≤ from_ ∧ from_ ≤ 1799) := fun q => h1 ⟨q.1, q.2.1⟩
    simp only [h1, h12, decide_false, Bool.not_false, if_true, Option.bind_some]
    exact ⟨_, _, rfl, rfl, by simp⟩
/-! Draws; FnTripDelays. -/
theorem delays23_ok {k : Nat} {c : l1Cur} {t : Timetable} (h : Cur k c) (hk : k ≤ 1000000) (hd : DT t) : Tot (s_l1Cur_delays23 c t) fun r => Cur (k + 200) r.2 ∧ r.1.length ≤ 40 := by
  have h30 := hd.2
  unfold s_l1Cur_delays23
  refine .call (P := fun o => Cur (k + 150) ⟨o.1, o.2.1, ⟨o.2.2.1⟩⟩ ∧ o.2.2.2.length ≤ 30) ?_ fun ⟨v9, v10, v11, v12⟩ ⟨hc, hl⟩ => ?_
  · refine Tot.iter (fun m s => ∃ j : Nat, s.1 = (j : Int) ∧ m + j = t.Trips.length ∧ s.2.2.2.2.length ≤ j ∧ Cur (k + 4 * j) ⟨s.2.1, s.2.2.1, ⟨s.2.2.2.1⟩⟩) (n := t.Trips.length) ⟨0, rfl, by omega, by simp, h⟩ ?_
    rintro m ⟨v, v1, v2, v3, v4⟩ ⟨j, hv, hm, hl, hcur⟩
    simp only at hv hl hcur
    subst hv
    unfold s_l1Cur_delays23_L1
    refine .iteP (fun hc => ?_) (fun hc => .dn ⟨hcur.mono (by omega), by dsimp only; omega⟩)
    refine .call (P := fun o => Cur (k + 4 * (j + 1)) ⟨o.1, o.2.1, ⟨o.2.2.1⟩⟩ ∧ o.2.2.2.length ≤ j + 1) ?_ fun ⟨v5, v6, v7, v8⟩ ⟨q1, q2⟩ => .nx ⟨m - 1, by omega, j + 1, w64_succ (by omega), by omega, q2, q1⟩
    refine .call (t_one 3 hcur (by omega)) fun r hr => .ite (fun _ => .idx (by omega) hc fun e _ => .call (t_amongw _ (by simp) hr (by omega)) fun r2 ⟨hr2, _⟩ => .chk (by simp; omega) (.ok ⟨hr2.mono (by omega), by simp; omega⟩)) (fun _ => .ok ⟨hr.mono (by omega), by dsimp only; omega⟩)
  · dsimp only at hc hl
    refine .call (P := fun o => Cur (k + 200) ⟨o.1, o.2.1, ⟨o.2.2.1⟩⟩ ∧ o.2.2.2.length ≤ 40) ?_ fun ⟨v13, v14, v15, v16⟩ ⟨q1, q2⟩ => .ok ⟨q1, q2⟩
    refine .call (t_pick 40 hc (by omega)) fun r3 ⟨hc3, _⟩ => .ite (fun _ => .call (t_amongw _ (by simp) hc3 (by omega)) fun r4 ⟨hc4, _⟩ => .chk (by simp; omega) (.ok ⟨hc4.mono (by omega), by simp; omega⟩)) (fun _ => .ite (fun _ => .iteP (fun hp => ?_) (fun _ => .ok ⟨hc3.mono (by omega), by dsimp only; omega⟩)) (fun _ => .ok ⟨hc3.mono (by omega), by dsimp only; omega⟩))
    have ew : w64 ((v12.length : Int) - 1) = (v12.length : Int) - 1 := w64_id (by omega)
    rw [ew]
    refine .idx (by omega) (by omega) fun e4 _ => .call (t_amongw _ (by simp) hc3 (by omega)) fun r6 ⟨hc6, _⟩ => .idx (by omega) (by omega) fun e5 _ => .ok ⟨hc6.mono (by omega), by dsimp only; rw [List.length_set]; omega⟩
theorem stopOf_ok {k : Nat} {c : l1Cur} {t : Timetable} (h : Cur k c) (hk : k ≤ 1000000) (hd : DT t) : Tot (s_l1Cur_stopOf c t) fun r => Cur (k + 100) r.2 := by
  unfold s_l1Cur_stopOf
  refine .call (P := fun o => Cur (k + 10) ⟨o.2.1, o.2.2.1, ⟨o.2.2.2⟩⟩ ∧ (o.1 = true → 0 < t.Trips.length ∧ GoodT t)) ?_ fun ⟨v, v1, v2, v3⟩ ⟨hc, hv⟩ => ?_
  · refine .iteP (fun h0 => .eq (goodT_eq hd.tb) (.iteP (fun hg => .call (t_one 6 h (by omega)) fun r1 hr1 => .ok ⟨hr1.mono (by omega), fun _ => ⟨by omega, hg⟩⟩) (fun _ => .ok ⟨h.mono (by omega), fun h => by cases h⟩))) (fun _ => .ok ⟨h.mono (by omega), fun h => by cases h⟩)
  · dsimp only at hc hv
    refine .ite (fun hb => ?_) (fun _ => .call (t_pick _ hc (by omega)) fun r7 ⟨hc7, _⟩ => .call (t_pick 12 hc7 (by omega)) fun r8 ⟨hc8, _⟩ => .chk (by decide) (.ok (hc8.mono (by omega))))
    obtain ⟨h0, hg⟩ := hv hb
    refine .call (t_pick _ hc (by omega)) fun r4 ⟨hc4, h40, h41⟩ => ?_
    obtain ⟨x, hx⟩ := get_ex (l := t.Trips) (i := r4.1.toNat) (by omega)
    obtain ⟨l, hl, hp, _⟩ := trip_line hg hx
    have hst := l5Stops_eq hx hl
    rw [show ((r4.1.toNat : Nat) : Int) = r4.1 by omega] at hst
    have hlr := line_runs hp
    exact .eq hst (.call (t_pick _ hc4 (by omega)) fun r6 ⟨hc6, h60, h61⟩ => .idx h60 (by omega) fun e _ => .ok (hc6.mono (by omega)))
theorem now23_ok {k : Nat} {c : l1Cur} (t : Timetable) (h : Cur k c) (hk : k ≤ 1000000) : Tot (s_l1Cur_now23 c t) fun r => Cur (k + 100) r.2 := by
  unfold s_l1Cur_now23
  refine .call (P := fun o => Cur (k + 10) ⟨o.2.1, o.2.2.1, ⟨o.2.2.2⟩⟩ ∧ (o.1 = true → 0 < t.Trips.length)) ?_ fun ⟨v, v1, v2, v3⟩ ⟨hc, hv⟩ => ?_
  · exact .iteP (fun h0 => .call (t_one 6 h (by omega)) fun r1 hr1 => .ok ⟨hr1.mono (by omega), fun _ => by omega⟩) (fun _ => .ok ⟨h.mono (by omega), fun h => by cases h⟩)
  · dsimp only at hc hv
    refine .ite (fun hb => ?_) (fun _ => .call (t_time hc (by omega)) fun r5 hc5 => .ok (hc5.mono (by omega)))
    have h0 := hv hb
    exact .call (t_pick _ hc (by omega)) fun r3 ⟨hc3, h30, h31⟩ => .idx h30 (by omega) fun e _ => .call (t_pick 40 hc3 (by omega)) fun r4 ⟨hc4, _⟩ => .ok (hc4.mono (by omega))
theorem drawDT_ok (code : List UInt8) : Tot (s_DrawDelayTrip code) fun r => TB r.1 ∧ r.2.1.length ≤ 40 := by
  have h0 := (cur0 code).mono (k' := 10) (by omega)
  unfold s_DrawDelayTrip
  exact .call (anyTimetable_ok h0 (by omega)) fun r ⟨hc, hd⟩ => .call (delays23_ok hc (by omega) hd) fun r1 ⟨hc1, hl⟩ => .call (idOf_ok _ hc1 (by omega)) fun r2 hc2 => .eq (l23Delay_eq _ (by omega) _) (.call (t_amongw _ (by simp) hc2 (by omega)) fun r6 _ => .ok ⟨hd.tb, hl⟩)
theorem drawOv_ok (code : List UInt8) : Tot (s_DrawOvertakings code) fun r => TB r.1 ∧ r.2.1.length ≤ 40 := by
  have h0 := (cur0 code).mono (k' := 10) (by omega)
  unfold s_DrawOvertakings
  refine .call (P := fun r => TB r.1 ∧ r.2.1.length ≤ 40) ?_ fun r hr => .ok hr
  unfold s_DrawBoardRows
  refine .call (anyTimetable_ok h0 (by omega)) fun r ⟨hc, hd⟩ => .call (delays23_ok hc (by omega) hd) fun r1 ⟨hc1, hl⟩ => .call (stopOf_ok hc1 (by omega) hd) fun r2 hc2 => .call (now23_ok _ hc2 (by omega)) fun r3 hc3 => .call (t_pick 24 hc3 (by omega)) fun r6 ⟨hc6, h60, h61⟩ => .chk (by decide) ?_
  have hq : 0 ≤ r6.1.tdiv 11 ∧ r6.1.tdiv 11 ≤ 2 := by
    rw [Int.tdiv_eq_ediv_of_nonneg h60]; omega
  have e1 : w64 (r6.1.tdiv 11) = r6.1.tdiv 11 := w64_id (by omega)
  have e2 : w64 (5 + r6.1.tdiv 11) = 5 + r6.1.tdiv 11 := w64_id (by omega)
  rw [e1, e2]
  refine .chk (by simp; omega) (.call (t_amongw _ ?_ hc6 (by omega)) fun r7 _ => .ok ⟨hd.tb, hl⟩)
  intro h
  have := congrArg List.length h
  rw [List.length_drop, List.length_take] at this
  simp at this; omega
theorem drawAr_ok (code : List UInt8) : Tot (s_DrawArrivalsAt code) fun r => TB r.1 ∧ r.2.1.length ≤ 40 := by
  have h0 := (cur0 code).mono (k' := 10) (by omega)
  unfold s_DrawArrivalsAt
  exact .call (anyTimetable_ok h0 (by omega)) fun r ⟨hc, hd⟩ => .call (delays23_ok hc (by omega) hd) fun r1 ⟨hc1, hl⟩ => .call (stopOf_ok hc1 (by omega) hd) fun r2 hc2 => .call (now23_ok _ hc2 (by omega)) fun r3 hc3 => .call (t_amongw _ (by simp) hc3 (by omega)) fun r5 _ => .ok ⟨hd.tb, hl⟩
theorem tripDelays_true (code : List UInt8) : v_FnTripDelays code = some true := by
  unfold v_FnTripDelays
  rw [rBig_eq]
  refine Tot.val (Tot.eq rfl (.iteP (fun _ => .ok rfl) (fun hlen => ?_)))
  refine .call (drawDT_ok code) fun ⟨t, D, id, mi⟩ ⟨hb, hl⟩ => ?_
  dsimp only at hb hl ⊢
  obtain ⟨q, b, c1, c2, c3, c4⟩ := delay_ok hb (show D.length ≤ 1000 by omega) id mi
  refine .eq c1 (.eq c2 (.call (P := fun v => v = false) (.ite (fun h => by simp at h) (fun _ => .ok (by simp))) fun v hv => ?_))
  subst hv
  refine .ite (fun h => by cases h) (fun _ => ?_)
  refine .flb (Tot.mono (P := fun v => v = .go ()) ?_ fun v hv => ⟨fun r e => (by rw [hv] at e; cases e), fun u _ => ?_⟩)
  · refine Tot.iter (fun m (s : Int) => ∃ j : Nat, s = (j : Int) ∧ m + j = q.length) (n := q.length) ⟨0, rfl, by omega⟩ ?_
    rintro m s ⟨j, rfl, hm⟩
    unfold v_FnTripDelays_L1
    dsimp only
    refine .iteP (fun hc => ?_) (fun hc => .dn rfl)
    obtain ⟨x, hx⟩ := get_ex (l := q) (i := j) (by omega)
    exact .eq (ixs hx) (.eq (ixs hx) (.ite (fun h => by simp at h) (fun _ => .nx ⟨m - 1, by omega, j + 1, w64_succ (by omega), by omega⟩)))
  refine .flb (Tot.mono (P := fun v => v = .go ()) (.ite (fun hok => ?_) (fun _ => .ok rfl)) fun v hv => ⟨fun r e => (by rw [hv] at e; cases e), fun u _ => ?_⟩)
  · obtain ⟨q', d1, d2, d3⟩ := c4 hok
    refine .eq d2 (.eq d3 (.call (P := fun v => v = false) (.ite (fun h => by cases h) (fun _ => .ite (fun h => by cases h) (fun _ => .ok (by simp)))) fun v hv => ?_))
    subst hv
    refine .ite (fun h => by cases h) (fun _ => ?_)
    refine .flb (Tot.mono (P := fun v => v = .go ()) ?_ fun v hv => ⟨fun r e => (by rw [hv] at e; cases e), fun u _ => .ok rfl⟩)
    refine Tot.iter (fun m (s : Int) => ∃ j : Nat, s = (j : Int) ∧ m + j = q'.length) (n := q'.length) ⟨0, rfl, by omega⟩ ?_
    rintro m s ⟨j, rfl, hm⟩
    unfold v_FnTripDelays_L2
    dsimp only
    refine .iteP (fun hc => ?_) (fun hc => .dn rfl)
    obtain ⟨x, hx⟩ := get_ex (l := q') (i := j) (by omega)
    exact .eq (ixs hx) (.eq (ixs hx) (.ite (fun h => by simp at h) (fun _ => .nx ⟨m - 1, by omega, j + 1, w64_succ (by omega), by omega⟩)))
  refine .call (drawOv_ok code) fun ⟨u', late, stop⟩ ⟨hb2, hl2⟩ => ?_
  dsimp only at hb2 hl2 ⊢
  obtain ⟨o, ob, o1, o2, o3, o4, _⟩ := over_ok hb2 (show late.length ≤ 100000 by omega) stop
  refine .eq o1 (.eq o2 (.call (P := fun v => v = false) (.ite (fun h => by simp at h) (fun _ => .eq (rTable_refl o o3 o4) (.ok rfl))) fun v hv => ?_))
  subst hv
  refine .ite (fun h => by cases h) (fun _ => ?_)
  obtain ⟨z, zb, z1, _, _, _, z5⟩ := over_ok hb2 (D := []) (by simp) stop
  obtain rfl := z5 rfl
  refine .eq z1 (.call (P := fun v => v = false) (.ite (fun _ => .ok (by simp)) (fun _ => .ok rfl)) fun v hv => ?_)
  subst hv
  refine .ite (fun h => by cases h) (fun _ => ?_)
  refine .call (drawAr_ok code) fun ⟨w, some_, at_, from_, to⟩ ⟨hb3, hl3⟩ => ?_
  dsimp only at hb3 hl3 ⊢
  obtain ⟨a, ab, a1, a2, a3⟩ := arr_ok hb3 (show some_.length ≤ 100000 by omega) at_ from_ to
  exact .eq a1 (.eq a2 (.call (P := fun v => v = true) (.ite (fun _ => .eq (rInts_refl a a3) (.ok rfl)) (fun h => by simp at h)) fun v hv => .ok hv))
end Go.Proofs.Ytjljkjbdkjjdcaa
