/- The plain law: what the models compute, no program in sight. -/
import Derived.Test.YtdocbkbpjdjlpaaPaM
import Derived.Test.YtdocbkbpjdjlpaaAbTot
namespace Go.Proofs.Ytdocbkbpjdjlpaa
open Go Go.Ab
set_option maxHeartbeats 4000000
set_option linter.unusedVariables false
set_option linter.unusedSimpArgs false
/-! The cursor of the draws: it always answers. -/
def Cur (k : Nat) (c : l1Cur) : Prop := 0 ≤ c.at_ ∧ c.at_ ≤ k
theorem Cur.mono {k k' : Nat} {c : l1Cur} (h : Cur k c) (hk : k ≤ k') : Cur k' c := ⟨h.1, by have := h.2; omega⟩
theorem next_ok {k : Nat} {c : l1Cur} (h : Cur k c) (hk : k ≤ 4000000000) : ∃ r, s_l1Cur_next c = some r ∧ Cur (k + 1) r.2 ∧ 0 ≤ r.1 ∧ r.1 ≤ 255 := by
  obtain ⟨h0, h1⟩ := h
  have hw : w64 (c.at_ + 1) = c.at_ + 1 := w64_id (by omega)
  have hcur : ∀ s, Cur (k + 1) ⟨c.code_, w64 (c.at_ + 1), s⟩ := fun s => by rw [hw]; exact ⟨by show 0 ≤ c.at_ + 1; omega, by show c.at_ + 1 ≤ _; omega⟩
  unfold s_l1Cur_next
  have hv : ∃ v, (if (decide (c.at_ < (c.code_.length : Int))) = true then (idx c.code_ c.at_).bind fun e1 => some (w64 ((e1.toNat : Int))) else some 0) = some v ∧ 0 ≤ v ∧ v ≤ 255 := by
    by_cases hlt : c.at_ < c.code_.length
    · obtain ⟨x, hx, _, _⟩ := idx_lt h0 hlt
      have := x.toNat_lt
      refine ⟨(x.toNat : Int), ?_, by omega, by omega⟩
      simp only [hlt, decide_true, if_true, hx, Option.bind_some]
      rw [w64_id (by omega)]
    · exact ⟨0, by simp [hlt], by omega, by omega⟩
  obtain ⟨v, hv, hv0, hv1⟩ := hv
  rw [hv]
  simp only [Option.bind_some]
  split
  · exact ⟨_, rfl, hcur _, hv0, hv1⟩
  · rw [chk_of (by omega)]
    exact ⟨_, rfl, hcur _, and255 _⟩
theorem pick_ok {k : Nat} {c : l1Cur} (n : Int) (h : Cur k c) (hk : k ≤ 3000000000) : ∃ r, s_l1Cur_pick c n = some r ∧ Cur (k + 2) r.2 ∧ 0 ≤ r.1 ∧ (r.1 < n ∨ r.1 = 0) := by
  unfold s_l1Cur_pick
  by_cases hn : n ≤ 1
  · exact ⟨(0, c), by simp [hn], h.mono (by omega), by simp, .inr rfl⟩
  · obtain ⟨r, hr, hc, h0, h1⟩ := next_ok h (by omega)
    have hn' : decide (n ≤ 1) = false := by simpa using hn
    simp only [hn', Bool.false_eq_true, if_false, hr, Option.bind_some]
    have hne : chk (n ≠ 0) = some () := chk_of (by omega)
    by_cases h2 : 200 < n
    · obtain ⟨r', hr', hc', h0', h1'⟩ := next_ok hc (by omega)
      have e1 : w64 (r.1 * 256) = r.1 * 256 := w64_id (by omega)
      have e2 : w64 (r.1 * 256 + r'.1) = r.1 * 256 + r'.1 := w64_id (by omega)
      have h3 := tmod_rng (a := r.1 * 256 + r'.1) (b := n) (by omega) (by omega)
      simp only [h2, decide_true, if_true, hr', Option.bind_some, hne, e1, e2]
      exact ⟨_, rfl, hc'.mono (by omega), h3.1, .inl h3.2⟩
    · have h2' : decide (200 < n) = false := by simpa using h2
      have h3 := tmod_rng (a := r.1) (b := n) (by omega) (by omega)
      simp only [h2', Bool.false_eq_true, if_false, Option.bind_some, hne]
      exact ⟨_, rfl, hc.mono (by omega), h3.1, .inl h3.2⟩
theorem amongw_ok {k : Nat} {c : l1Cur} (l : List Int) (hl : l ≠ []) (h : Cur k c) (hk : k ≤ 3000000000) : ∃ r, s_l1Cur_among_w c l = some r ∧ Cur (k + 2) r.2 ∧ r.1 ∈ l := by
  unfold s_l1Cur_among_w
  obtain ⟨r, hr, hc, h0, h1⟩ := pick_ok (l.length : Int) h hk
  have hpos : 0 < l.length := List.length_pos_iff.2 hl
  obtain ⟨x, hx, _, hm⟩ := idx_lt (l := l) h0 (by omega)
  simp only [hr, Option.bind_some, hx]
  exact ⟨_, rfl, hc, hm⟩
theorem among_ok {k : Nat} {c : l1Cur} (l : List Int) (hl : l ≠ []) (h : Cur k c) (hk : k ≤ 3000000000) : ∃ r, s_l1Cur_among c l = some r ∧ Cur (k + 2) r.2 ∧ r.1 ∈ l := by
  have : s_l1Cur_among c l = s_l1Cur_among_w c l := rfl
  rw [this]; exact amongw_ok l hl h hk
theorem one_ok {k : Nat} {c : l1Cur} (n : Int) (h : Cur k c) (hk : k ≤ 3000000000) : ∃ r, s_l1Cur_one c n = some r ∧ Cur (k + 2) r.2 := by
  unfold s_l1Cur_one
  obtain ⟨r, hr, hc, _, _⟩ := pick_ok n h hk
  simp only [hr, Option.bind_some]
  exact ⟨_, rfl, hc⟩
theorem of_ok {k : Nat} {c : l1Cur} (l : List ByteArray) (hl : l ≠ []) (h : Cur k c) (hk : k ≤ 3000000000) : ∃ r, s_l1Cur_of c l = some r ∧ Cur (k + 2) r.2 ∧ r.1 ∈ l := by
  unfold s_l1Cur_of
  obtain ⟨r, hr, hc, h0, h1⟩ := pick_ok (l.length : Int) h hk
  have hpos : 0 < l.length := List.length_pos_iff.2 hl
  obtain ⟨x, hx, _, hm⟩ := idx_lt (l := l) h0 (by omega)
  simp only [hr, Option.bind_some, hx]
  exact ⟨_, rfl, hc, hm⟩
theorem ofw_ok {k : Nat} {c : l1Cur} (l : List ByteArray) (hl : l ≠ []) (h : Cur k c) (hk : k ≤ 3000000000) : ∃ r, s_l1Cur_of_w c l = some r ∧ Cur (k + 2) r.2 ∧ r.1 ∈ l := by
  have : s_l1Cur_of_w c l = s_l1Cur_of c l := rfl
  rw [this]; exact of_ok l hl h hk
theorem cur0 (code : List UInt8) : Cur 0 ⟨code, 0, ⟨0⟩⟩ := ⟨by show (0 : Int) ≤ 0; omega, by show (0 : Int) ≤ _; omega⟩
/-! Networks: when they are valid, for the program and for the reference. -/
theorem within_eq (n lo hi : Int) : i_within n lo hi = some (decide (lo ≤ n ∧ n ≤ hi)) := by
  unfold i_within
  by_cases h : lo ≤ n <;> simp [h]
theorem l1In_eq (n lo hi : Int) : s_l1In n lo hi = some (decide (lo ≤ n ∧ n ≤ hi)) := by
  unfold s_l1In
  by_cases h : lo ≤ n <;> simp [h]
/-- Byte i of a name. -/
def ChOK (i : Nat) (c : UInt8) : Prop := (97 ≤ (c.toNat : Int) ∧ (c.toNat : Int) ≤ 122) ∨ (i ≠ 0 ∧ 48 ≤ (c.toNat : Int) ∧ (c.toNat : Int) ≤ 57)
def NameOK (s : ByteArray) : Prop := (1 ≤ s.size ∧ s.size ≤ 8) ∧ ∀ (i : Nat) c, s.data.toList[i]? = some c → ChOK i c
open Classical in
noncomputable instance (s : ByteArray) : Decidable (NameOK s) := Classical.propDecidable _
theorem size_list (s : ByteArray) : s.data.toList.length = s.size := by simp
theorem getD_of {α : Type} {l : List α} {i : Nat} {x d : α} (h : l[i]? = some x) : l.getD i d = x := by rw [List.getD_eq_getElem?_getD, h]; rfl

theorem isName_eq (s : ByteArray) : i_isName s = some (decide (NameOK s)) := by
  unfold i_isName
  by_cases h1 : 1 ≤ s.size ∧ s.size ≤ 8
  · have e1 : decide ((s.size : Int) < 1) = false := by simp; omega
    have e2 : decide (8 < (s.size : Int)) = false := by simp; omega
    simp only [e1, e2, Bool.false_eq_true, if_false, Option.bind_some]
    have hsz := size_list s
    have key := Go.Ab.all_loop s.data.toList ChOK (step := i_isName_L1 s) ?_ ?_ 0 0 rfl (by omega)
    · rcases key with ⟨g1, g2⟩ | ⟨g1, g2⟩
      · rw [g1, flb_go]
        have : NameOK s := ⟨h1, fun i c hc => g2 i c (by omega) hc⟩
        simp [this]
      · rw [g1, flb_ret]
        have : ¬ NameOK s := fun hn => g2 fun i c _ hc => hn.2 i c hc
        simp [this]
    · intro i x hx
      have hi := (List.getElem?_eq_some_iff.1 hx).1
      have hg : s.data.toList.getD (i : Int).toNat 0 = x := by rw [Int.toNat_natCast]; exact getD_of hx
      have hc : chk ((0 : Int) ≤ (i : Int) ∧ (i : Int) < (s.size : Int)) = some () := chk_of (by omega)
      have hlt : decide ((i : Int) < (s.size : Int)) = true := by simp; omega
      unfold i_isName_L1
      simp only [hlt, if_true, hc, hg, Option.bind_some, w64_succ (n := i) (by omega)]
      unfold ChOK
      by_cases a1 : (97 : Int) ≤ (x.toNat : Int)
      · by_cases a2 : (x.toNat : Int) ≤ 122
        · left; refine ⟨by simp [a1, a2], .inl ⟨a1, a2⟩⟩
        · right
          refine ⟨?_, by omega⟩
          have b1 : decide ((x.toNat : Int) < 48) = false := by simp; omega
          have b2 : decide ((57 : Int) < (x.toNat : Int)) = true := by simp; omega
          have c1 : ¬ (x.toNat : Int) < 48 := by omega
          have c2 : (57 : Int) < (x.toNat : Int) := by omega
          by_cases hi0 : i = 0
          · simp [a1, a2, hi0]
          · have hi0' : ((i : Int) == 0) = false := by simp; omega
            simp [a1, a2, hi0', c1, c2]
      · by_cases hi0 : i = 0
        · right
          refine ⟨by simp [a1, hi0], by omega⟩
        · have hi0' : ((i : Int) == 0) = false := by simp; omega
          by_cases b1 : (x.toNat : Int) < 48
          · right
            refine ⟨by simp [a1, hi0', b1], by omega⟩
          · by_cases b2 : (57 : Int) < (x.toNat : Int)
            · right
              refine ⟨by simp [a1, hi0', b1, b2], by omega⟩
            · left
              refine ⟨by simp [a1, hi0', b1, b2], .inr ⟨hi0, by omega, by omega⟩⟩
    · unfold i_isName_L1
      rw [hsz]
      simp
  · have : ¬ NameOK s := fun h => h1 h.1
    have e : (if (decide ((s.size : Int) < 1)) = true then some true else some (decide (8 < (s.size : Int)))) = some true := by
      by_cases h2 : s.size < 1
      · have : decide ((s.size : Int) < 1) = true := by simp; omega
        simp [this]
      · have e1 : decide ((s.size : Int) < 1) = false := by simp; omega
        have e2 : decide (8 < (s.size : Int)) = true := by simp; omega
        simp [e1, e2]
    rw [e]
    simp [this]

theorem l2Name_eq (s : ByteArray) : s_l2Name s = some (decide (NameOK s)) := by
  unfold s_l2Name
  rw [l1In_eq]
  simp only [Option.bind_some]
  by_cases h1 : 1 ≤ s.size ∧ s.size ≤ 8
  · have e1 : decide ((1 : Int) ≤ (s.size : Int) ∧ (s.size : Int) ≤ 8) = true := by simp; omega
    have hsz := size_list s
    obtain ⟨x0, hx0⟩ := get_ex (l := s.data.toList) (i := 0) (by omega)
    have hg0 : s.data.toList.getD (0 : Int).toNat 0 = x0 := getD_of hx0
    have hc0 : chk ((0 : Int) ≤ 0 ∧ 0 < (s.size : Int)) = some () := chk_of (by omega)
    simp only [e1, Bool.not_true, Bool.false_eq_true, if_false, hc0, hg0, Option.bind_some]
    by_cases a0 : 97 ≤ (x0.toNat : Int) ∧ (x0.toNat : Int) ≤ 122
    · have b1 : decide ((x0.toNat : Int) < 97) = false := by simp; omega
      have b2 : decide ((122 : Int) < (x0.toNat : Int)) = false := by simp; omega
      simp only [b1, b2, Bool.false_eq_true, if_false, Option.bind_some]
      have key := Go.Ab.all_loop s.data.toList ChOK (step := s_l2Name_L1 s) ?_ ?_ 0 0 rfl (by omega)
      · rcases key with ⟨g1, g2⟩ | ⟨g1, g2⟩
        · rw [g1, flb_go]
          have : NameOK s := ⟨h1, fun i c hc => g2 i c (by omega) hc⟩
          simp [this]
        · rw [g1, flb_ret]
          have : ¬ NameOK s := fun hn => g2 fun i c _ hc => hn.2 i c hc
          simp [this]
      · intro i x hx
        have hi := (List.getElem?_eq_some_iff.1 hx).1
        have hg : s.data.toList.getD (i : Int).toNat 0 = x := by rw [Int.toNat_natCast]; exact getD_of hx
        have hc : chk ((0 : Int) ≤ (i : Int) ∧ (i : Int) < (s.size : Int)) = some () := chk_of (by omega)
        have hlt : decide ((i : Int) < (s.size : Int)) = true := by simp; omega
        have h0 : i = 0 → x = x0 := fun h => by subst h; rw [hx0] at hx; cases hx; rfl
        unfold s_l2Name_L1
        simp only [hlt, if_true, hc, hg, Option.bind_some, w64_succ (n := i) (by omega)]
        unfold ChOK
        by_cases a1 : (x.toNat : Int) < 97
        · have hi0 : i ≠ 0 := fun h => by have := h0 h; subst this; omega
          by_cases c1 : (x.toNat : Int) < 48
          · right; refine ⟨by simp [a1, c1], by omega⟩
          · by_cases c2 : (57 : Int) < (x.toNat : Int)
            · right; refine ⟨by simp [a1, c1, c2], by omega⟩
            · left; refine ⟨by simp [a1, c1, c2], .inr ⟨hi0, by omega, by omega⟩⟩
        · by_cases a2 : (122 : Int) < (x.toNat : Int)
          · right
            have c1 : ¬ (x.toNat : Int) < 48 := by omega
            have c2 : (57 : Int) < (x.toNat : Int) := by omega
            refine ⟨by simp [a1, a2, c1, c2], by omega⟩
          · left; refine ⟨by simp [a1, a2], .inl ⟨by omega, by omega⟩⟩
      · unfold s_l2Name_L1
        rw [hsz]
        simp
    · have : ¬ NameOK s := fun hn => by
        have := hn.2 0 x0 hx0
        unfold ChOK at this
        omega
      have e : (if (decide ((x0.toNat : Int) < 97)) = true then some true else some (decide ((122 : Int) < (x0.toNat : Int)))) = some true := by
        by_cases h2 : (x0.toNat : Int) < 97
        · simp [h2]
        · have : (122 : Int) < (x0.toNat : Int) := by omega
          simp [h2, this]
      rw [e]
      simp [this]
  · have e1 : decide ((1 : Int) ≤ (s.size : Int) ∧ (s.size : Int) ≤ 8) = false := by simp; omega
    have : ¬ NameOK s := fun h => h1 h.1
    simp [e1, this]

/-! Searches -/
theorem index_str_eq (l : List ByteArray) (hl : l.length ≤ 4000000000) (v : ByteArray) : slices_Index_string l v = some (fixI (fun e => v.toList == e.toList) l) := by
  unfold slices_Index_string
  refine find_val l (fun e => v.toList == e.toList) (fun i x hx => ?_) (by unfold slices_Index_string_L1; simp)
  have hi := (List.getElem?_eq_some_iff.1 hx).1
  unfold slices_Index_string_L1
  have hlt : decide ((i : Int) < (l.length : Int)) = true := by simp; omega
  simp only [hlt, if_true, idx_nat, hx, Option.bind_some, w64_succ (n := i) (by omega)]
  split <;> rfl
theorem index_int_eq (l : List Int) (hl : l.length ≤ 4000000000) (v : Int) : slices_Index_int l v = some (fixI (fun e => v == e) l) := by
  unfold slices_Index_int
  refine find_val l (fun e => v == e) (fun i x hx => ?_) (by unfold slices_Index_int_L1; simp)
  have hi := (List.getElem?_eq_some_iff.1 hx).1
  unfold slices_Index_int_L1
  have hlt : decide ((i : Int) < (l.length : Int)) = true := by simp; omega
  simp only [hlt, if_true, idx_nat, hx, Option.bind_some, w64_succ (n := i) (by omega)]
  split <;> rfl
theorem l2Place_eq (x : Line) (hl : x.Stops.length ≤ 4000000000) (v : Int) : s_l2Place x v = some (fixI (fun e => v == e) x.Stops) := by
  have hc : fixI (fun e => v == e) x.Stops = fixI (fun e => e == v) x.Stops := fixI_congr _ fun e => BEq.comm
  rw [hc]
  unfold s_l2Place
  refine find_val x.Stops (fun e => e == v) (fun i y hx => ?_) (by unfold s_l2Place_L1; simp)
  have hi := (List.getElem?_eq_some_iff.1 hx).1
  unfold s_l2Place_L1
  have hlt : decide ((i : Int) < (x.Stops.length : Int)) = true := by simp; omega
  simp only [hlt, if_true, idx_nat, hx, Option.bind_some, w64_succ (n := i) (by omega)]
  split <;> rfl
theorem bl_comm (a b : List UInt8) : (a == b) = (b == a) := BEq.comm
theorem l2Find_eq (l : List ByteArray) (hl : l.length ≤ 4000000000) (v : ByteArray) : s_l2Find l v = some (fixI (fun e => v.toList == e.toList) l) := by
  rw [fixI_congr l (q := fun e => e.toList == v.toList) fun e => bl_comm _ _]
  unfold s_l2Find
  refine find_val l (fun e => e.toList == v.toList) (fun i x hx => ?_) (by unfold s_l2Find_L1; simp)
  have hi := (List.getElem?_eq_some_iff.1 hx).1
  unfold s_l2Find_L1
  have hlt : decide ((i : Int) < (l.length : Int)) = true := by simp; omega
  simp only [hlt, if_true, idx_nat, hx, Option.bind_some, w64_succ (n := i) (by omega)]
  split <;> rfl
theorem l2LineNamed_eq (n : Network) (hl : n.Lines.length ≤ 4000000000) (v : ByteArray) : s_l2LineNamed n v = some (fixI (fun e => v.toList == e.toList) (n.Lines.map (·.Name))) := by
  rw [fixI_map, fixI_congr n.Lines (q := fun e => e.Name.toList == v.toList) fun e => bl_comm _ _]
  unfold s_l2LineNamed
  refine find_val n.Lines (fun e => e.Name.toList == v.toList) (fun i x hx => ?_) (by unfold s_l2LineNamed_L1; simp)
  have hi := (List.getElem?_eq_some_iff.1 hx).1
  unfold s_l2LineNamed_L1
  have hlt : decide ((i : Int) < (n.Lines.length : Int)) = true := by simp; omega
  simp only [hlt, if_true, idx_nat, hx, Option.bind_some, w64_succ (n := i) (by omega)]
  split <;> rfl
def NamesP (l : List ByteArray) : Prop := ∀ (i : Nat) x, l[i]? = some x → NameOK x ∧ fixI (fun e => x.toList == e.toList) l = (i : Int)
def LineP (st : Nat) (x : Line) : Prop := (2 ≤ x.Stops.length ∧ x.Stops.length ≤ 6) ∧ (x.Runs.length : Int) = (x.Stops.length : Int) - 1 ∧
  (∀ (i : Nat) e, x.Stops[i]? = some e → (0 ≤ e ∧ e < (st : Int)) ∧ fixI (fun y => e == y) x.Stops = (i : Int)) ∧ ∀ (i : Nat) r, x.Runs[i]? = some r → 1 ≤ r ∧ r ≤ 60
def Good (n : Network) : Prop := (2 ≤ n.Stops.length ∧ n.Stops.length ≤ 8) ∧ (1 ≤ n.Lines.length ∧ n.Lines.length ≤ 5) ∧ NamesP n.Stops ∧ NamesP (n.Lines.map (·.Name)) ∧ ∀ (i : Nat) x, n.Lines[i]? = some x → LineP n.Stops.length x
noncomputable instance (l : List ByteArray) : Decidable (NamesP l) := Classical.propDecidable _
noncomputable instance (st : Nat) (x : Line) : Decidable (LineP st x) := Classical.propDecidable _
noncomputable instance (n : Network) : Decidable (Good n) := Classical.propDecidable _
/-- No list is too long. -/
def Bd (n : Network) : Prop := n.Stops.length ≤ 1000 ∧ n.Lines.length ≤ 1000 ∧ ∀ x ∈ n.Lines, x.Stops.length ≤ 1000 ∧ x.Runs.length ≤ 1000

theorem areNames_eq (l : List ByteArray) (hl : l.length ≤ 1000) : i_areNames l = some (decide (NamesP l)) := by
  unfold i_areNames
  rw [all_val (hd := Classical.propDecidable _) l (fun i x => NameOK x ∧ fixI (fun e => x.toList == e.toList) l = (i : Int)) (fun i x hx => ?_) (by unfold i_areNames_L1; simp)]
  · by_cases h : NamesP l
    · rw [if_pos (show ∀ (i : Nat) x, l[i]? = some x → NameOK x ∧ fixI (fun e => x.toList == e.toList) l = (i : Int) from h)]; simp [h]
    · rw [if_neg (show ¬ ∀ (i : Nat) x, l[i]? = some x → NameOK x ∧ fixI (fun e => x.toList == e.toList) l = (i : Int) from h)]; simp [h]
  · have hi := (List.getElem?_eq_some_iff.1 hx).1
    unfold i_areNames_L1
    have hlt : decide ((i : Int) < (l.length : Int)) = true := by simp; omega
    simp only [hlt, if_true, idx_nat, hx, Option.bind_some, isName_eq, index_str_eq l (by omega), w64_succ (n := i) (by omega)]
    by_cases h1 : NameOK x
    · by_cases h2 : fixI (fun e => x.toList == e.toList) l = (i : Int)
      · left; simp [h1, h2]
      · right; simp [h1, h2]
    · right; simp [h1]

theorem lineNames_eq (n : Network) (hl : n.Lines.length ≤ 1000) : i_lineNames n = some (n.Lines.map (·.Name)) := by
  unfold i_lineNames
  rw [chk_of (by omega)]
  simp only [Option.bind_some]
  rw [fill_loop (fun x : Line => x.Name) n.Lines _ (by simp) (fun i a x y ha hy hx => ?_) (fun a ha => ?_)]
  · rfl
  · have hi := (List.getElem?_eq_some_iff.1 hx).1
    unfold i_lineNames_L1
    have hlt : decide ((i : Int) < (n.Lines.length : Int)) = true := by simp; omega
    simp only [hlt, if_true, idx_nat, hx, hy, Option.bind_some, w64_succ (n := i) (by omega), Int.toNat_natCast]
  · unfold i_lineNames_L1; simp

theorem isStop_eq (n : Network) (e : Int) : i_isStop n e = some (decide (0 ≤ e ∧ e < (n.Stops.length : Int))) := by
  unfold i_isStop
  by_cases h : 0 ≤ e <;> simp [h]
theorem isLine_eq (n : Network) (e : Int) : i_isLine n e = some (decide (0 ≤ e ∧ e < (n.Lines.length : Int))) := by
  unfold i_isLine
  by_cases h : 0 ≤ e <;> simp [h]

theorem isValidLine_eq (n : Network) (l : Line) (h1 : l.Stops.length ≤ 1000) (h2 : l.Runs.length ≤ 1000) : i_isValidLine n l = some (decide (LineP n.Stops.length l)) := by
  unfold i_isValidLine
  rw [within_eq]
  have e0 : w64 ((l.Stops.length : Int) - 1) = (l.Stops.length : Int) - 1 := w64_id (by omega)
  simp only [Option.bind_some, e0]
  by_cases a1 : 2 ≤ l.Stops.length ∧ l.Stops.length ≤ 6
  · have d1 : decide ((2 : Int) ≤ (l.Stops.length : Int) ∧ (l.Stops.length : Int) ≤ 6) = true := by simp; omega
    simp only [d1, Bool.not_true, Bool.false_eq_true, if_false]
    by_cases a2 : (l.Runs.length : Int) = (l.Stops.length : Int) - 1
    · have d2 : ((l.Runs.length : Int) != (l.Stops.length : Int) - 1) = false := by simp [a2]
      simp only [d2, Option.bind_some, Bool.false_eq_true, if_false]
      rw [all_val (hd := Classical.propDecidable _) l.Stops (fun i e => (0 ≤ e ∧ e < (n.Stops.length : Int)) ∧ fixI (fun y => e == y) l.Stops = (i : Int)) (fun i x hx => ?_) (by unfold i_isValidLine_L1; simp)]
      · rw [all_val (hd := Classical.propDecidable _) l.Runs (fun i r => 1 ≤ r ∧ r ≤ 60) (fun i x hx => ?_) (by unfold i_isValidLine_L2; simp)]
        · by_cases b1 : ∀ (i : Nat) e, l.Stops[i]? = some e → (0 ≤ e ∧ e < (n.Stops.length : Int)) ∧ fixI (fun y => e == y) l.Stops = (i : Int)
          · rw [if_pos b1]
            by_cases b2 : ∀ (i : Nat) r, l.Runs[i]? = some r → 1 ≤ r ∧ r ≤ 60
            · rw [if_pos b2]
              have : LineP n.Stops.length l := ⟨a1, a2, b1, b2⟩
              simp [this]
            · rw [if_neg b2]
              have : ¬ LineP n.Stops.length l := fun h => b2 h.2.2.2
              simp [this]
          · rw [if_neg b1]
            have : ¬ LineP n.Stops.length l := fun h => b1 h.2.2.1
            simp [this]
        · have hi := (List.getElem?_eq_some_iff.1 hx).1
          unfold i_isValidLine_L2
          have hlt : decide ((i : Int) < (l.Runs.length : Int)) = true := by simp; omega
          simp only [hlt, if_true, idx_nat, hx, Option.bind_some, within_eq, w64_succ (n := i) (by omega)]
          by_cases b : 1 ≤ x ∧ x ≤ 60
          · left; simp [b]
          · right; simp [b]
      · have hi := (List.getElem?_eq_some_iff.1 hx).1
        unfold i_isValidLine_L1
        have hlt : decide ((i : Int) < (l.Stops.length : Int)) = true := by simp; omega
        simp only [hlt, if_true, idx_nat, hx, Option.bind_some, isStop_eq, index_int_eq l.Stops (by omega), w64_succ (n := i) (by omega)]
        by_cases b1 : 0 ≤ x ∧ x < (n.Stops.length : Int)
        · by_cases b2 : fixI (fun y => x == y) l.Stops = (i : Int)
          · left; simp [b1, b2]
          · right; simp [b1, b2]
        · right; simp [b1]
    · have d2 : ((l.Runs.length : Int) != (l.Stops.length : Int) - 1) = true := by simp [a2]
      have : ¬ LineP n.Stops.length l := fun h => a2 h.2.1
      simp [d2, this]
  · have d1 : decide ((2 : Int) ≤ (l.Stops.length : Int) ∧ (l.Stops.length : Int) ≤ 6) = false := by simp; omega
    have : ¬ LineP n.Stops.length l := fun h => a1 h.1
    simp [d1, this]

theorem l2Line_eq (l : Line) (st : Nat) (hst : st ≤ 1000) (h1 : l.Stops.length ≤ 1000) (h2 : l.Runs.length ≤ 1000) : s_l2Line l (st : Int) = some (decide (NameOK l.Name ∧ LineP st l)) := by
  unfold s_l2Line
  rw [l2Name_eq]
  have e0 : w64 ((l.Stops.length : Int) - 1) = (l.Stops.length : Int) - 1 := w64_id (by omega)
  have e1 : w64 ((st : Int) - 1) = (st : Int) - 1 := w64_id (by omega)
  simp only [Option.bind_some, e0, l1In_eq]
  by_cases a0 : NameOK l.Name
  · simp only [a0, decide_true, Bool.not_true, Bool.false_eq_true, if_false, true_and]
    by_cases a1 : 2 ≤ l.Stops.length ∧ l.Stops.length ≤ 6
    · have d1 : decide ((2 : Int) ≤ (l.Stops.length : Int) ∧ (l.Stops.length : Int) ≤ 6) = true := by simp; omega
      simp only [d1, Bool.not_true, Bool.false_eq_true, if_false]
      by_cases a2 : (l.Runs.length : Int) = (l.Stops.length : Int) - 1
      · have d2 : ((l.Runs.length : Int) != (l.Stops.length : Int) - 1) = false := by simp [a2]
        simp only [d2, Option.bind_some, Bool.false_eq_true, if_false]
        rw [all_val (hd := Classical.propDecidable _) l.Stops (fun i e => (0 ≤ e ∧ e < (st : Int)) ∧ fixI (fun y => e == y) l.Stops = (i : Int)) (fun i x hx => ?_) (by unfold s_l2Line_L1; simp)]
        · rw [all_val (hd := Classical.propDecidable _) l.Runs (fun i r => 1 ≤ r ∧ r ≤ 60) (fun i x hx => ?_) (by unfold s_l2Line_L2; simp)]
          · by_cases b1 : ∀ (i : Nat) e, l.Stops[i]? = some e → (0 ≤ e ∧ e < (st : Int)) ∧ fixI (fun y => e == y) l.Stops = (i : Int)
            · rw [if_pos b1]
              by_cases b2 : ∀ (i : Nat) r, l.Runs[i]? = some r → 1 ≤ r ∧ r ≤ 60
              · rw [if_pos b2]
                have : LineP st l := ⟨a1, a2, b1, b2⟩
                simp [this]
              · rw [if_neg b2]
                have : ¬ LineP st l := fun h => b2 h.2.2.2
                simp [this]
            · rw [if_neg b1]
              have : ¬ LineP st l := fun h => b1 h.2.2.1
              simp [this]
          · have hi := (List.getElem?_eq_some_iff.1 hx).1
            unfold s_l2Line_L2
            have hlt : decide ((i : Int) < (l.Runs.length : Int)) = true := by simp; omega
            simp only [hlt, if_true, idx_nat, hx, Option.bind_some, l1In_eq, w64_succ (n := i) (by omega)]
            by_cases b : 1 ≤ x ∧ x ≤ 60
            · left; simp [b]
            · right; simp [b]
        · have hi := (List.getElem?_eq_some_iff.1 hx).1
          unfold s_l2Line_L1
          have hlt : decide ((i : Int) < (l.Stops.length : Int)) = true := by simp; omega
          simp only [hlt, if_true, idx_nat, hx, Option.bind_some, l1In_eq, e1, l2Place_eq l (by omega), w64_succ (n := i) (by omega)]
          by_cases b1 : 0 ≤ x ∧ x < (st : Int)
          · have d3 : decide (0 ≤ x ∧ x ≤ (st : Int) - 1) = true := by simp; omega
            by_cases b2 : fixI (fun y => x == y) l.Stops = (i : Int)
            · left; simp only [d3]; simp [b1, b2]
            · right; simp only [d3]; simp [b1, b2]
          · have d3 : decide (0 ≤ x ∧ x ≤ (st : Int) - 1) = false := by simp; omega
            right; simp only [d3]; simp [b1]
      · have d2 : ((l.Runs.length : Int) != (l.Stops.length : Int) - 1) = true := by simp [a2]
        have : ¬ LineP st l := fun h => a2 h.2.1
        simp [d2, this]
    · have d1 : decide ((2 : Int) ≤ (l.Stops.length : Int) ∧ (l.Stops.length : Int) ≤ 6) = false := by simp; omega
      have : ¬ LineP st l := fun h => a1 h.1
      simp [d1, this]
  · simp [a0]

theorem valid_eq (n : Network) (h : Bd n) : i_IsValidNetwork n = some (decide (Good n)) := by
  obtain ⟨h1, h2, h3⟩ := h
  unfold i_IsValidNetwork
  simp only [within_eq, Option.bind_some, areNames_eq n.Stops h1, lineNames_eq n h2, areNames_eq (n.Lines.map (·.Name)) (by simpa using h2)]
  by_cases a1 : 2 ≤ n.Stops.length ∧ n.Stops.length ≤ 8
  · have d1 : decide ((2 : Int) ≤ (n.Stops.length : Int) ∧ (n.Stops.length : Int) ≤ 8) = true := by simp; omega
    simp only [d1, Bool.not_true, Bool.false_eq_true, if_false]
    by_cases a2 : 1 ≤ n.Lines.length ∧ n.Lines.length ≤ 5
    · have d2 : decide ((1 : Int) ≤ (n.Lines.length : Int) ∧ (n.Lines.length : Int) ≤ 5) = true := by simp; omega
      simp only [d2, Bool.not_true, Bool.false_eq_true, if_false]
      by_cases a3 : NamesP n.Stops
      · simp only [a3, decide_true, Bool.not_true, Bool.false_eq_true, if_false]
        by_cases a4 : NamesP (n.Lines.map (·.Name))
        · simp only [a4, decide_true, Bool.not_true, Option.bind_some, Bool.false_eq_true, if_false]
          rw [all_val (hd := Classical.propDecidable _) n.Lines (fun i x => LineP n.Stops.length x) (fun i x hx => ?_) (by unfold i_IsValidNetwork_L1; simp)]
          · by_cases b1 : ∀ (i : Nat) x, n.Lines[i]? = some x → LineP n.Stops.length x
            · rw [if_pos b1]
              have : Good n := ⟨a1, a2, a3, a4, b1⟩
              simp [this]
            · rw [if_neg b1]
              have : ¬ Good n := fun h => b1 h.2.2.2.2
              simp [this]
          · have hi := (List.getElem?_eq_some_iff.1 hx).1
            obtain ⟨g1, g2⟩ := h3 x (List.mem_of_getElem? hx)
            unfold i_IsValidNetwork_L1
            have hlt : decide ((i : Int) < (n.Lines.length : Int)) = true := by simp; omega
            simp only [hlt, if_true, idx_nat, hx, Option.bind_some, isValidLine_eq n x g1 g2, w64_succ (n := i) (by omega)]
            by_cases b : LineP n.Stops.length x
            · left; simp [b]
            · right; simp [b]
        · have : ¬ Good n := fun h => a4 h.2.2.2.1
          simp [a4, this]
      · have : ¬ Good n := fun h => a3 h.2.2.1
        simp [a3, this]
    · have d2 : decide ((1 : Int) ≤ (n.Lines.length : Int) ∧ (n.Lines.length : Int) ≤ 5) = false := by simp; omega
      have : ¬ Good n := fun h => a2 h.2.1
      simp [d2, this]
  · have d1 : decide ((2 : Int) ≤ (n.Stops.length : Int) ∧ (n.Stops.length : Int) ≤ 8) = false := by simp; omega
    have : ¬ Good n := fun h => a1 h.1
    simp [d1, this]

theorem good_eq (n : Network) (h : Bd n) : s_l2Good n = some (decide (Good n)) := by
  obtain ⟨h1, h2, h3⟩ := h
  unfold s_l2Good
  simp only [l1In_eq, Option.bind_some]
  by_cases a1 : 2 ≤ n.Stops.length ∧ n.Stops.length ≤ 8
  · have d1 : decide ((2 : Int) ≤ (n.Stops.length : Int) ∧ (n.Stops.length : Int) ≤ 8) = true := by simp; omega
    simp only [d1, Bool.not_true, Bool.false_eq_true, if_false]
    by_cases a2 : 1 ≤ n.Lines.length ∧ n.Lines.length ≤ 5
    · have d2 : decide ((1 : Int) ≤ (n.Lines.length : Int) ∧ (n.Lines.length : Int) ≤ 5) = true := by simp; omega
      simp only [d2, Bool.not_true, Option.bind_some, Bool.false_eq_true, if_false]
      rw [all_val (hd := Classical.propDecidable _) n.Stops (fun i x => NameOK x ∧ fixI (fun e => x.toList == e.toList) n.Stops = (i : Int)) (fun i x hx => ?_) (by unfold s_l2Good_L1; simp)]
      · rw [all_val (hd := Classical.propDecidable _) n.Lines (fun i x => (NameOK x.Name ∧ LineP n.Stops.length x) ∧ fixI (fun e => x.Name.toList == e.toList) (n.Lines.map (·.Name)) = (i : Int)) (fun i x hx => ?_) (by unfold s_l2Good_L2; simp)]
        · by_cases b1 : NamesP n.Stops
          · rw [if_pos (show ∀ (i : Nat) x, n.Stops[i]? = some x → NameOK x ∧ fixI (fun e => x.toList == e.toList) n.Stops = (i : Int) from b1)]
            by_cases b2 : ∀ (i : Nat) x, n.Lines[i]? = some x → (NameOK x.Name ∧ LineP n.Stops.length x) ∧ fixI (fun e => x.Name.toList == e.toList) (n.Lines.map (·.Name)) = (i : Int)
            · rw [if_pos b2]
              have : Good n := ⟨a1, a2, b1, fun i y hy => by
                rw [List.getElem?_map] at hy
                obtain ⟨x, hx, rfl⟩ := Option.map_eq_some_iff.1 hy
                exact ⟨(b2 i x hx).1.1, (b2 i x hx).2⟩, fun i x hx => (b2 i x hx).1.2⟩
              simp [this]
            · rw [if_neg b2]
              have : ¬ Good n := fun h => b2 fun i x hx => by
                have h4 := h.2.2.2.1 i x.Name (by rw [List.getElem?_map, hx]; rfl)
                exact ⟨⟨h4.1, h.2.2.2.2 i x hx⟩, h4.2⟩
              simp [this]
          · rw [if_neg (show ¬ ∀ (i : Nat) x, n.Stops[i]? = some x → NameOK x ∧ fixI (fun e => x.toList == e.toList) n.Stops = (i : Int) from b1)]
            have : ¬ Good n := fun h => b1 h.2.2.1
            simp [this]
        · have hi := (List.getElem?_eq_some_iff.1 hx).1
          obtain ⟨g1, g2⟩ := h3 x (List.mem_of_getElem? hx)
          unfold s_l2Good_L2
          have hlt : decide ((i : Int) < (n.Lines.length : Int)) = true := by simp; omega
          simp only [hlt, if_true, idx_nat, hx, Option.bind_some, l2Line_eq x n.Stops.length h1 g1 g2, l2LineNamed_eq n (by omega), w64_succ (n := i) (by omega)]
          by_cases b1 : NameOK x.Name ∧ LineP n.Stops.length x
          · by_cases b2 : fixI (fun e => x.Name.toList == e.toList) (n.Lines.map (·.Name)) = (i : Int)
            · left; simp [b1, b2]
            · right; simp [b1, b2]
          · right; simp [b1]
      · have hi := (List.getElem?_eq_some_iff.1 hx).1
        unfold s_l2Good_L1
        have hlt : decide ((i : Int) < (n.Stops.length : Int)) = true := by simp; omega
        simp only [hlt, if_true, idx_nat, hx, Option.bind_some, l2Name_eq, l2Find_eq n.Stops (by omega), w64_succ (n := i) (by omega)]
        by_cases b1 : NameOK x
        · by_cases b2 : fixI (fun e => x.toList == e.toList) n.Stops = (i : Int)
          · left; simp [b1, b2]
          · right; simp [b1, b2]
        · right; simp [b1]
    · have d2 : decide ((1 : Int) ≤ (n.Lines.length : Int) ∧ (n.Lines.length : Int) ≤ 5) = false := by simp; omega
      have : ¬ Good n := fun h => a2 h.2.1
      simp [d2, this]
  · have d1 : decide ((2 : Int) ≤ (n.Stops.length : Int) ∧ (n.Stops.length : Int) ≤ 8) = false := by simp; omega
    have : ¬ Good n := fun h => a1 h.1
    simp [d1, this]
/-! Copies, reversed lists, the reversed line. -/
theorem l1Own_eq (l : List Int) (h : l.length ≤ 1000) : s_l1Own_f l = some l := by
  unfold s_l1Own_f
  rw [chk_of (by simp; omega)]; rfl
theorem l2Own_eq (n : Network) (h : Bd n) : s_l2Own n = some n := by
  obtain ⟨h1, h2, h3⟩ := h
  unfold s_l2Own
  rw [chk_of (by simp; omega)]
  simp only [Option.bind_some]
  rw [app_loop (fun x : Line => x) n.Lines (fun i a x ha hx => ?_) (fun a ha => ?_)]
  · simp only [Option.bind_some, List.map_id', List.nil_append]
  · have hi := (List.getElem?_eq_some_iff.1 hx).1
    obtain ⟨g1, g2⟩ := h3 x (List.mem_of_getElem? hx)
    unfold s_l2Own_L1
    have hlt : decide ((i : Int) < (n.Lines.length : Int)) = true := by simp; omega
    have hch : ∀ y : Line, chk (a.length + ([y] : List Line).length ≤ 4294967296) = some () := fun y => chk_of (by simp; omega)
    simp only [hlt, if_true, idx_nat, hx, Option.bind_some, l1Own_eq _ g1, l1Own_eq _ g2, hch, w64_succ (n := i) (by omega)]
  · unfold s_l2Own_L1; simp
theorem l2Own_t_eq (n : Network) (h : Bd n) : s_l2Own_t n = some n := by
  have : s_l2Own_t n = s_l2Own n := rfl
  rw [this]; exact l2Own_eq n h

theorem l2Back_eq (s : List Int) (hs : s.length ≤ 1000) : s_l2Back s = some s.reverse := by
  unfold s_l2Back
  have e0 : w64 ((s.length : Int) - 1) = (s.length : Int) - 1 := w64_id (by omega)
  rw [e0]
  have h := iter_rule (step := s_l2Back_L1 s) (fun m a => ∃ j : Nat, a.1 = (s.length : Int) - 1 - j ∧ m + j = s.length ∧ a.2 = s.reverse.take j) (fun b => b = s.reverse) ?_ (k := s.length) (a := ((s.length : Int) - 1, [])) ⟨0, by simp, by omega, by simp⟩
  · obtain ⟨b, hb, rfl⟩ := h
    rw [hb]; rfl
  rintro m ⟨v, i⟩ ⟨j, hv, hm, hi⟩
  simp only at hv hi
  subst hv
  by_cases hlt : j < s.length
  · left
    have ev : (s.length : Int) - 1 - j = ((s.length - 1 - j : Nat) : Int) := by omega
    rw [ev]
    obtain ⟨e, he⟩ := get_ex (l := s) (i := s.length - 1 - j) (by omega)
    have hd : decide ((0 : Int) ≤ ((s.length - 1 - j : Nat) : Int)) = true := by simp
    have hlen : i.length = j := by rw [hi]; simp; omega
    have hch : chk (i.length + ([e] : List Int).length ≤ 4294967296) = some () := chk_of (by simp; omega)
    have ev2 : w64 (((s.length - 1 - j : Nat) : Int) - 1) = (s.length : Int) - 1 - ((j + 1 : Nat) : Int) := by rw [w64_id (by omega)]; omega
    refine ⟨((s.length : Int) - 1 - ((j + 1 : Nat) : Int), i ++ [e]), m - 1, ?_, by omega, j + 1, rfl, by omega, ?_⟩
    · unfold s_l2Back_L1
      simp only [hd, if_true, idx_nat, he, hch, Option.bind_some, ev2]
    · show i ++ [e] = _
      rw [take_succ (x := e) (by rw [List.getElem?_reverse hlt]; exact he), hi]
  · right
    have ej : j = s.length := by omega
    subst ej
    have hd : decide ((0 : Int) ≤ (s.length : Int) - 1 - (s.length : Int)) = false := by simp; omega
    refine ⟨i, by unfold s_l2Back_L1; simp only [hd, Bool.false_eq_true, if_false], ?_⟩
    rw [hi, List.take_of_length_le (by simp)]
theorem l2BackF_eq (s : List Int) (hs : s.length ≤ 1000) : s_l2Back_f s = some s.reverse := l2Back_eq s hs

/-- The network with the reversed line. -/
def Rev (n : Network) (e : Line) (name : ByteArray) : Network := ⟨n.Stops, n.Lines ++ [⟨name, e.Stops.reverse, e.Runs.reverse⟩]⟩
def Asked (n : Network) (line : Int) (name : ByteArray) : Prop := Good n ∧ 0 ≤ line ∧ ∃ e, n.Lines[line.toNat]? = some e ∧ Good (Rev n e name)
theorem good_lines {n : Network} (h : Good n) : n.Lines.length ≤ 5 := h.2.1.2
theorem rev_bd {n : Network} {e : Line} {name : ByteArray} (h : Bd n) (hg : Good n) (he : e ∈ n.Lines) : Bd (Rev n e name) := by
  obtain ⟨h1, h2, h3⟩ := h
  have := good_lines hg
  refine ⟨h1, by simp [Rev]; omega, fun x hx => ?_⟩
  rcases List.mem_append.1 hx with hx | hx
  · exact h3 x hx
  · simp at hx
    subst hx
    obtain ⟨g1, g2⟩ := h3 e he
    exact ⟨by simpa using g1, by simpa using g2⟩

/-! The draws: they answer, with bounds. -/
/-- A drawn line. -/
def LB (x : Line) : Prop := (2 ≤ x.Stops.length ∧ x.Stops.length ≤ 10) ∧ 1 ≤ x.Runs.length ∧ x.Runs.length ≤ 10
def NB (n : Network) : Prop := (2 ≤ n.Stops.length ∧ n.Stops.length ≤ 6) ∧ (1 ≤ n.Lines.length ∧ n.Lines.length ≤ 8) ∧ ∀ x ∈ n.Lines, LB x
theorem NB.bd {n : Network} (h : NB n) : Bd n := ⟨by have := h.1; omega, by have := h.2.1; omega, fun x hx => by have := h.2.2 x hx; unfold LB at this; omega⟩
theorem l1Num_ok (n : Int) (h0 : 0 ≤ n) (h1 : n < 10) : ∃ r, s_l1Num n = some r ∧ r.size ≤ 10 := by
  have e : s_l1Num n = s_l1Num_F (s_l1Num_k 4294967295) n := rfl
  rw [e]
  unfold s_l1Num_F
  have d1 : decide (n < 0) = false := by simp; omega
  have d2 : decide (n < 10) = true := by simp; omega
  have e1 : w64 (n + 1) = n + 1 := w64_id (by omega)
  have hs : (str [48, 49, 50, 51, 52, 53, 54, 55, 56, 57]).size = 10 := rfl
  simp only [d1, d2, Bool.false_eq_true, if_false, if_true, e1, hs]
  rw [chk_of (by omega)]
  refine ⟨_, rfl, ?_⟩
  rw [ByteArray.size_extract, hs]
  omega

theorem line_ok {k : Nat} {c : l1Cur} (name : ByteArray) (stops : Int) (hs : 2 ≤ stops ∧ stops ≤ 1000) (h : Cur k c) (hk : k ≤ 1000000000) : ∃ r, s_l1Cur_line c name stops = some r ∧ Cur (k + 40) r.2 ∧ LB r.1 := by
  unfold s_l1Cur_line
  obtain ⟨r, hr, hc, h0, h1⟩ := pick_ok stops h (by omega)
  obtain ⟨r1, hr1, hc1, h10, h11⟩ := pick_ok 3 hc (by omega)
  simp only [hr, hr1, Option.bind_some]
  have e1 : w64 (2 + r1.1) = ((2 + r1.1.toNat : Nat) : Int) := by rw [w64_id (by omega)]; omega
  rw [e1]
  have loop : ∃ b, iter (s_l1Cur_line_L1 name stops) (r.1, ((2 + r1.1.toNat : Nat) : Int), r1.2.code_, r1.2.at_, r1.2.seed_.v, []) = some b ∧ (Cur (k + 4 + 2 * 4) ⟨b.1, b.2.1, ⟨b.2.2.1⟩⟩ ∧ 1 ≤ b.2.2.2.length ∧ b.2.2.2.length ≤ 4) := by
    refine iter_rule (fun m a => (0 ≤ a.1 ∧ a.1 < stops) ∧ a.2.1 = (m : Int) ∧ m + a.2.2.2.2.2.length ≤ 4 ∧ (1 ≤ m ∨ 1 ≤ a.2.2.2.2.2.length) ∧ Cur (k + 4 + 2 * (4 - m)) ⟨a.2.2.1, a.2.2.2.1, ⟨a.2.2.2.2.1⟩⟩) _ ?_ (k := 2 + r1.1.toNat) ⟨⟨h0, by show r.1 < stops; omega⟩, rfl, by simp; omega, .inl (by omega), hc1.mono (by omega)⟩
    rintro m ⟨v, v1, v2, v3, v4, v5⟩ ⟨hv, hv1, hl, hne, hcur⟩
    simp only at hv hv1 hl hne hcur
    subst hv1
    unfold s_l1Cur_line_L1
    cases m with
    | zero => right; exact ⟨_, by simp; rfl, hcur, by show 1 ≤ v5.length; omega, by show v5.length ≤ 4; omega⟩
    | succ m =>
      left
      have hpos : decide ((0 : Int) < ((m + 1 : Nat) : Int)) = true := by simp
      obtain ⟨r3, hr3, hc3, h30, h31⟩ := pick_ok 2 hcur (by omega)
      have hpl := l2Place_eq (⟨name, v5, []⟩ : Line) (by show v5.length ≤ _; omega) v
      have hch : chk (v5.length + ([v] : List Int).length ≤ 4294967296) = some () := chk_of (by simp; omega)
      have hne0 : chk (stops ≠ 0) = some () := chk_of (by omega)
      have w1 : w64 (v + 1) = v + 1 := w64_id (by omega)
      have w2 : w64 (v + 1 + r3.1) = v + 1 + r3.1 := w64_id (by omega)
      have ht := tmod_rng (a := v + 1 + r3.1) (b := stops) (by omega) (by omega)
      simp only [hpos, if_true, hpl, hch, hr3, hne0, w1, w2, Option.bind_some]
      have w3 : w64 (((m + 1 : Nat) : Int) - 1) = (m : Int) := w64_pred (by omega)
      split
      · refine ⟨_, m, by simp only [Option.bind_some]; rfl, by omega, ht, w3, ?_, .inr ?_, ?_⟩
        · simp; omega
        · simp
        · exact hc3.mono (by omega)
      · rename_i hn
        refine ⟨_, m, by simp only [Option.bind_some]; rfl, by omega, ht, w3, ?_, .inr ?_, ?_⟩
        · show m + v5.length ≤ 4; omega
        · show 1 ≤ v5.length
          cases v5 with
          | nil => simp [fixI] at hn
          | cons a l => simp
        · exact hc3.mono (by omega)
  obtain ⟨⟨v7, v8, v9, v10⟩, hb, hcb, hlb⟩ := loop
  simp only at hcb hlb
  rw [hb]
  simp only [Option.bind_some]
  -- at least two stops
  have two : ∃ v11 : List Int, (if decide ((v10.length : Int) < 2) = true then (idx v10 0).bind fun e1 => (chk ((stops : Int) ≠ 0)).bind fun u4 => (chk (v10.length + ([((w64 (e1 + 1)).tmod stops)] : List Int).length ≤ 4294967296)).bind fun u5 => some (v10 ++ ([((w64 (e1 + 1)).tmod stops)] : List Int)) else some v10) = some v11 ∧ 2 ≤ v11.length ∧ v11.length ≤ 5 := by
    by_cases h2 : (v10.length : Int) < 2
    · obtain ⟨e, he, _⟩ := idx_lt (l := v10) (i := 0) (by omega) (by omega)
      have hch : ∀ y : Int, chk (v10.length + ([y] : List Int).length ≤ 4294967296) = some () := fun y => chk_of (by simp; omega)
      have hne0 : chk (stops ≠ 0) = some () := chk_of (by omega)
      refine ⟨v10 ++ [(w64 (e + 1)).tmod stops], by simp only [h2, decide_true, if_true, he, hne0, hch, Option.bind_some], ?_, ?_⟩
      · simp; omega
      · simp; omega
    · exact ⟨v10, by simp [h2], by omega, by omega⟩
  obtain ⟨v11, hv11, l1, l2⟩ := two
  rw [hv11]
  simp only [Option.bind_some]
  have loop2 : ∃ b, iter (s_l1Cur_line_L2 v11) (1, v7, v8, v9, []) = some b ∧ (Cur (k + 40) ⟨b.1, b.2.1, ⟨b.2.2.1⟩⟩ ∧ b.2.2.2.length + 1 = v11.length) := by
    refine iter_rule (fun m a => ∃ i : Nat, a.1 = (i : Int) ∧ m + i = v11.length ∧ a.2.2.2.2.length + 1 = i ∧ Cur (k + 12 + 2 * i) ⟨a.2.1, a.2.2.1, ⟨a.2.2.2.1⟩⟩) _ ?_ (k := v11.length - 1) ⟨1, rfl, by omega, rfl, hcb.mono (by omega)⟩
    rintro m ⟨v12, v13, v14, v15, v16⟩ ⟨i, hi, hm, hl, hcur⟩
    simp only at hi hl hcur
    subst hi
    unfold s_l1Cur_line_L2
    by_cases hlt : i < v11.length
    · left
      have hd : decide ((i : Int) < (v11.length : Int)) = true := by simp; omega
      obtain ⟨r5, hr5, hc5, _⟩ := pick_ok 12 hcur (by omega)
      have hch : ∀ y : Int, chk (v16.length + ([y] : List Int).length ≤ 4294967296) = some () := fun y => chk_of (by simp; omega)
      refine ⟨_, m - 1, by simp only [hd, if_true, hr5, hch, Option.bind_some, w64_succ (n := i) (by omega)]; rfl, by omega, i + 1, rfl, by omega, ?_, ?_⟩
      · simp; omega
      · exact hc5.mono (by omega)
    · right
      have hd : decide ((i : Int) < (v11.length : Int)) = false := by simp; omega
      refine ⟨_, by simp only [hd, Bool.false_eq_true, if_false]; rfl, ?_, ?_⟩
      · exact hcur.mono (by omega)
      · show v16.length + 1 = _; omega
  obtain ⟨⟨v17, v18, v19, v20⟩, hb2, hcb2, hl2⟩ := loop2
  simp only at hcb2 hl2
  rw [hb2]
  simp only [Option.bind_some]
  exact ⟨_, rfl, hcb2, ⟨l1, by show v11.length ≤ 10; omega⟩, by show 1 ≤ v20.length; omega, by show v20.length ≤ 10; omega⟩
theorem lineF_ok {k : Nat} {c : l1Cur} (name : ByteArray) (stops : Int) (hs : 2 ≤ stops ∧ stops ≤ 1000) (h : Cur k c) (hk : k ≤ 1000000000) : ∃ r, s_l1Cur_line_f c name stops = some r ∧ Cur (k + 40) r.2 ∧ LB r.1 := line_ok name stops hs h hk

theorem six_len (i : Nat) (h2 : 2 ≤ i) (h6 : i ≤ 6) (l : List ByteArray) (hl : l.length = 6) : 2 ≤ ((l.take i).drop (0 : Int).toNat).length ∧ ((l.take i).drop (0 : Int).toNat).length ≤ 6 := by
  simp; omega

theorem networkT_ok {k : Nat} {c : l1Cur} (h : Cur k c) (hk : k ≤ 500000000) : ∃ r, s_l1Cur_network_t c = some r ∧ Cur (k + 300) r.2 ∧ NB r.1 := by
  unfold s_l1Cur_network_t
  obtain ⟨r, hr, hc, h0, h1⟩ := pick_ok 5 h (by omega)
  have e1 : w64 (2 + r.1) = 2 + r.1 := w64_id (by omega)
  have hsix : ([(str [112, 111, 114, 116]), (str [109, 105, 108, 108]), (str [112, 97, 114, 107]), (str [104, 97, 108, 108]), (str [100, 111, 99, 107]), (str [102, 97, 105, 114])] : List ByteArray).length = 6 := rfl
  simp only [hr, Option.bind_some, e1, hsix]
  rw [chk_of (by omega)]
  obtain ⟨r1, hr1, hc1, h10, h11⟩ := pick_ok 3 hc (by omega)
  have e2 : w64 (1 + r1.1) = ((1 + r1.1.toNat : Nat) : Int) := by rw [w64_id (by omega)]; omega
  simp only [hr1, Option.bind_some, e2]
  have loop : ∃ b, iter (s_l1Cur_network_t_L1 r) (((1 + r1.1.toNat : Nat) : Int), r1.2.code_, r1.2.at_, r1.2.seed_.v, []) = some b ∧ (Cur (k + 4 + 40 * 3) ⟨b.1, b.2.1, ⟨b.2.2.1⟩⟩ ∧ (1 ≤ b.2.2.2.length ∧ b.2.2.2.length ≤ 3) ∧ ∀ x ∈ b.2.2.2, LB x) := by
    refine iter_rule (fun m a => a.1 = (m : Int) ∧ m + a.2.2.2.2.length ≤ 3 ∧ 1 ≤ m + a.2.2.2.2.length ∧ (∀ x ∈ a.2.2.2.2, LB x) ∧ Cur (k + 4 + 40 * (3 - m)) ⟨a.2.1, a.2.2.1, ⟨a.2.2.2.1⟩⟩) _ ?_ (k := 1 + r1.1.toNat) ⟨rfl, by simp; omega, by simp, by simp, hc1.mono (by omega)⟩
    rintro m ⟨x, v, v1, v2, v3⟩ ⟨hx, hl, hl1, hlb, hcur⟩
    simp only at hx hl hl1 hlb hcur
    subst hx
    unfold s_l1Cur_network_t_L1
    cases m with
    | zero => right; exact ⟨_, by simp; rfl, hcur, ⟨by show 1 ≤ v3.length; omega, by show v3.length ≤ 3; omega⟩, hlb⟩
    | succ m =>
      left
      have hpos : decide ((0 : Int) < ((m + 1 : Nat) : Int)) = true := by simp
      obtain ⟨r4, hr4, hs4⟩ := l1Num_ok ((m + 1 : Nat) : Int) (by omega) (by omega)
      have hs : (str [108]).size = 1 := rfl
      have hch : chk ((str [108]).size + r4.size ≤ 4294967296) = some () := chk_of (by omega)
      obtain ⟨r5, hr5, hc5, hb5⟩ := lineF_ok (str [108] ++ r4) (2 + r.1) (by omega) hcur (by omega)
      have hch2 : ∀ y : Line, chk (v3.length + ([y] : List Line).length ≤ 4294967296) = some () := fun y => chk_of (by simp; omega)
      refine ⟨_, m, by simp only [hpos, if_true, hr4, hch, e1, hr5, hch2, Option.bind_some]; rfl, by omega, ?_, ?_, ?_, ?_, ?_⟩
      · exact w64_pred (by omega)
      · simp; omega
      · simp; omega
      · intro y hy
        rcases List.mem_append.1 hy with hy | hy
        · exact hlb y hy
        · simp at hy; subst hy; exact hb5
      · exact hc5.mono (by omega)
  obtain ⟨⟨v4, v5, v6, v7⟩, hb, hcb, hlb, hall⟩ := loop
  simp only at hcb hlb hall
  rw [hb]
  simp only [Option.bind_some]
  obtain ⟨r6, hr6, hc6⟩ := one_ok 2 hcb (by omega)
  simp only [hr6, Option.bind_some]
  have fin : ∀ (v8 : List UInt8) (v9 v10 : Int) (v11 : List Line), Cur (k + 200) ⟨v8, v9, ⟨v10⟩⟩ → (1 ≤ v11.length ∧ v11.length ≤ 8) → (∀ x ∈ v11, LB x) →
      ∃ r', ((s_l2Own_t (⟨((([(str [112, 111, 114, 116]), (str [109, 105, 108, 108]), (str [112, 97, 114, 107]), (str [104, 97, 108, 108]), (str [100, 111, 99, 107]), (str [102, 97, 105, 114])] : List ByteArray).take (2 + r.1).toNat).drop (0 : Int).toNat), v11⟩ : Network)).bind fun r11 => some ((⟨r11.Stops, r11.Lines⟩ : Network), (⟨v8, v9, (⟨v10⟩ : IK .u64)⟩ : l1Cur))) = some r' ∧ Cur (k + 300) r'.2 ∧ NB r'.1 := by
    intro v8 v9 v10 v11 g1 g2 g3
    have hst := six_len (2 + r.1).toNat (by omega) (by omega) _ hsix
    have hnb : NB (⟨((([(str [112, 111, 114, 116]), (str [109, 105, 108, 108]), (str [112, 97, 114, 107]), (str [104, 97, 108, 108]), (str [100, 111, 99, 107]), (str [102, 97, 105, 114])] : List ByteArray).take (2 + r.1).toNat).drop (0 : Int).toNat), v11⟩ : Network) := ⟨hst, g2, g3⟩
    rw [l2Own_t_eq _ hnb.bd]
    exact ⟨_, rfl, g1.mono (by omega), hnb⟩
  split
  · obtain ⟨e, he, _, hem⟩ := idx_lt (l := v7) (i := 0) (by omega) (by omega)
    obtain ⟨g1, g2⟩ := hall e hem
    have hch2 : ∀ y : Line, chk (v7.length + ([y] : List Line).length ≤ 4294967296) = some () := fun y => chk_of (by simp; omega)
    simp only [he, l2BackF_eq e.Stops (by omega), l2BackF_eq e.Runs (by omega), hch2, Option.bind_some]
    refine fin _ _ _ _ (hc6.mono (by omega)) (by simp; omega) fun y hy => ?_
    rcases List.mem_append.1 hy with hy | hy
    · exact hall y hy
    · simp at hy; subst hy
      exact ⟨by simpa using g1, by simpa using g2⟩
  · simp only [Option.bind_some]
    exact fin _ _ _ _ (hc6.mono (by omega)) (by omega) hall

theorem anyNetwork_ok {k : Nat} {c : l1Cur} (h : Cur k c) (hk : k ≤ 200000000) : ∃ r, s_l1Cur_anyNetwork c = some r ∧ Cur (k + 1000) r.2 ∧ Bd r.1 := by
  unfold s_l1Cur_anyNetwork
  obtain ⟨r, hr, hc, hnb⟩ := networkT_ok h (by omega)
  obtain ⟨n1, n2, n3⟩ := hnb
  obtain ⟨r1, hr1, hc1, h10, h11⟩ := pick_ok (r.1.Lines.length : Int) hc (by omega)
  obtain ⟨e, he, he2, hem⟩ := idx_lt (l := r.1.Lines) (i := r1.1) h10 (by omega)
  obtain ⟨g1, g2⟩ := n3 e hem
  obtain ⟨r2, hr2, hc2, _⟩ := pick_ok 24 hc1 (by omega)
  simp only [hr, hr1, he, hr2, Option.bind_some]
  have fin : ∀ (v : List UInt8) (v1 v2 : Int) (v3 : ByteArray) (v4 : List ByteArray) (v5 : List Line) (v6 : List Int), Cur (k + 900) ⟨v, v1, ⟨v2⟩⟩ → v4.length ≤ 6 → v5.length = r.1.Lines.length → (∀ x ∈ v5, LB x) → v6.length ≤ 11 →
      ∃ r', ((idx v5 r1.1).bind fun e9 => some ((⟨v4, (v5.set r1.1.toNat (⟨v3, e9.Stops, v6⟩ : Line))⟩ : Network), (⟨v, v1, (⟨v2⟩ : IK .u64)⟩ : l1Cur))) = some r' ∧ Cur (k + 1000) r'.2 ∧ Bd r'.1 := by
    intro v v1 v2 v3 v4 v5 v6 q1 q2 q3 q4 q5
    obtain ⟨e9, he9, _, hm9⟩ := idx_lt (l := v5) (i := r1.1) h10 (by omega)
    rw [he9]
    refine ⟨_, rfl, q1.mono (by omega), by show v4.length ≤ _; omega, by simp; omega, fun x hx => ?_⟩
    rcases List.mem_or_eq_of_mem_set hx with hx | hx
    · have := q4 x hx
      unfold LB at this; omega
    · subst hx
      have := q4 e9 hm9
      unfold LB at this
      exact ⟨by show e9.Stops.length ≤ _; omega, by show v6.length ≤ _; omega⟩
  split
  · obtain ⟨r4, hr4, hc4, _⟩ := ofw_ok ([(str [109, 105, 108, 108]), (str []), (str [65]), (str [97, 98, 99, 100, 101, 102, 103, 104]), (str [97, 98, 99, 100, 101, 102, 103, 104, 105])] : List ByteArray) (by simp) hc2 (by omega)
    obtain ⟨e2, he2', _⟩ := idx_lt (l := r.1.Stops) (i := 0) (by omega) (by omega)
    simp only [hr4, he2', Option.bind_some, flb_go]
    exact fin _ _ _ _ _ _ _ (hc4.mono (by omega)) (by simp; omega) rfl n3 (by omega)
  split
  · obtain ⟨r5, hr5, hc5, _⟩ := ofw_ok ([(str [114, 49]), (str [108, 49]), (str []), (str [88])] : List ByteArray) (by simp) hc2 (by omega)
    simp only [hr5, Option.bind_some, flb_go]
    exact fin _ _ _ _ _ _ _ (hc5.mono (by omega)) (by omega) rfl n3 (by omega)
  split
  · obtain ⟨r8, hr8, hc8, h80, h81⟩ := pick_ok (e.Stops.length : Int) hc2 (by omega)
    obtain ⟨r9, hr9, hc9, _⟩ := pick_ok 10 hc8 (by omega)
    obtain ⟨e4, he4, _⟩ := idx_lt (l := e.Stops) (i := r8.1) h80 (by omega)
    simp only [hr8, hr9, he4, Option.bind_some, flb_go]
    refine fin _ _ _ _ _ _ _ (hc9.mono (by omega)) (by omega) (by simp) (fun x hx => ?_) (by show e.Runs.length ≤ 11; omega)
    rcases List.mem_or_eq_of_mem_set hx with hx | hx
    · exact n3 x hx
    · subst hx; exact ⟨by simpa using g1, g2⟩
  split
  · obtain ⟨r12, hr12, hc12, h120, h121⟩ := pick_ok (e.Runs.length : Int) hc2 (by omega)
    obtain ⟨r13, hr13, hc13, _⟩ := amongw_ok ([0, 60, 61, (-1)] : List Int) (by simp) hc12 (by omega)
    obtain ⟨e6, he6, _⟩ := idx_lt (l := e.Runs) (i := r12.1) h120 (by omega)
    simp only [hr12, hr13, he6, Option.bind_some, flb_go]
    refine fin _ _ _ _ _ _ _ (hc13.mono (by omega)) (by omega) (by simp) (fun x hx => ?_) (by simp; omega)
    rcases List.mem_or_eq_of_mem_set hx with hx | hx
    · exact n3 x hx
    · subst hx; exact ⟨g1, by simpa using g2⟩
  split
  · have hch : chk (e.Runs.length + ([3] : List Int).length ≤ 4294967296) = some () := chk_of (by simp; omega)
    simp only [hch, Option.bind_some, flb_go]
    exact fin _ _ _ _ _ _ _ (hc2.mono (by omega)) (by omega) rfl n3 (by simp; omega)
  split
  · simp only [flb_ret]
    exact ⟨_, rfl, hc2.mono (by omega), by show r.1.Stops.length ≤ _; omega, by simp, by simp⟩
  split
  · have loop : ∃ b, iter (s_l1Cur_anyNetwork_L1 r) (0, r2.2.code_, r2.2.at_, r2.2.seed_.v, r.1.Lines) = some b ∧ (Cur (k + 900) ⟨b.1, b.2.1, ⟨b.2.2.1⟩⟩ ∧ b.2.2.2.length ≤ 20 ∧ ∀ x ∈ b.2.2.2, LB x) := by
      refine iter_rule (fun m a => ∃ i : Nat, a.1 = (i : Int) ∧ m + i = 8 ∧ i ≤ 7 ∧ a.2.2.2.2.length ≤ 8 + i ∧ (∀ x ∈ a.2.2.2.2, LB x) ∧ Cur (k + 310 + 50 * i) ⟨a.2.1, a.2.2.1, ⟨a.2.2.2.1⟩⟩) _ ?_ (k := 8) ⟨0, rfl, rfl, by omega, by simpa using n2.2, n3, hc2.mono (by omega)⟩
      rintro m ⟨v7, v8, v9, v10, v11⟩ ⟨i, hi, hm, hi7, hl, hlb, hcur⟩
      simp only at hi hl hlb hcur
      subst hi
      unfold s_l1Cur_anyNetwork_L1
      obtain ⟨r16, hr16, hc16, h160, h161⟩ := pick_ok 2 hcur (by omega)
      have w1 : w64 (5 + r16.1) = 5 + r16.1 := w64_id (by omega)
      simp only [hr16, w1, Option.bind_some]
      by_cases a1 : (v11.length : Int) < 5 + r16.1 ∧ (i : Int) < 7
      · left
        have d1 : decide ((v11.length : Int) < 5 + r16.1) = true := by simp; omega
        have d2 : decide ((i : Int) < 7) = true := by simp; omega
        obtain ⟨r19, hr19, hs19⟩ := l1Num_ok (i : Int) (by omega) (by omega)
        have hs : (str [120]).size = 1 := rfl
        have hch : chk ((str [120]).size + r19.size ≤ 4294967296) = some () := chk_of (by omega)
        obtain ⟨r20, hr20, hc20, hb20⟩ := line_ok (str [120] ++ r19) (r.1.Stops.length : Int) (by omega) hc16 (by omega)
        have hch2 : ∀ y : Line, chk (v11.length + ([y] : List Line).length ≤ 4294967296) = some () := fun y => chk_of (by simp; omega)
        refine ⟨_, m - 1, by simp only [d1, d2, if_true, hr19, hch, hr20, hch2, Option.bind_some, w64_succ (n := i) (by omega)]; rfl, by omega, i + 1, rfl, by omega, by omega, ?_, fun x hx => ?_, ?_⟩
        · simp; omega
        · rcases List.mem_append.1 hx with hx | hx
          · exact hlb x hx
          · simp at hx; subst hx; exact hb20
        · exact hc20.mono (by omega)
      · right
        have hcond : (if decide ((v11.length : Int) < 5 + r16.1) = true then some (decide ((i : Int) < 7)) else some false) = some false := by
          by_cases b1 : (v11.length : Int) < 5 + r16.1
          · have : decide ((i : Int) < 7) = false := by simp; omega
            simp [b1, this]
          · simp [b1]
        refine ⟨_, by simp only [hcond, Option.bind_some, Bool.false_eq_true, if_false]; rfl, ?_, ?_, hlb⟩
        · exact hc16.mono (by omega)
        · show v11.length ≤ 20; omega
    obtain ⟨⟨v13, v14, v15, v16⟩, hb, hcb, hlb, hall⟩ := loop
    simp only at hcb hlb hall
    rw [hb]
    simp only [Option.bind_some, flb_ret]
    refine ⟨_, rfl, hcb.mono (by omega), by show r.1.Stops.length ≤ _; omega, by show v16.length ≤ _; omega, fun x hx => ?_⟩
    have := hall x hx
    unfold LB at this; omega
  · simp only [flb_go]
    exact fin _ _ _ _ _ _ _ (hc2.mono (by omega)) (by omega) rfl n3 (by omega)

/-! Timetables: when they are valid. -/
def TB (t : Timetable) : Prop := Bd t.Network ∧ t.Trips.length ≤ 1000
def TripP (n : Network) (x : Trip) : Prop := (1 ≤ x.Id ∧ x.Id ≤ 999) ∧ ∃ l, idx n.Lines x.Line = some l ∧ (0 ≤ x.Start ∧ x.Start ≤ 1799) ∧ 0 ≤ x.Start + l.Runs.sum ∧ x.Start + l.Runs.sum ≤ 1799
def GoodT (t : Timetable) : Prop := Good t.Network ∧ t.Trips.length ≤ 12 ∧ (∀ (i : Nat) x, t.Trips[i]? = some x → TripP t.Network x) ∧ ∀ (i : Nat) a b, t.Trips[i]? = some a → t.Trips[i + 1]? = some b → a.Id < b.Id
noncomputable instance (t : Timetable) : Decidable (GoodT t) := Classical.propDecidable _
noncomputable instance (n : Network) (x : Trip) : Decidable (TripP n x) := Classical.propDecidable _
theorem time_eq (t : Int) : i_IsValidTime t = some (decide (0 ≤ t ∧ t ≤ 1799)) := by
  unfold i_IsValidTime; rw [within_eq]; rfl
theorem l4Time_eq (t : Int) : s_l4Time t = some (decide (0 ≤ t ∧ t ≤ 1799)) := by
  unfold s_l4Time; rw [l1In_eq]; rfl
theorem total_eq (l : List Int) (h1 : l.length ≤ 1000000) (h2 : ∀ x ∈ l, 0 ≤ x ∧ x ≤ 1000000) : i_total l = some l.sum := by
  unfold i_total
  rw [sum_loop (fun x : Int => x) l h1 h2 (fun i s x hx => ?_) (fun s => ?_)]
  · simp
  · have := get_lt hx
    unfold i_total_L1
    simp (disch := omega) only [if_pos, if_neg, decide_eq_true_eq, decide_true, decide_false, Bool.not_true, Bool.not_false, Bool.false_eq_true, Bool.not_eq_true', decide_eq_false_iff_not, if_true, if_false, w64_id, chk_of, idx_nat, Option.bind_some, Option.map_some, Int.toNat_natCast, not_true_eq_false, not_false_eq_true, true_and, and_true, and_self, false_and, and_false, reduceIte, flb_go, flb_ret, beq_self_eq_true, ne_eq, bne_self_eq_false, Int.ofNat_lt.2 this, hx]
  · unfold i_total_L1; simp
theorem l2Run_eq (x : Line) (a b : Nat) (hab : a ≤ b) (hb : b ≤ x.Runs.length) (hl : x.Runs.length ≤ 1000) (h2 : ∀ r ∈ x.Runs, 0 ≤ r ∧ r ≤ 1000000) : s_l2Run x (a : Int) (b : Int) = some (((x.Runs.take b).drop a).sum) := by
  unfold s_l2Run
  refine Tot.val (.call (P := fun v => v = ((x.Runs.take b).drop a).sum) ?_ fun v h => .ok h)
  refine .iter (fun m s => ∃ k : Nat, s.2 = ((a + k : Nat) : Int) ∧ m + k = b - a ∧ s.1 = (((x.Runs.take b).drop a).take k).sum) (n := b - a) ⟨0, by simp, by omega, by simp⟩ ?_
  rintro m ⟨s, v⟩ ⟨k, hk, hm, hs⟩
  simp only at hk hs
  subst hk
  unfold s_l2Run_L1
  refine .iteP (fun hc => ?_) (fun hc => .dn ?_)
  · obtain ⟨r, hr⟩ := get_ex (l := x.Runs) (i := a + k) (by omega)
    have hr2 : ((x.Runs.take b).drop a)[k]? = some r := by
      rw [List.getElem?_drop, List.getElem?_take_of_lt (by omega)]; exact hr
    have hb1 := h2 r (List.mem_of_getElem? hr)
    have hb2 := sum_bd (l := ((x.Runs.take b).drop a).take k) (M := 1000000) fun y hy => h2 y (List.mem_of_mem_take (List.mem_of_mem_drop (List.mem_of_mem_take hy)))
    have hlen : ((((x.Runs.take b).drop a).take k).length : Int) ≤ 1000 := by simp; omega
    rw [← hs] at hb2
    refine .eq (by rw [idx_nat]; exact hr) (.nx ⟨m - 1, by omega, k + 1, ?_, by omega, ?_⟩)
    · show w64 (((a + k : Nat) : Int) + 1) = _
      rw [w64_id (by omega)]; omega
    · show w64 (s + r) = _
      rw [w64_id (by omega), sum_take_succ hr2, hs]
  · rw [hs, List.take_of_length_le (by rw [List.length_drop, List.length_take]; omega)]
theorem good_line {n : Network} (h : Good n) {k : Int} {l : Line} (hl : idx n.Lines k = some l) : LineP n.Stops.length l := h.2.2.2.2 _ l (idx_some hl).2.2
theorem line_stop {st : Nat} {l : Line} (h : LineP st l) {j : Nat} {s : Int} (hs : l.Stops[j]? = some s) : 0 ≤ s ∧ s < (st : Int) := (h.2.2.1 j s hs).1
theorem line_runs {st : Nat} {l : Line} (h : LineP st l) : (l.Runs.length + 1 = l.Stops.length ∧ 1 ≤ l.Runs.length ∧ l.Runs.length ≤ 5) ∧ ∀ r ∈ l.Runs, 1 ≤ r ∧ r ≤ 60 := by
  obtain ⟨h1, h2, h3, h4⟩ := h
  refine ⟨by omega, fun r hr => ?_⟩
  obtain ⟨i, hi⟩ := List.getElem?_of_mem hr
  exact h4 i r hi
theorem runs_sum {st : Nat} {l : Line} (h : LineP st l) (k : Nat) : 0 ≤ (l.Runs.take k).sum ∧ (l.Runs.take k).sum ≤ 300 := by
  obtain ⟨⟨h1, h2, h3⟩, h4⟩ := line_runs h
  have := sum_bd (l := l.Runs.take k) (M := 60) fun x hx => by have := h4 x (List.mem_of_mem_take hx); omega
  have hl : ((l.Runs.take k).length : Int) ≤ 5 := by simp; omega
  omega
theorem runs_sum' {st : Nat} {l : Line} (h : LineP st l) : 0 ≤ l.Runs.sum ∧ l.Runs.sum ≤ 300 := by
  have := runs_sum h l.Runs.length
  rwa [List.take_length] at this
theorem endOf_eq {t : Timetable} (hg : Good t.Network) {x : Trip} {l : Line} (hl : idx t.Network.Lines x.Line = some l) (hs : 0 ≤ x.Start ∧ x.Start ≤ 1799) : i_endOf t x = some (x.Start + l.Runs.sum) := by
  have h := good_line hg hl
  obtain ⟨⟨h1, h2, h3⟩, h4⟩ := line_runs h
  have h5 := runs_sum' h
  unfold i_endOf
  rw [hl]
  simp only [Option.bind_some]
  rw [total_eq l.Runs (by omega) (fun x hx => by have := h4 x hx; omega)]
  simp (disch := omega) only [if_pos, if_neg, decide_eq_true_eq, decide_true, decide_false, Bool.not_true, Bool.not_false, Bool.false_eq_true, Bool.not_eq_true', decide_eq_false_iff_not, if_true, if_false, w64_id, chk_of, idx_nat, Option.bind_some, Option.map_some, Int.toNat_natCast, not_true_eq_false, not_false_eq_true, true_and, and_true, and_self, false_and, and_false, reduceIte, flb_go, flb_ret, beq_self_eq_true, ne_eq, bne_self_eq_false]
theorem l5Line_eq {t : Timetable} {i : Nat} {x : Trip} {l : Line} (hx : t.Trips[i]? = some x) (hl : idx t.Network.Lines x.Line = some l) : s_l5Line t (i : Int) = some l := by
  unfold s_l5Line
  simp (disch := omega) only [if_pos, if_neg, decide_eq_true_eq, decide_true, decide_false, Bool.not_true, Bool.not_false, Bool.false_eq_true, Bool.not_eq_true', decide_eq_false_iff_not, if_true, if_false, w64_id, chk_of, idx_nat, Option.bind_some, Option.map_some, Int.toNat_natCast, not_true_eq_false, not_false_eq_true, true_and, and_true, and_self, false_and, and_false, reduceIte, flb_go, flb_ret, beq_self_eq_true, ne_eq, bne_self_eq_false, hx, hl]
theorem l5Stops_eq {t : Timetable} {i : Nat} {x : Trip} {l : Line} (hx : t.Trips[i]? = some x) (hl : idx t.Network.Lines x.Line = some l) : s_l5Stops t (i : Int) = some l.Stops := by
  unfold s_l5Stops
  rw [l5Line_eq hx hl]; rfl
theorem l5At_eq {t : Timetable} (hg : Good t.Network) {i : Nat} {x : Trip} {l : Line} (hx : t.Trips[i]? = some x) (hl : idx t.Network.Lines x.Line = some l) (hs : 0 ≤ x.Start ∧ x.Start ≤ 1799) {k : Nat} (hk : k ≤ l.Runs.length) : s_l5At t (i : Int) (k : Int) = some (x.Start + (l.Runs.take k).sum) := by
  have h := good_line hg hl
  obtain ⟨⟨h1, h2, h3⟩, h4⟩ := line_runs h
  have h5 := runs_sum h k
  have e := l2Run_eq l 0 k (by omega) hk (by omega) (fun x hx => by have := h4 x hx; omega)
  rw [List.drop_zero] at e
  have e' : s_l2Run l 0 (k : Int) = some (l.Runs.take k).sum := e
  unfold s_l5At
  simp (disch := omega) only [if_pos, if_neg, decide_eq_true_eq, decide_true, decide_false, Bool.not_true, Bool.not_false, Bool.false_eq_true, Bool.not_eq_true', decide_eq_false_iff_not, if_true, if_false, w64_id, chk_of, idx_nat, Option.bind_some, Option.map_some, Int.toNat_natCast, not_true_eq_false, not_false_eq_true, true_and, and_true, and_self, false_and, and_false, reduceIte, flb_go, flb_ret, beq_self_eq_true, ne_eq, bne_self_eq_false, hx, l5Line_eq hx hl, e']
theorem l5End_eq {t : Timetable} (hg : Good t.Network) {i : Nat} {x : Trip} {l : Line} (hx : t.Trips[i]? = some x) (hl : idx t.Network.Lines x.Line = some l) (hs : 0 ≤ x.Start ∧ x.Start ≤ 1799) : s_l5End t (i : Int) = some (x.Start + l.Runs.sum) := by
  have h := good_line hg hl
  obtain ⟨⟨h1, h2, h3⟩, h4⟩ := line_runs h
  have e : w64 ((l.Stops.length : Int) - 1) = (l.Runs.length : Int) := by rw [w64_id (by omega)]; omega
  unfold s_l5End
  rw [l5Stops_eq hx hl]
  simp only [Option.bind_some, e, l5At_eq hg hx hl hs (Nat.le_refl _), List.take_length]
def TripsP (t : Timetable) : Prop := (∀ (i : Nat) x, t.Trips[i]? = some x → TripP t.Network x) ∧ ∀ (i : Nat) a b, t.Trips[i]? = some a → t.Trips[i + 1]? = some b → a.Id < b.Id
noncomputable instance (t : Timetable) : Decidable (TripsP t) := Classical.propDecidable _
/-- One trip's check in the program. -/
theorem trip_i {t : Timetable} (hb : TB t) (hg : Good t.Network) (x : Trip) (last : Int) (hlast : 0 ≤ last) : ((if (decide (x.Id ≤ last)) = true then some true else if (decide (999 < x.Id)) = true then some true else (i_isLine t.Network x.Line).bind fun r =>
      if (!r) = true then some true else (i_IsValidTime x.Start).bind fun r1 =>
      if (!r1) = true then some true else (i_endOf t x).bind fun r2 =>
      (i_IsValidTime r2).bind fun r3 =>
      some (!r3))) = some (!decide (last < x.Id ∧ TripP t.Network x)) := by
  by_cases c1 : x.Id ≤ last
  · have : ¬ (last < x.Id ∧ TripP t.Network x) := fun h => by omega
    simp [c1, this]
  · by_cases c2 : 999 < x.Id
    · have : ¬ (last < x.Id ∧ TripP t.Network x) := fun h => by have := h.2.1; omega
      simp [c1, c2, this]
    · simp only [isLine_eq, time_eq, Option.bind_some, c1, c2, decide_false, Bool.false_eq_true, if_false]
      by_cases c3 : 0 ≤ x.Line ∧ x.Line < (t.Network.Lines.length : Int)
      · obtain ⟨l, hl, _⟩ := idx_lt (l := t.Network.Lines) c3.1 c3.2
        by_cases c4 : 0 ≤ x.Start ∧ x.Start ≤ 1799
        · have hT : (last < x.Id ∧ TripP t.Network x) ↔ (0 ≤ x.Start + l.Runs.sum ∧ x.Start + l.Runs.sum ≤ 1799) := by
            constructor
            · rintro ⟨_, _, l', hl', _, h⟩
              rw [hl] at hl'; cases hl'; exact h
            · intro h; exact ⟨by omega, ⟨by omega, by omega⟩, l, hl, c4, h⟩
          simp only [c3, c4, and_self, decide_true, Bool.not_true, Bool.false_eq_true, if_false, endOf_eq hg hl c4, time_eq, Option.bind_some, hT]
        · have : ¬ (last < x.Id ∧ TripP t.Network x) := fun h => by
            obtain ⟨_, _, l', _, h4, _⟩ := h
            exact c4 h4
          simp only [c3, c4, this, and_self, decide_true, decide_false, Bool.not_true, Bool.not_false, Bool.false_eq_true, if_false, if_true]
      · have : ¬ (last < x.Id ∧ TripP t.Network x) := fun h => by
          obtain ⟨_, _, l', hl', _⟩ := h
          have := idx_some hl'
          exact c3 ⟨this.1, this.2.1⟩
        simp only [c3, this, decide_false, Bool.not_false, if_true]
theorem areTrips_eq {t : Timetable} (hb : TB t) (hg : Good t.Network) : i_areTrips t = some (decide (t.Trips.length ≤ 12 ∧ TripsP t)) := by
  unfold i_areTrips
  by_cases h12 : t.Trips.length ≤ 12
  · have d : decide ((12 : Int) < (t.Trips.length : Int)) = false := by simp; omega
    have e : decide (t.Trips.length ≤ 12 ∧ TripsP t) = decide (TripsP t) := by simp [h12]
    rw [d, e]
    simp only [Bool.false_eq_true, if_false]
    refine flb_dec (.iter (fun m a => ∃ i : Nat, a.2 = (i : Int) ∧ m + i = t.Trips.length ∧ 0 ≤ a.1 ∧ (∀ y, 0 < i → t.Trips[i - 1]? = some y → a.1 = y.Id) ∧ (i = 0 → a.1 = 0) ∧ (∀ (j : Nat) x, j < i → t.Trips[j]? = some x → TripP t.Network x) ∧ ∀ (j : Nat) a b, j + 1 < i → t.Trips[j]? = some a → t.Trips[j + 1]? = some b → a.Id < b.Id)
      (n := t.Trips.length) ⟨0, rfl, rfl, by simp, by simp, by simp, fun j x h => by omega, fun j a b h => by omega⟩ ?_)
    rintro m ⟨last, v⟩ ⟨i, hv, hm, h0, h1, h2, h3, h4⟩
    simp only at hv h0 h1 h2
    subst hv
    unfold i_areTrips_L1
    refine .iteP (fun hc => ?_) (fun hc => .dn (.inl ⟨rfl, fun j x hx => h3 j x (by have := get_lt hx; omega) hx, fun j a b ha hb' => h4 j a b (by have := get_lt hb'; omega) ha hb'⟩))
    obtain ⟨x, hx⟩ := get_ex (l := t.Trips) (i := i) (by omega)
    refine .eq (by rw [idx_nat]; exact hx) (.eq (trip_i hb hg x last h0) (.iteN (fun hn => .dn (.inr ⟨rfl, fun hp => hn ⟨?_, hp.1 i x hx⟩⟩)) (fun hp => .nx ⟨m - 1, by omega, i + 1, w64_succ (by omega), by omega, ?_, ?_, by simp, ?_, ?_⟩)))
    · by_cases hi : i = 0
      · rw [h2 hi]; have := (hp.1 i x hx).1; omega
      · obtain ⟨y, hy⟩ := get_ex (l := t.Trips) (i := i - 1) (by omega)
        rw [h1 y (by omega) hy]
        exact hp.2 (i - 1) y x hy (by rw [show i - 1 + 1 = i by omega]; exact hx)
    · show 0 ≤ x.Id
      have := hp.2.1; omega
    · intro y _ hy
      rw [show i + 1 - 1 = i by omega, hx] at hy; cases hy; rfl
    · intro j y hj hy
      by_cases hji : j = i
      · subst hji; rw [hx] at hy; cases hy; exact hp.2
      · exact h3 j y (by omega) hy
    · intro j a b hj ha hb'
      by_cases hji : j + 1 = i
      · subst hji; rw [hx] at hb'; cases hb'
        have := h1 a (by omega) (by simpa using ha)
        omega
      · exact h4 j a b (by omega) ha hb'
  · have d : decide ((12 : Int) < (t.Trips.length : Int)) = true := by simp; omega
    simp [d, h12]
/-- A trip is as it should be, and behind the one before it. -/
def TripQ (t : Timetable) (i : Nat) (x : Trip) : Prop := TripP t.Network x ∧ ∀ y, 0 < i → t.Trips[i - 1]? = some y → y.Id < x.Id
noncomputable instance (t : Timetable) (i : Nat) (x : Trip) : Decidable (TripQ t i x) := Classical.propDecidable _
theorem goodT_iff (t : Timetable) : GoodT t ↔ Good t.Network ∧ t.Trips.length ≤ 12 ∧ TripsP t := Iff.rfl
theorem validT_eq {t : Timetable} (hb : TB t) : i_IsValidTimetable t = some (decide (GoodT t)) := by
  unfold i_IsValidTimetable
  rw [valid_eq _ hb.1]
  by_cases hg : Good t.Network
  · simp only [hg, decide_true, if_true, Option.bind_some, areTrips_eq hb hg, goodT_iff, true_and]
  · have : ¬ GoodT t := fun h => hg h.1
    simp [hg, this]
theorem goodT_eq {t : Timetable} (hb : TB t) : s_l5Good t = some (decide (GoodT t)) := by
  unfold s_l5Good
  rw [good_eq _ hb.1]
  by_cases hg : Good t.Network
  · by_cases h12 : t.Trips.length ≤ 12
    · have d : decide ((12 : Int) < (t.Trips.length : Int)) = false := by simp; omega
      have e : decide (GoodT t) = decide (TripsP t) := by rw [decide_eq_decide, goodT_iff]; simp [hg, h12]
      simp only [hg, decide_true, Bool.not_true, Bool.false_eq_true, if_false, Option.bind_some, d, e]
      refine flb_dec (.iter (fun m a => ∃ i : Nat, a = (i : Int) ∧ m + i = t.Trips.length ∧ (∀ (j : Nat) x, j < i → t.Trips[j]? = some x → TripP t.Network x) ∧ ∀ (j : Nat) a b, j + 1 < i → t.Trips[j]? = some a → t.Trips[j + 1]? = some b → a.Id < b.Id)
        (n := t.Trips.length) ⟨0, rfl, rfl, fun j x h => by omega, fun j a b h => by omega⟩ ?_)
      rintro m v ⟨i, hv, hm, h3, h4⟩
      subst hv
      unfold s_l5Good_L1
      refine .iteP (fun hc => ?_) (fun hc => .dn (.inl ⟨rfl, fun j x hx => h3 j x (by have := get_lt hx; omega) hx, fun j a b ha hb' => h4 j a b (by have := get_lt hb'; omega) ha hb'⟩))
      obtain ⟨x, hx⟩ := get_ex (l := t.Trips) (i := i) (by omega)
      refine .eq (by rw [idx_nat]; exact hx) ?_
      have hll := hg.2.1
      have ew : w64 ((t.Network.Lines.length : Int) - 1) = (t.Network.Lines.length : Int) - 1 := w64_id (by omega)
      have key : ((s_l1In x.Id 1 999).bind fun r6 =>
      (if (!r6) = true then some true else (s_l1In x.Line 0 (w64 ((t.Network.Lines.length : Int) - 1))).bind fun r7 =>
      if (!r7) = true then some true else (s_l4Time x.Start).bind fun r8 =>
      if (!r8) = true then some true else (s_l5End t (i : Int)).bind fun r9 =>
      (s_l4Time r9).bind fun r10 =>
      if (!r10) = true then some true else if (decide (0 < (i : Int))) = true then (idx t.Trips (w64 ((i : Int) - 1))).bind fun e2 =>
      some (decide (x.Id ≤ e2.Id)) else some false)) = some (!decide (TripQ t i x)) := by
        have no : ¬ TripP t.Network x → (!decide (TripQ t i x)) = true := fun h => (by simp [show ¬ TripQ t i x from fun q => h q.1])
        simp only [l1In_eq, l4Time_eq, ew, Option.bind_some]
        by_cases c1 : 1 ≤ x.Id ∧ x.Id ≤ 999
        · by_cases c3 : 0 ≤ x.Line ∧ x.Line ≤ (t.Network.Lines.length : Int) - 1
          · obtain ⟨l, hl, _⟩ := idx_lt (l := t.Network.Lines) c3.1 (by omega)
            by_cases c4 : 0 ≤ x.Start ∧ x.Start ≤ 1799
            · simp only [c1, c3, c4, and_self, decide_true, Bool.not_true, Bool.false_eq_true, if_false, l5End_eq hg hx hl c4, l4Time_eq, Option.bind_some]
              by_cases c5 : 0 ≤ x.Start + l.Runs.sum ∧ x.Start + l.Runs.sum ≤ 1799
              · have hT : TripP t.Network x := ⟨c1, l, hl, c4, c5⟩
                simp only [c5, and_self, decide_true, Bool.not_true, Bool.false_eq_true, if_false, ]
                by_cases c6 : 0 < i
                · obtain ⟨y, hy⟩ := get_ex (l := t.Trips) (i := i - 1) (by omega)
                  have e1 : w64 ((i : Int) - 1) = ((i - 1 : Nat) : Int) := by rw [w64_id (by omega)]; omega
                  have c6' : (0 : Int) < (i : Int) := by omega
                  simp only [c6', decide_true, if_true, e1, idx_nat, hy, Option.bind_some, Option.some.injEq]
                  by_cases c7 : x.Id ≤ y.Id
                  · have : ¬ TripQ t i x := fun h => by have := h.2 y c6 hy; omega
                    simp only [c7, decide_true, this, decide_false, Bool.not_false]
                  · have : TripQ t i x := ⟨hT, fun z _ hz => by rw [hy] at hz; cases hz; omega⟩
                    simp only [c7, decide_false, this, decide_true, Bool.not_true]
                · have c6' : ¬ (0 : Int) < (i : Int) := by omega
                  have : TripQ t i x := ⟨hT, fun z h0 _ => absurd h0 c6⟩
                  simp only [c6', decide_false, Bool.false_eq_true, if_false, this, decide_true, Bool.not_true]
              · rw [no (fun hT => by
                  obtain ⟨_, l', hl', _, h⟩ := hT
                  rw [hl] at hl'; cases hl'; exact c5 h)]
                simp only [c5, decide_false, Bool.not_false, if_true]
            · rw [no (fun hT => by obtain ⟨_, l', _, h, _⟩ := hT; exact c4 h)]
              simp only [c1, c3, c4, and_self, decide_true, decide_false, Bool.not_true, Bool.not_false, Bool.false_eq_true, if_false, if_true]
          · rw [no (fun hT => by
              obtain ⟨_, l', hl', _⟩ := hT
              have := idx_some hl'
              exact c3 ⟨this.1, by omega⟩)]
            simp only [c1, c3, and_self, decide_true, decide_false, Bool.not_true, Bool.not_false, Bool.false_eq_true, if_false, if_true]
        · rw [no (fun hT => c1 hT.1)]
          simp only [c1, decide_false, Bool.not_false, if_true]
      rw [bind_assoc', key]
      refine .iteN (fun hn => .dn (.inr ⟨rfl, fun hp => hn ⟨hp.1 i x hx, fun y hi hy => hp.2 (i - 1) y x hy (by rw [show i - 1 + 1 = i by omega]; exact hx)⟩⟩)) (fun hp => .nx ⟨m - 1, by omega, i + 1, w64_succ (by omega), by omega, ?_, ?_⟩)
      · intro j y hj hy
        by_cases hji : j = i
        · subst hji; rw [hx] at hy; cases hy; exact hp.1
        · exact h3 j y (by omega) hy
      · intro j a b hj ha hb'
        by_cases hji : j + 1 = i
        · subst hji; rw [hx] at hb'; cases hb'
          exact hp.2 a (by omega) (by simpa using ha)
        · exact h4 j a b (by omega) ha hb'
    · have d : decide ((12 : Int) < (t.Trips.length : Int)) = true := by simp; omega
      have : ¬ GoodT t := fun h => h12 h.2.1
      simp [hg, d, this]
  · have : ¬ GoodT t := fun h => hg h.1
    simp [hg, this]
/-! Timetables: what is looked up; stop times; draws. -/
theorem tripIndex_eq (t : Timetable) (h : t.Trips.length ≤ 1000) (id : Int) : i_tripIndex t id = some (fixI (fun x => x.Id == id) t.Trips) := by
  unfold i_tripIndex slices_IndexFunc_Trip__i_tripIndex_1 slices_IndexFunc_Trip
  rw [find_val t.Trips (fun x => x.Id == id) (fun i x hx => ?_) (by unfold slices_IndexFunc_Trip_L1; simp)]
  · rfl
  · have := get_lt hx
    unfold slices_IndexFunc_Trip_L1 i_tripIndex_1
    simp (disch := omega) only [if_pos, if_neg, decide_eq_true_eq, decide_true, decide_false, Bool.not_true, Bool.not_false, Bool.false_eq_true, Bool.not_eq_true', decide_eq_false_iff_not, if_true, if_false, w64_id, chk_of, idx_nat, Option.bind_some, Option.map_some, Int.toNat_natCast, not_true_eq_false, not_false_eq_true, true_and, and_true, and_self, false_and, and_false, reduceIte, flb_go, flb_ret, beq_self_eq_true, ne_eq, bne_self_eq_false, hx, Int.ofNat_lt.2 this]
    split <;> simp [*] <;> omega
theorem lineOf_eq {t : Timetable} {x : Trip} {l : Line} (hl : idx t.Network.Lines x.Line = some l) : i_lineOf t x = some l := by
  unfold i_lineOf; rw [hl]; rfl
/-- A valid timetable's trip, with its line. -/
theorem trip_line {t : Timetable} (h : GoodT t) {i : Nat} {x : Trip} (hx : t.Trips[i]? = some x) : ∃ l, idx t.Network.Lines x.Line = some l ∧ LineP t.Network.Stops.length l ∧ (1 ≤ x.Id ∧ x.Id ≤ 999) ∧ (0 ≤ x.Start ∧ x.Start ≤ 1799) ∧ 0 ≤ x.Start + l.Runs.sum ∧ x.Start + l.Runs.sum ≤ 1799 := by
  obtain ⟨h1, l, hl, h2, h3⟩ := h.2.2.1 i x hx
  exact ⟨l, hl, good_line h.1 hl, h1, h2, h3⟩
theorem ids_lt {t : Timetable} (h : GoodT t) {i j : Nat} {a b : Trip} (hij : i < j) (ha : t.Trips[i]? = some a) (hb : t.Trips[j]? = some b) : a.Id < b.Id := by
  induction j generalizing b with
  | zero => omega
  | succ j ih =>
    obtain ⟨c, hc⟩ := get_ex (l := t.Trips) (i := j) (by have := get_lt hb; omega)
    have h1 := h.2.2.2 j c b hc hb
    by_cases hji : i = j
    · subst hji; rw [ha] at hc; cases hc; exact h1
    · have := ih (by omega) hc; omega
/-- A trip is found by its Id. -/
theorem trip_fix {t : Timetable} (h : GoodT t) {i : Nat} {x : Trip} (hx : t.Trips[i]? = some x) : fixI (fun y => y.Id == x.Id) t.Trips = (i : Int) := by
  refine fixI_of hx (by simp) fun j y hj hy => ?_
  have := ids_lt h hj hy hx
  simp; omega
/-- The stop times. -/
def ST (l : Line) (s : Int) : List Int := (List.range (l.Runs.length + 1)).map fun k => s + (l.Runs.take k).sum
theorem ST_len (l : Line) (s : Int) : (ST l s).length = l.Runs.length + 1 := by simp [ST]
theorem ST_at {l : Line} {s : Int} {k : Nat} (hk : k ≤ l.Runs.length) : (ST l s)[k]? = some (s + (l.Runs.take k).sum) := by
  unfold ST; rw [List.getElem?_map, List.getElem?_range (by omega)]; rfl
theorem stopTimes_eq {t : Timetable} {x : Trip} {l : Line} {st : Nat} (hl : idx t.Network.Lines x.Line = some l) (hp : LineP st l) (hs : 0 ≤ x.Start ∧ x.Start ≤ 1799) : i_stopTimes t x = some (ST l x.Start) := by
  obtain ⟨⟨h1, h2, h3⟩, h4⟩ := line_runs hp
  unfold i_stopTimes
  rw [lineOf_eq hl]
  simp only [Option.bind_some]
  refine Tot.val (.call (P := fun v => v = ST l x.Start) ?_ fun v h => .ok h)
  refine .iter (fun m s => ∃ k : Nat, s.1 = (k : Int) ∧ m + k = l.Runs.length ∧ s.2 = (ST l x.Start).take (k + 1)) (n := l.Runs.length) ⟨0, rfl, rfl, ?_⟩ ?_
  · rw [take_succ (x := x.Start) (by have := ST_at (l := l) (s := x.Start) (k := 0) (by omega); simpa using this)]; rfl
  · rintro m ⟨v, r⟩ ⟨k, hk, hm, hr⟩
    simp only at hk hr
    subst hk
    unfold i_stopTimes_L1
    have hlen := ST_len l x.Start
    refine .iteP (fun hc => ?_) (fun hc => .dn (by rw [hr, List.take_of_length_le (by omega)]))
    obtain ⟨e, he⟩ := get_ex (l := l.Runs) (i := k) (by omega)
    have hk1 := ST_at (l := l) (s := x.Start) (k := k) (by omega)
    have hk2 := ST_at (l := l) (s := x.Start) (k := k + 1) (by omega)
    have b1 := runs_sum hp k
    have b2 := h4 e (List.mem_of_getElem? he)
    refine .eq (by rw [idx_nat]; exact he) (.eq (by rw [idx_nat, hr, List.getElem?_take_of_lt (by omega)]; exact hk1) (.chk (by rw [hr]; simp; omega) (.nx ⟨m - 1, by omega, k + 1, w64_succ (by omega), by omega, ?_⟩)))
    show r ++ [w64 (x.Start + (l.Runs.take k).sum + e)] = _
    rw [take_succ hk2, hr, w64_id (by omega), sum_take_succ he, Int.add_assoc]

theorem found_or {t : Timetable} (id : Int) : (fixI (fun x => x.Id == id) t.Trips < 0 ∧ ∀ (k : Nat) y, t.Trips[k]? = some y → y.Id ≠ id) ∨ ∃ (k : Nat) (y : Trip), t.Trips[k]? = some y ∧ y.Id = id := by
  by_cases h : fixI (fun x => x.Id == id) t.Trips < 0
  · refine .inl ⟨h, fun k y hy => ?_⟩
    have := fixI_neg h y (List.mem_of_getElem? hy)
    simpa using this
  · obtain ⟨k, y, _, h2, h3, _⟩ := idx_fix h
    exact .inr ⟨k, y, h2, by simpa using h3⟩
/-! Draws -/
theorem network_ok {k : Nat} {c : l1Cur} (h : Cur k c) (hk : k ≤ 500000000) : ∃ r, s_l1Cur_network c = some r ∧ Cur (k + 300) r.2 ∧ NB r.1 := networkT_ok h hk
theorem network_t_ok {k : Nat} {c : l1Cur} (h : Cur k c) (hk : k ≤ 500000000) : ∃ r, s_l1Cur_network_t c = some r ∧ Cur (k + 300) r.2 ∧ NB r.1 := networkT_ok h hk
theorem anyNet_ok {k : Nat} {c : l1Cur} (h : Cur k c) (hk : k ≤ 200000000) : Tot (s_l1Cur_anyNetwork c) fun r => Cur (k + 1000) r.2 ∧ Bd r.1 := anyNetwork_ok h hk
def DT (t : Timetable) : Prop := Bd t.Network ∧ t.Trips.length ≤ 30
theorem DT.tb {t : Timetable} (h : DT t) : TB t := ⟨h.1, by have := h.2; omega⟩
theorem timetable_ok {k : Nat} {c : l1Cur} (h : Cur k c) (hk : k ≤ 100000000) : Tot (s_l1Cur_timetable c) fun r => Cur (k + 400) r.2 ∧ DT r.1 ∧ NB r.1.Network ∧ r.1.Trips.length ≤ 8 := by
  unfold s_l1Cur_timetable
  refine .call (networkT_ok h (by omega)) fun r ⟨hc, hn⟩ => .call (pick_ok 8 hc (by omega)) fun r1 ⟨hc1, h0, h1⟩ => ?_
  refine .call (P := fun o => Cur (k + 400) ⟨o.1, o.2.1, ⟨o.2.2.1⟩⟩ ∧ o.2.2.2.length ≤ 8) ?_ fun o ⟨ho1, ho2⟩ => .ok ⟨ho1, ⟨hn.bd, by show o.2.2.2.length ≤ 30; omega⟩, hn, ho2⟩
  refine .iter (fun m s => s.2.1 = (m : Int) ∧ m + s.2.2.2.2.2.length ≤ 8 ∧ Cur (k + 302 + 6 * (8 - m)) ⟨s.2.2.1, s.2.2.2.1, ⟨s.2.2.2.2.1⟩⟩) (n := r1.1.toNat) ⟨by show r1.1 = _; omega, by show r1.1.toNat + 0 ≤ 8; omega, hc1.mono (by omega)⟩ ?_
  rintro m ⟨n, v, v1, v2, v3, v4⟩ ⟨hv, hl, hcur⟩
  simp only at hv hl hcur
  subst hv
  unfold s_l1Cur_timetable_L1
  refine .iteP (fun hc => ?_) (fun hc => .dn ⟨hcur.mono (by omega), by show v4.length ≤ 8; omega⟩)
  refine .call (pick_ok 3 hcur (by omega)) fun r2 ⟨hc2, _⟩ => .call (pick_ok _ hc2 (by omega)) fun r5 ⟨hc5, _⟩ => .call (pick_ok 24 hc5 (by omega)) fun r6 ⟨hc6, _⟩ => .chk (by simp; omega) (.nx ⟨m - 1, by omega, ?_, ?_, ?_⟩)
  · show w64 ((m : Int) - 1) = _; rw [w64_id (by omega)]; omega
  · show m - 1 + (v4 ++ [_]).length ≤ 8; simp; omega
  · exact hc6.mono (by omega)
theorem anyTimetable_ok {k : Nat} {c : l1Cur} (h : Cur k c) (hk : k ≤ 50000000) : Tot (s_l1Cur_anyTimetable c) fun r => Cur (k + 2000) r.2 ∧ DT r.1 := by
  unfold s_l1Cur_anyTimetable
  refine .call (timetable_ok h (by omega)) fun r ⟨hc, hd, hn, hl⟩ => ?_
  refine .ite (fun _ => .ok ⟨hc.mono (by omega), hd⟩) fun he => ?_
  have hpos : 0 < r.1.Trips.length := by
    have : (r.1.Trips.length : Int) ≠ 0 := by simpa using he
    omega
  refine .call (pick_ok _ hc (by omega)) fun r1 ⟨hc1, h10, h11⟩ => ?_
  have h12 : r1.1 < (r.1.Trips.length : Int) := by omega
  refine .idx h10 h12 fun e _ => ?_
  have fin : ∀ (v : List UInt8) (v1 v2 : Int) (v3 : List Line) (v4 v5 v6 : Int) (v7 : List ByteArray), Cur (k + 2000) ⟨v, v1, ⟨v2⟩⟩ → Bd ⟨v7, v3⟩ → Tot ((idx r.1.Trips r1.1).bind fun e2 => some ((⟨(⟨v7, v3⟩ : Network), (r.1.Trips.set r1.1.toNat (⟨v4, v5, v6⟩ : Trip))⟩ : Timetable), (⟨v, v1, (⟨v2⟩ : IK .u64)⟩ : l1Cur))) fun r => Cur (k + 2000) r.2 ∧ DT r.1 := fun v v1 v2 v3 v4 v5 v6 v7 q1 q2 =>
    .idx h10 h12 fun e2 _ => .ok ⟨q1, q2, by show (r.1.Trips.set _ _).length ≤ 30; rw [List.length_set]; omega⟩
  refine .flb (.call (pick_ok 24 hc1 (by omega)) fun r2 ⟨hc2, _⟩ => ?_)
  refine .ite (fun _ => .call (among_ok _ (by simp) hc2 (by omega)) fun r3 ⟨hc3, _⟩ => .go (fin _ _ _ _ _ _ _ _ (hc3.mono (by omega)) hd.1)) fun _ => ?_
  refine .ite (fun _ => .call (pick_ok 7 hc2 (by omega)) fun r3 ⟨hc3, _⟩ => .go (fin _ _ _ _ _ _ _ _ (hc3.mono (by omega)) hd.1)) fun _ => ?_
  refine .ite (fun _ => .call (among_ok _ (by simp) hc2 (by omega)) fun r3 ⟨hc3, _⟩ => .go (fin _ _ _ _ _ _ _ _ (hc3.mono (by omega)) hd.1)) fun _ => ?_
  refine .ite (fun _ => .call (anyNet_ok hc2 (by omega)) fun r3 ⟨hc3, hb⟩ => .go (fin _ _ _ _ _ _ _ _ (hc3.mono (by omega)) hb)) fun _ => ?_
  refine .ite (fun _ => ?_) fun _ => .go (fin _ _ _ _ _ _ _ _ (hc2.mono (by omega)) hd.1)
  refine .call (P := fun o => Cur (k + 2000) ⟨o.1, o.2.1, ⟨o.2.2.1⟩⟩ ∧ o.2.2.2.length ≤ 30) ?_ fun o ⟨ho1, ho2⟩ => .ret ⟨ho1, hd.1, ho2⟩
  refine .iter (fun m s => ∃ i : Nat, s.1 = (i : Int) ∧ m + i = 14 ∧ s.2.2.2.2.length ≤ 8 + i ∧ Cur (k + 500 + 2 * i) ⟨s.2.1, s.2.2.1, ⟨s.2.2.2.1⟩⟩) (n := 14) ⟨0, rfl, rfl, by simpa using hl, hc2.mono (by omega)⟩ ?_
  rintro m ⟨v8, v9, v10, v11, v12⟩ ⟨i, hv, hm, hl12, hcur⟩
  simp only at hv hl12 hcur
  subst hv
  unfold s_l1Cur_anyTimetable_L1
  refine .call (pick_ok 2 hcur (by omega)) fun r8 ⟨hc8, _⟩ => ?_
  refine .call (P := fun b => b = true → i < 14) (.ite (fun _ => .ok fun hb => by simp at hb; omega) fun _ => .ok fun hb => by cases hb) fun b hb => ?_
  refine .ite (fun ht => .chk (by simp; omega) (.nx ⟨m - 1, by have := hb ht; omega, i + 1, w64_succ (by omega), by have := hb ht; omega, ?_, hc8.mono (by omega)⟩)) (fun _ => .dn ⟨hc8.mono (by omega), by show v12.length ≤ 30; omega⟩)
  show (v12 ++ [_]).length ≤ 8 + (i + 1); simp; omega
theorem trips_ok {k : Nat} {c : l1Cur} (h : Cur k c) (hk : k ≤ 40000000) : Tot (s_l1Cur_trips c) fun r => Cur (k + 3000) r.2 ∧ DT r.1 := by
  unfold s_l1Cur_trips
  refine .call (one_ok 16 h (by omega)) fun r hc => ?_
  refine .ite (fun _ => .call (anyTimetable_ok hc (by omega)) fun r1 ⟨hc1, hd⟩ => .ok ⟨hc1.mono (by omega), hd⟩) fun _ => ?_
  refine .call (networkT_ok hc (by omega)) fun r2 ⟨hc2, hn⟩ => .call (pick_ok 6 hc2 (by omega)) fun r3 ⟨hc3, h30, h31⟩ => ?_
  refine .call (P := fun o => Cur (k + 3000) ⟨o.1, o.2.1, ⟨o.2.2.1⟩⟩ ∧ o.2.2.2.length ≤ 10) ?_ fun o ⟨ho1, ho2⟩ => ?_
  · refine .iter (fun m s => s.1 = (m : Int) ∧ m + s.2.2.2.2.length ≤ 10 ∧ Cur (k + 310 + 6 * (10 - m)) ⟨s.2.1, s.2.2.1, ⟨s.2.2.2.1⟩⟩) (n := 3 + r3.1.toNat) ⟨by show w64 (3 + r3.1) = _; rw [w64_id (by omega)]; omega, by show 3 + r3.1.toNat + 0 ≤ 10; omega, hc3.mono (by omega)⟩ ?_
    rintro m ⟨i, v, v1, v2, v3⟩ ⟨hv, hl, hcur⟩
    simp only at hv hl hcur
    subst hv
    unfold s_l1Cur_trips_L1
    refine .iteP (fun hc => ?_) (fun hc => .dn ⟨hcur.mono (by omega), by show v3.length ≤ 10; omega⟩)
    refine .call (pick_ok 2 hcur (by omega)) fun r7 ⟨hc7, _⟩ => .call (pick_ok _ hc7 (by omega)) fun r8 ⟨hc8, _⟩ => .call (pick_ok 16 hc8 (by omega)) fun r9 ⟨hc9, _⟩ => .chk (by simp; omega) (.nx ⟨m - 1, by omega, ?_, ?_, ?_⟩)
    · show w64 ((m : Int) - 1) = _; rw [w64_id (by omega)]; omega
    · show m - 1 + (v3 ++ [_]).length ≤ 10; simp; omega
    · exact hc9.mono (by omega)
  · refine .call (P := fun l => l.length ≤ 10) ?_ fun l hl => .ok ⟨ho1, hn.bd, by show l.length ≤ 30; omega⟩
    refine .iter (fun m s => ∃ i : Nat, s.1 = (i : Int) ∧ 1 ≤ i ∧ m + i = 11 ∧ s.2.length ≤ 10) (n := 10) ⟨1, rfl, by omega, by omega, ho2⟩ ?_
    rintro m ⟨x, v8⟩ ⟨i, hx, h1, hm, hl⟩
    simp only at hx hl
    subst hx
    unfold s_l1Cur_trips_L2
    refine .iteP (fun hc => ?_) (fun hc => .dn hl)
    have e1 : w64 ((i : Int) - 1) = (i : Int) - 1 := w64_id (by omega)
    refine .idx (by omega) hc fun e _ => ?_
    rw [e1]
    refine .idx (by omega) (by omega) fun e2 _ => ?_
    refine .call (P := fun _ => True) ?_ fun r11 _ => .idx (by omega) hc fun e3 _ => .nx ⟨m - 1, by omega, i + 1, w64_succ (by omega), by omega, by omega, by show (v8.set _ _).length ≤ 10; rw [List.length_set]; exact hl⟩
    unfold s_l1Most
    exact .ite (fun _ => .ok trivial) fun _ => .ok trivial
/-! What many laws lean on: draws in the style of Tot, lists held against themselves, comparisons. -/
theorem t_pick {k : Nat} {c : l1Cur} (n : Int) (h : Cur k c) (hk : k ≤ 3000000000) : Tot (s_l1Cur_pick c n) fun r => Cur (k + 2) r.2 ∧ 0 ≤ r.1 ∧ (r.1 < n ∨ r.1 = 0) := pick_ok n h hk
theorem t_one {k : Nat} {c : l1Cur} (n : Int) (h : Cur k c) (hk : k ≤ 3000000000) : Tot (s_l1Cur_one c n) fun r => Cur (k + 2) r.2 := one_ok n h hk
theorem t_among {k : Nat} {c : l1Cur} (l : List Int) (hl : l ≠ []) (h : Cur k c) (hk : k ≤ 3000000000) : Tot (s_l1Cur_among c l) fun r => Cur (k + 2) r.2 ∧ r.1 ∈ l := among_ok l hl h hk
theorem t_amongw {k : Nat} {c : l1Cur} (l : List Int) (hl : l ≠ []) (h : Cur k c) (hk : k ≤ 3000000000) : Tot (s_l1Cur_among_w c l) fun r => Cur (k + 2) r.2 ∧ r.1 ∈ l := amongw_ok l hl h hk
theorem t_time {k : Nat} {c : l1Cur} (h : Cur k c) (hk : k ≤ 2000000000) : Tot (s_l1Cur_time c) fun r => Cur (k + 4) r.2 := by
  unfold s_l1Cur_time
  refine Tot.call (t_one 16 h (by omega)) fun r hr => .ite (fun _ => ?_) (fun _ => ?_)
  · exact Tot.call (t_among _ (by simp) hr (by omega)) fun r hr => .ok hr.1
  · exact Tot.call (t_pick 240 hr (by omega)) fun r hr => .ok hr.1
theorem vBig_eq (code : List UInt8) : v_vBig code = some (decide (65536 < (code.length : Int))) := rfl
theorem idx0 {α : Type} (l : List α) : idx l 0 = l[0]? := idx_nat l 0
/-! Journeys: what is drawn. -/
theorem arrL2_ok {t : Timetable} (hT : GoodT t) {i : Nat} {x : Trip} {l : Line} (hx : t.Trips[i]? = some x) (hl : idx t.Network.Lines x.Line = some l) (hp : LineP t.Network.Stops.length l) (hs : 0 ≤ x.Start ∧ x.Start ≤ 1799) (from_ at_ : Int) (b k : List Int) (s1 : Int)
    (hb : b.length = t.Network.Stops.length) (hk : k.length = t.Network.Stops.length) : Tot (iter (s_l8Arrivals_L2 t from_ at_ b s1 (i : Int) l.Stops) (false, (0 : Int), k)) fun r => r.length = t.Network.Stops.length := by
  obtain ⟨⟨r1, r2, r3⟩, _⟩ := line_runs hp
  refine .iter (fun m s => ∃ j : Nat, s.2.1 = (j : Int) ∧ m + j = l.Stops.length ∧ s.2.2.length = t.Network.Stops.length) (n := l.Stops.length) ⟨0, rfl, by omega, hk⟩ ?_
  rintro m ⟨on, v, k⟩ ⟨j, hv, hm, hk⟩
  simp only at hv hk
  subst hv
  unfold s_l8Arrivals_L2
  refine .iteP (fun hc => ?_) (fun hc => .dn hk)
  obtain ⟨s, hsj⟩ := get_ex (l := l.Stops) (i := j) (by omega)
  have hr := line_stop hp hsj
  refine .eq (ixs hsj) (.eq (l5At_eq hT.1 hx hl hs (k := j) (by omega)) ?_)
  refine .call (P := fun k' => k'.length = t.Network.Stops.length) ?_ fun k' hk' => ?_
  · refine .call (P := fun _ => True) ?_ fun b _ => .ite (fun _ => .idx hr.1 (by omega) fun e _ => .ok (by rw [List.length_set]; exact hk)) fun _ => .ok hk
    exact .ite (fun _ => .idx hr.1 (by omega) fun e _ => .iteP (fun _ => .ok trivial) fun _ => .idx hr.1 (by omega) fun e _ => .ok trivial) fun _ => .ok trivial
  refine .idx hr.1 (by omega) fun e7 _ => .call (P := fun _ => True) (.ite (fun _ => .ok trivial) fun _ => .ok trivial) fun v2 _ => ?_
  refine .ite (fun _ => .nx ?_) fun _ => .idx hr.1 (by omega) fun e8 _ => .iteP (fun _ => .nx ?_) fun _ => .nx ?_
  all_goals exact ⟨m - 1, by omega, j + 1, w64_succ (by omega), by omega, hk'⟩
theorem arrivals_ok {t : Timetable} (hT : GoodT t) (change : Int) {from_ : Int} (hf : 0 ≤ from_ ∧ from_ < (t.Network.Stops.length : Int)) (at_ : Int) {legs : Int} (hlegs : 0 ≤ legs ∧ legs ≤ 4) : Tot (s_l8Arrivals t change from_ at_ legs) fun r => r.length = t.Network.Stops.length := by
  have h8 := hT.1.1
  have h12 := hT.2.1
  unfold s_l8Arrivals
  refine .chk (by omega) (.call (P := fun r => r.length = t.Network.Stops.length) ?_ fun i1 h1 => .idx hf.1 (by omega) fun e1 _ => .call (P := fun r => r.length = t.Network.Stops.length) ?_ fun i3 h3 => .ok h3)
  · refine .iter (fun m s => ∃ j : Nat, s.1 = (j : Int) ∧ m + j = t.Network.Stops.length ∧ s.2.length = t.Network.Stops.length) (n := t.Network.Stops.length) ⟨0, rfl, by omega, by simp⟩ ?_
    rintro m ⟨v, k⟩ ⟨j, hv, hm, hk⟩
    simp only at hv hk
    subst hv
    unfold s_l8Arrivals_L1
    exact .iteP (fun hc => .idx (by omega) hc fun e _ => .nx ⟨m - 1, by omega, j + 1, w64_succ (by omega), by omega, by dsimp only; rw [List.length_set]; exact hk⟩) (fun hc => .dn hk)
  · refine .iter (fun m s => ∃ j : Nat, s.1 = (j : Int) ∧ m + j = legs.toNat ∧ s.2.length = t.Network.Stops.length) (n := legs.toNat) ⟨0, rfl, by omega, by dsimp only; rw [List.length_set]; exact h1⟩ ?_
    rintro m ⟨v, k⟩ ⟨j, hv, hm, hk⟩
    simp only at hv hk
    subst hv
    unfold s_l8Arrivals_L4
    refine .iteP (fun hc => .chk (by simp; omega) (.call (P := fun _ => True) (.ite (fun _ => .ok trivial) fun _ => .ok trivial) fun s1 _ => .call (P := fun r => r.length = t.Network.Stops.length) ?_ fun k4 h4 => .nx ⟨m - 1, by omega, j + 1, w64_succ (by omega), by omega, h4⟩)) (fun hc => .dn hk)
    refine .iter (fun m s => ∃ j : Nat, s.1 = (j : Int) ∧ m + j = t.Trips.length ∧ s.2.length = t.Network.Stops.length) (n := t.Trips.length) ⟨0, rfl, by omega, by simpa using hk⟩ ?_
    rintro m ⟨v, k'⟩ ⟨q, hv, hm, hk'⟩
    simp only at hv hk'
    subst hv
    unfold s_l8Arrivals_L3
    refine .iteP (fun hc => ?_) (fun hc => .dn hk')
    obtain ⟨x, hx⟩ := get_ex (l := t.Trips) (i := q) (by omega)
    obtain ⟨l, hl, hp, hid, hs, _⟩ := trip_line hT hx
    exact .eq (l5Stops_eq hx hl) (.call (arrL2_ok hT hx hl hp hs _ _ _ _ _ hk hk') fun k3 h3 => .nx ⟨m - 1, by omega, q + 1, w64_succ (by omega), by omega, h3⟩)
theorem l8Leg_ok {t : Timetable} (hT : GoodT t) {i : Nat} {x : Trip} {l : Line} (hx : t.Trips[i]? = some x) (hl : idx t.Network.Lines x.Line = some l) {a b : Nat} {p q : Int} (ha : l.Stops[a]? = some p) (hb : l.Stops[b]? = some q) : s_l8Leg t (i : Int) (a : Int) (b : Int) = some ⟨x.Id, p, q, x.Start + (l.Runs.take a).sum, x.Start + (l.Runs.take b).sum⟩ := by
  obtain ⟨l', hl', hp, _, hs, _⟩ := trip_line hT hx
  rw [hl] at hl'; cases hl'
  obtain ⟨⟨r1, r2, r3⟩, _⟩ := line_runs hp
  have := get_lt ha; have := get_lt hb
  unfold s_l8Leg
  simp only [l5Stops_eq hx hl, Option.bind_some, idx_nat, hx, ha, hb, l5At_eq hT.1 hx hl hs (k := a) (by omega), l5At_eq hT.1 hx hl hs (k := b) (by omega)]
theorem ext_ok (x : l8Search) (hT : GoodT x.t_) : ∀ (k m : Nat), 1 ≤ m → m ≤ k → m ≤ 100 → ∀ (legs : List Leg) (stop at_ : Int), legs.length + m ≤ 1000 → Tot (s_l8Search_extend_w_k k x legs stop at_ (m : Int)) fun r => r.length ≤ legs.length + m
  | 0, m, h1, h2, _, _, _, _, _ => by omega
  | k + 1, m, h1, h2, h3, legs, stop, at_, h4 => by
    have h8 := hT.1.1
    have h12 := hT.2.1
    show Tot (s_l8Search_extend_w_F (s_l8Search_extend_w_k k) x legs stop at_ (m : Int)) _
    unfold s_l8Search_extend_w_F
    refine .flb ((Tot.iter (fun n (s : Int) => ∃ j : Nat, s = (j : Int) ∧ n + j = x.t_.Trips.length) (Q := fun b => ∀ r, b = .ret r → r.length ≤ legs.length + m) (n := x.t_.Trips.length) ⟨0, rfl, by omega⟩ ?_).mono fun b hb => ⟨fun r e => hb r e, fun u _ => .ok (by simp)⟩)
    rintro n s ⟨j, rfl, hm⟩
    unfold s_l8Search_extend_w_L3
    refine .iteP (fun hc => ?_) (fun hc => .dn (fun r e => by cases e))
    obtain ⟨tr, hx⟩ := get_ex (l := x.t_.Trips) (i := j) (by omega)
    obtain ⟨l, hl, hp, hid, hs, _⟩ := trip_line hT hx
    obtain ⟨⟨r1, r2, r3⟩, _⟩ := line_runs hp
    refine .flb ?_
    refine .call (P := fun _ => True) ?_ fun b1 _ => ?_
    · refine .iter (fun n s => ∃ q : Nat, s.2 = (q : Int) ∧ n + q = legs.length) (n := legs.length) ⟨0, rfl, by omega⟩ ?_
      rintro n' ⟨b, v⟩ ⟨q, hv, hn⟩
      simp only at hv
      subst hv
      unfold s_l8Search_extend_w_L1
      refine .iteP (fun hc => .ite (fun _ => .nx ⟨n' - 1, by omega, q + 1, w64_succ (by omega), by omega⟩) fun _ => .idx (by omega) hc fun e _ => .eq (ixs hx) (.nx ⟨n' - 1, by omega, q + 1, w64_succ (by omega), by omega⟩)) (fun hc => .dn trivial)
    refine .eq (l5Line_eq hx hl) (.eq (l2Place_eq l (by omega) stop) ?_)
    have hr := fixI_rng (fun e => stop == e) l.Stops
    revert hr
    generalize fixI (fun e => stop == e) l.Stops = p
    intro hr
    refine .call (P := fun b => b = false → 0 ≤ p) ?_ fun v hv => ?_
    · refine .ite (fun _ => .ok fun h => by cases h) fun _ => .iteP (fun _ => .ok fun h => by cases h) fun hp0 => ?_
      obtain ⟨a, ha⟩ : ∃ a : Nat, p = a := ⟨p.toNat, by omega⟩
      subst ha
      exact .eq (l5At_eq hT.1 hx hl hs (k := a) (by omega)) (.ok fun _ => by omega)
    refine .ite (fun _ => .ok ⟨fun r e => (by cases e), fun u _ => .nx ⟨n - 1, by omega, j + 1, w64_succ (by omega), by omega⟩⟩) fun hf => ?_
    have hp0 := hv hf
    obtain ⟨a, ha⟩ : ∃ a : Nat, p = a := ⟨p.toNat, by omega⟩
    subst ha
    refine .eq (l5Stops_eq hx hl) (.flb ((Tot.iter (fun n (s : Int) => ∃ q : Nat, s = (q : Int) ∧ n + q = x.t_.Network.Stops.length) (Q := fun b => ∀ r, b = .ret r → ∃ w, r = .ret (.dn (.ret w)) ∧ w.length ≤ legs.length + m) (n := x.t_.Network.Stops.length) ⟨0, rfl, by omega⟩ ?_).mono fun b hb => ⟨fun r e => ?_, fun u _ => .ok ⟨fun r e => (by cases e), fun u _ => .nx ⟨n - 1, by omega, j + 1, w64_succ (by omega), by omega⟩⟩⟩))
    · rintro n' s ⟨q, rfl, hq⟩
      unfold s_l8Search_extend_w_L2
      refine .iteP (fun hc2 => ?_) (fun hc2 => .dn (fun r e => by cases e))
      refine .flb (.eq (l5Line_eq hx hl) (.eq (l2Place_eq l (by omega) _) ?_))
      have hr5 := fixI_rng (fun e => (q : Int) == e) l.Stops
      revert hr5
      generalize fixI (fun e => (q : Int) == e) l.Stops = p5
      intro hr5
      refine .call (P := fun b => b = false → (a : Int) < p5 ∧ p5 < (l.Stops.length : Int)) ?_ fun v hv => ?_
      · refine .iteP (fun _ => .ok fun h => by cases h) fun h5 => .iteP (fun _ => .ok fun h => by cases h) fun h6 => ?_
        obtain ⟨b, hb⟩ : ∃ b : Nat, p5 = b := ⟨p5.toNat, by omega⟩
        subst hb
        exact .eq (l5At_eq hT.1 hx hl hs (k := b) (by omega)) (.ok fun _ => by omega)
      have go : Tot (some (Lp.nx (w64 ((q : Int) + 1))) : Option (Lp Int (Fl (Fl (Lp Int (Fl (List Leg) Unit)) Unit) Unit))) fun r => (∀ a', r = .nx a' → ∃ k', k' < n' ∧ ∃ q : Nat, a' = (q : Int) ∧ k' + q = x.t_.Network.Stops.length) ∧ ∀ b, r = .dn b → ∀ r, b = .ret r → ∃ w, r = .ret (.dn (.ret w)) ∧ w.length ≤ legs.length + m := .nx ⟨n' - 1, by omega, q + 1, w64_succ (by omega), by omega⟩
      refine .ite (fun _ => .ok ⟨fun r e => (by cases e), fun u _ => go⟩) fun hf => ?_
      obtain ⟨g1, g2⟩ := hv hf
      obtain ⟨b, hb⟩ : ∃ b : Nat, p5 = b := ⟨p5.toNat, by omega⟩
      subst hb
      obtain ⟨s1, hs1⟩ := get_ex (l := l.Stops) (i := a) (by omega)
      obtain ⟨s2, hs2⟩ := get_ex (l := l.Stops) (i := b) (by omega)
      refine .eq (l8Leg_ok hT hx hl hs1 hs2) (.chk (by simp; omega) (.chk (by simp; omega) (.ite (fun hone => ?_) fun hone => ?_)))
      · refine .call (P := fun _ => True) (.ite (fun _ => .ok trivial) fun _ => .ok trivial) fun v3 _ => .ite (fun _ => .ok ⟨fun r e => ?_, fun u e => (by cases e)⟩) fun _ => .ok ⟨fun r e => (by cases e), fun u _ => go⟩
        cases e
        refine ⟨fun a' e => (by cases e), fun b' e r e' => ?_⟩
        cases e; cases e'
        exact ⟨_, rfl, by simp; omega⟩
      · have hm1 : m ≠ 1 := fun e => by subst e; simp at hone
        have ew : w64 ((m : Int) - 1) = ((m - 1 : Nat) : Int) := by rw [w64_id (by omega)]; omega
        rw [ew]
        refine .call (ext_ok x hT k (m - 1) (by omega) (by omega) (by omega) _ _ _ (by simp; omega)) fun r14 h14 => .iteP (fun _ => .ok ⟨fun r e => ?_, fun u e => (by cases e)⟩) fun _ => .ok ⟨fun r e => (by cases e), fun u _ => go⟩
        cases e
        refine ⟨fun a' e => (by cases e), fun b' e r e' => ?_⟩
        cases e; cases e'
        exact ⟨_, rfl, by simp at h14; omega⟩
    · obtain ⟨w, rfl, hw⟩ := hb r e
      refine ⟨fun r' e' => ?_, fun u e' => by cases e'⟩
      cases e'
      exact ⟨fun a' e => (by cases e), fun b' e r e' => by cases e; cases e'; exact hw⟩
theorem ext_eq (x : l8Search) (legs : List Leg) (stop at_ more : Int) : s_l8Search_extend x legs stop at_ more = s_l8Search_extend_w_k 4294967297 x legs stop at_ more := rfl
theorem first_ok {t : Timetable} (hT : GoodT t) (change from_ to at_ arrive : Int) {legs : Int} (hl : 1 ≤ legs ∧ legs ≤ 4) : Tot (s_l8First t change from_ to at_ arrive legs) fun r => r.length ≤ 4 := by
  unfold s_l8First
  obtain ⟨m, rfl⟩ : ∃ m : Nat, legs = m := ⟨legs.toNat, by omega⟩
  rw [ext_eq]
  refine .call (ext_ok ⟨t, change, to, arrive⟩ hT 4294967297 m (by omega) (by omega) (by omega) [] from_ at_ (by simp; omega)) fun r hr => .ok ?_
  simp at hr; omega
theorem asked_eq {t : Timetable} (hb : TB t) (change : Int) : s_l8Asked t change = some (decide (GoodT t ∧ 0 ≤ change ∧ change ≤ 30)) := by
  unfold s_l8Asked
  simp only [goodT_eq hb, l1In_eq, Option.bind_some]
  by_cases h : GoodT t <;> simp [h]
theorem most_eq (a b : Int) : s_l1Most a b = some (max a b) := by
  unfold s_l1Most
  refine Tot.val (.iteP (fun h => .ok ?_) fun h => .ok ?_) <;> omega
theorem change_ok {k : Nat} {c : l1Cur} (h : Cur k c) (hk : k ≤ 1000000) : Tot (s_l1Cur_change c) fun r => Cur (k + 2) r.2 := by
  unfold s_l1Cur_change
  exact .call (t_among _ (by simp) h (by omega)) fun r hr => .ok hr.1
/-! Journeys: when legs are one. -/
def fl (x : Trip) (l : Line) (from_ to : Int) : Leg × Bool :=
  if fixI (fun e => from_ == e) l.Stops < 0 ∨ fixI (fun e => to == e) l.Stops ≤ fixI (fun e => from_ == e) l.Stops then (⟨0, 0, 0, 0, 0⟩, false)
  else (⟨x.Id, from_, to, x.Start + (l.Runs.take (fixI (fun e => from_ == e) l.Stops).toNat).sum, x.Start + (l.Runs.take (fixI (fun e => to == e) l.Stops).toNat).sum⟩, true)
theorem or2 {A B : Prop} [Decidable A] [Decidable B] : (if (decide A) = true then some true else some (decide B)) = some (decide (A ∨ B)) := by
  by_cases a : A <;> simp [a]
theorem fillLeg_eq {t : Timetable} (hT : GoodT t) {i : Nat} {x : Trip} {l : Line} (hx : t.Trips[i]? = some x) (hl : idx t.Network.Lines x.Line = some l) (from_ to : Int) : i_fillLeg t x from_ to = some (fl x l from_ to) := by
  obtain ⟨l', hl', hp, _, hs, _⟩ := trip_line hT hx
  rw [hl] at hl'; cases hl'
  obtain ⟨⟨r1, r2, r3⟩, _⟩ := line_runs hp
  have q1 := fixI_rng (fun e => from_ == e) l.Stops
  have q2 := fixI_rng (fun e => to == e) l.Stops
  unfold i_fillLeg fl
  rw [lineOf_eq hl]
  simp only [Option.bind_some, index_int_eq l.Stops (by omega), or2]
  revert q1 q2
  generalize fixI (fun e => from_ == e) l.Stops = p
  generalize fixI (fun e => to == e) l.Stops = q
  intro q1 q2
  by_cases h : p < 0 ∨ q ≤ p
  · simp only [h, decide_true, if_true]
  · obtain ⟨a, rfl⟩ : ∃ a : Nat, p = a := ⟨p.toNat, by omega⟩
    obtain ⟨b, rfl⟩ : ∃ b : Nat, q = b := ⟨q.toNat, by omega⟩
    simp only [h, decide_false, Bool.false_eq_true, if_false, stopTimes_eq hl hp hs, Option.bind_some, idx_nat, ST_at (l := l) (s := x.Start) (k := a) (by omega), ST_at (l := l) (s := x.Start) (k := b) (by omega), Int.toNat_natCast]
/-- A leg is one of a trip. -/
def FillP (t : Timetable) (g : Leg) : Prop := ∃ (i : Nat) (x : Trip) (l : Line), t.Trips[i]? = some x ∧ idx t.Network.Lines x.Line = some l ∧ x.Id = g.Trip ∧ fl x l g.From g.To = (g, true)
def OrdQ (change : Int) (legs : List Leg) (i : Nat) (g : Leg) : Prop := ∀ p, 0 < i → legs[i - 1]? = some p → p.To = g.From ∧ ¬ g.Depart < w64 (p.Arrive + change)
noncomputable instance (change : Int) (legs : List Leg) (i : Nat) (g : Leg) : Decidable (OrdQ change legs i g) := Classical.propDecidable _
def LegQ (t : Timetable) (change : Int) (legs : List Leg) (i : Nat) (g : Leg) : Prop := FillP t g ∧ OrdQ change legs i g ∧ ∀ (j : Nat) p, j < i → legs[j]? = some p → p.Trip ≠ g.Trip
def JourneyP (t : Timetable) (change : Int) (legs : List Leg) : Prop := (1 ≤ legs.length ∧ legs.length ≤ 4) ∧ ∀ (i : Nat) g, legs[i]? = some g → LegQ t change legs i g
noncomputable instance (t : Timetable) (change : Int) (legs : List Leg) : Decidable (JourneyP t change legs) := Classical.propDecidable _
noncomputable instance (t : Timetable) (change : Int) (legs : List Leg) (i : Nat) (g : Leg) : Decidable (LegQ t change legs i g) := Classical.propDecidable _
noncomputable instance (a b : Leg) : Decidable (a = b) := Classical.propDecidable _
theorem leg_beq (a b : Leg) : ((a.Trip == b.Trip) && ((a.From == b.From) && ((a.To == b.To) && ((a.Depart == b.Depart) && ((a.Arrive == b.Arrive) && true))))) = decide (a = b) := by
  cases a; cases b
  simp only [Leg.mk.injEq, Bool.and_true]
  rw [Bool.eq_iff_iff]
  simp
/-- What is found of a leg's trip. -/
theorem leg_found {t : Timetable} (hb : TB t) (hT : GoodT t) (g : Leg) : (fixI (fun x => x.Id == g.Trip) t.Trips < 0 ∧ ¬ FillP t g) ∨ ∃ (i : Nat) (x : Trip) (l : Line), t.Trips[i]? = some x ∧ idx t.Network.Lines x.Line = some l ∧ x.Id = g.Trip ∧ fixI (fun x => x.Id == g.Trip) t.Trips = (i : Int) ∧ (FillP t g ↔ fl x l g.From g.To = (g, true)) := by
  rcases found_or (t := t) g.Trip with ⟨h1, h2⟩ | ⟨k, y, h1, h2⟩
  · left
    refine ⟨h1, ?_⟩
    rintro ⟨i, x, l, a, _, b, _⟩
    exact h2 i x a b
  · right
    obtain ⟨l, hl, _⟩ := trip_line hT h1
    have hf := trip_fix hT h1
    rw [h2] at hf
    refine ⟨k, y, l, h1, hl, h2, hf, ?_, fun h => ⟨k, y, l, h1, hl, h2, h⟩⟩
    rintro ⟨i, x, l', a, b, c, d⟩
    have hf2 := trip_fix hT a
    rw [c, hf] at hf2
    have : k = i := by omega
    subst this
    rw [h1] at a; cases a
    rw [hl] at b; cases b
    exact d
theorem contains_leg (l : List Leg) (h : l.length ≤ 1000) (c : Leg) : slices_ContainsFunc_Leg__i_isJourney_1 l c = some (decide (∃ p ∈ l, p.Trip = c.Trip)) := by
  unfold slices_ContainsFunc_Leg__i_isJourney_1 slices_ContainsFunc_Leg slices_IndexFunc_Leg
  rw [find_val l (fun x => x.Trip == c.Trip) (fun i x hx => ?_) (by unfold slices_IndexFunc_Leg_L1; simp)]
  · simp only [Option.bind_some]
    congr 1
    rw [decide_eq_decide]
    constructor
    · intro h0
      obtain ⟨k, hk⟩ : ∃ k : Nat, fixI (fun x : Leg => x.Trip == c.Trip) l = k := ⟨(fixI (fun x : Leg => x.Trip == c.Trip) l).toNat, by omega⟩
      obtain ⟨x, a, b, _⟩ := fixI_at hk
      exact ⟨x, List.mem_of_getElem? a, by simpa using b⟩
    · rintro ⟨p, hp, he⟩
      by_cases hn : fixI (fun x : Leg => x.Trip == c.Trip) l < 0
      · have := fixI_neg hn p hp
        simp [he] at this
      · omega
  · have := get_lt hx
    unfold slices_IndexFunc_Leg_L1 i_isJourney_1
    simp (disch := omega) only [if_pos, if_neg, decide_eq_true_eq, decide_true, decide_false, Bool.not_true, Bool.not_false, Bool.false_eq_true, Bool.not_eq_true', decide_eq_false_iff_not, if_true, if_false, w64_id, chk_of, idx_nat, Option.bind_some, Option.map_some, Int.toNat_natCast, not_true_eq_false, not_false_eq_true, true_and, and_true, and_self, false_and, and_false, reduceIte, flb_go, flb_ret, beq_self_eq_true, ne_eq, bne_self_eq_false, hx, Int.ofNat_lt.2 this]
    split <;> simp [*] <;> omega
theorem ij_step {t : Timetable} (hb : TB t) (hT : GoodT t) (change : Int) (legs : List Leg) (h4 : legs.length ≤ 4) {j : Nat} {g : Leg} (hg : legs[j]? = some g) : i_isJourney_L1 t change legs (j : Int) = some (if LegQ t change legs j g then .nx ((j + 1 : Nat) : Int) else .dn (.ret false)) := by
  have hj := get_lt hg
  have no : ¬ LegQ t change legs j g → (Lp.dn (Fl.ret false) : Lp Int (Fl Bool Unit)) = if LegQ t change legs j g then .nx ((j + 1 : Nat) : Int) else .dn (.ret false) := fun h => (by rw [if_neg h])
  have yes : LegQ t change legs j g → (Lp.nx (w64 ((j : Int) + 1)) : Lp Int (Fl Bool Unit)) = if LegQ t change legs j g then .nx ((j + 1 : Nat) : Int) else .dn (.ret false) := fun h => (by rw [if_pos h, w64_succ (by omega)])
  refine Tot.val ?_
  unfold i_isJourney_L1
  refine .iteP (fun hc => .flb (.eq (ixs hg) (.eq (tripIndex_eq t hb.2 g.Trip) ?_))) (fun hc => absurd (Int.ofNat_lt.2 hj) hc)
  rcases leg_found hb hT g with ⟨h1, h2⟩ | ⟨i, x, l, hx, hl, hid, hf, hiff⟩
  · exact .iteP (fun _ => .ret (no fun hq => h2 hq.1)) (fun h => absurd h1 h)
  rw [hf]
  refine .iteP (fun h => by omega) fun _ => .eq (ixs hx) (.eq (fillLeg_eq hT hx hl g.From g.To) ?_)
  refine .call (P := fun b => (b = true → ¬ FillP t g) ∧ (b = false → FillP t g)) ?_ fun b hB => .ite (fun h => .ret (no fun hq => hB.1 h hq.1)) fun h => ?_
  · rw [leg_beq]
    refine .ite (fun h2 => .ok ⟨fun _ hF => ?_, fun h => by cases h⟩) fun h2 => .ok ⟨fun h1 hF => ?_, fun h => hiff.2 ?_⟩
    · rw [hiff.1 hF] at h2; cases h2
    · rw [hiff.1 hF] at h1; simp at h1
    · have h2 : (fl x l g.From g.To).2 = true := by simpa using h2
      have h1 : (fl x l g.From g.To).1 = g := by simpa using h
      exact Prod.ext h1 h2
  have hF := hB.2 h
  refine .ite (fun h0 => .go (.ok (yes ⟨hF, fun p hp => ?_, fun i p hi => ?_⟩))) fun h0 => ?_
  · have : j = 0 := by simpa using h0
    omega
  · have : j = 0 := by simpa using h0
    omega
  have hj0 : 0 < j := by
    have : j ≠ 0 := by simpa using h0
    omega
  obtain ⟨p, hp⟩ := get_ex (l := legs) (i := j - 1) (by omega)
  have ew : w64 ((j : Int) - 1) = ((j - 1 : Nat) : Int) := by rw [w64_id (by omega)]; omega
  rw [ew]
  refine .eq (ixs hp) (.call (P := fun b => b = decide (¬ (p.To = g.From ∧ ¬ g.Depart < w64 (p.Arrive + change)))) (.ite (fun h => .ok ?_) fun h => .eq (ixs hp) (.ok ?_)) fun b hB => ?_)
  · have : g.From ≠ p.To := by simpa using h
    simp; exact .inl fun e => absurd e.symm this
  · have : g.From = p.To := by simpa using h
    simp [this]
  subst hB
  refine .iteP (fun hn => .ret (no fun hq => hn (hq.2.1 p hj0 hp))) fun hn => ?_
  have hn := Decidable.not_not.1 hn
  refine .chk (by omega) (.eq (contains_leg _ (by simp; omega) g) (.iteP (fun hc => .ret (no fun hq => ?_)) fun hc => .go (.ok (yes ⟨hF, fun p' _ hp' => (by rw [hp] at hp'; cases hp'; exact hn), fun i q hi hq e => hc ⟨q, ?_, e⟩⟩))))
  · obtain ⟨q, hq1, hq2⟩ := hc
    rw [Int.toNat_zero, List.drop_zero] at hq1
    obtain ⟨i, hi⟩ := List.getElem?_of_mem hq1
    have hlt := get_lt hi
    rw [List.length_take] at hlt
    rw [List.getElem?_take_of_lt (by omega)] at hi
    exact hq.2.2 i q (by omega) hi hq2
  · rw [Int.toNat_zero, List.drop_zero]
    refine List.mem_of_getElem? (i := i) ?_
    rw [Int.toNat_natCast, List.getElem?_take_of_lt (by omega)]; exact hq
theorem isJourney_eq {t : Timetable} (hb : TB t) (hT : GoodT t) (change : Int) (legs : List Leg) : i_isJourney t change legs = some (decide (JourneyP t change legs)) := by
  unfold i_isJourney
  simp only [within_eq, Option.bind_some]
  by_cases h4 : 1 ≤ legs.length ∧ legs.length ≤ 4
  · have h4' : 1 ≤ (legs.length : Int) ∧ (legs.length : Int) ≤ 4 := by omega
    simp only [h4', and_self, decide_true, Bool.not_true, Bool.false_eq_true, if_false]
    rw [all_val (hd := Classical.propDecidable _) legs (LegQ t change legs) (fun i x hx => ?_) (by unfold i_isJourney_L1; simp)]
    · by_cases h : ∀ (i : Nat) x, legs[i]? = some x → LegQ t change legs i x
      · rw [if_pos h, decide_eq_true (show JourneyP t change legs from ⟨h4, h⟩)]
      · rw [if_neg h, decide_eq_false (fun q : JourneyP t change legs => h q.2)]
    · rw [ij_step hb hT change legs h4.2 hx]
      by_cases h : LegQ t change legs i x
      · exact .inl ⟨by rw [if_pos h], h⟩
      · exact .inr ⟨by rw [if_neg h], h⟩
  · have h4' : ¬ (1 ≤ (legs.length : Int) ∧ (legs.length : Int) ≤ 4) := by omega
    simp only [h4', decide_false, Bool.not_false, if_true]
    rw [decide_eq_false (fun q : JourneyP t change legs => h4 q.1)]
/-- A journey in a valid timetable. -/
def ValidJ (t : Timetable) (change : Int) (legs : List Leg) : Prop := (GoodT t ∧ 0 ≤ change ∧ change ≤ 30) ∧ JourneyP t change legs
noncomputable instance (t : Timetable) (change : Int) (legs : List Leg) : Decidable (ValidJ t change legs) := Classical.propDecidable _
theorem validJ_eq {t : Timetable} (hb : TB t) (change : Int) (legs : List Leg) : i_IsValidJourney t change legs = some (decide (ValidJ t change legs)) := by
  unfold i_IsValidJourney i_isChange
  rw [validT_eq hb]
  by_cases hT : GoodT t
  · simp only [hT, decide_true, if_true, Option.bind_some, within_eq, isJourney_eq hb hT]
    by_cases hc : 0 ≤ change ∧ change ≤ 30
    · by_cases hj : JourneyP t change legs <;> simp [ValidJ, hT, hc, hj]
    · simp [ValidJ, hc]
  · simp [ValidJ, hT]
/-- A valid leg's numbers. -/
theorem leg_rng {t : Timetable} (hT : GoodT t) {g : Leg} (h : FillP t g) : (0 ≤ g.Depart ∧ g.Depart ≤ 1799) ∧ (0 ≤ g.Arrive ∧ g.Arrive ≤ 1799) ∧ g.Depart ≤ g.Arrive := by
  obtain ⟨i, x, l, hx, hl, hid, hfl⟩ := h
  obtain ⟨l', hl', hp, _, hs, he⟩ := trip_line hT hx
  rw [hl] at hl'; cases hl'
  obtain ⟨⟨r1, r2, r3⟩, r4⟩ := line_runs hp
  unfold fl at hfl
  split at hfl
  · cases hfl
  · rename_i hn
    have hg := congrArg Prod.fst hfl
    dsimp only at hg
    have e1 : g.Depart = x.Start + (l.Runs.take (fixI (fun e => g.From == e) l.Stops).toNat).sum := (congrArg Leg.Depart hg).symm
    have e2 : g.Arrive = x.Start + (l.Runs.take (fixI (fun e => g.To == e) l.Stops).toNat).sum := (congrArg Leg.Arrive hg).symm
    have mono : ∀ (a b : Nat), a ≤ b → (l.Runs.take a).sum ≤ (l.Runs.take b).sum := by
      intro a b hab
      have : l.Runs.take b = l.Runs.take a ++ (l.Runs.take b).drop a := by
        have := List.take_append_drop a (l.Runs.take b)
        rw [List.take_take, Nat.min_eq_left hab] at this
        exact this.symm
      rw [this, List.sum_append]
      have := sum_nonneg (l := (l.Runs.take b).drop a) fun y hy => by have := r4 y (List.mem_of_mem_take (List.mem_of_mem_drop hy)); omega
      omega
    have m1 := mono (fixI (fun e => g.From == e) l.Stops).toNat (fixI (fun e => g.To == e) l.Stops).toNat (by omega)
    have m2 := mono (fixI (fun e => g.To == e) l.Stops).toNat l.Runs.length (by
      rcases fixI_rng (fun e => g.To == e) l.Stops with h | h <;> omega)
    rw [List.take_length] at m2
    have s1 := runs_sum hp (fixI (fun e => g.From == e) l.Stops).toNat
    omega
theorem legs_rng {t : Timetable} {change : Int} {legs : List Leg} (h : ValidJ t change legs) {i : Nat} {g : Leg} (hg : legs[i]? = some g) : (0 ≤ g.Depart ∧ g.Depart ≤ 1799) ∧ (0 ≤ g.Arrive ∧ g.Arrive ≤ 1799) ∧ g.Depart ≤ g.Arrive := leg_rng h.1.1 (h.2.2 i g hg).1
theorem legs_ord {t : Timetable} {change : Int} {legs : List Leg} (h : ValidJ t change legs) {i : Nat} {p g : Leg} (hp : legs[i]? = some p) (hg : legs[i + 1]? = some g) : p.To = g.From ∧ p.Arrive + change ≤ g.Depart ∧ p.Trip ≠ g.Trip := by
  have h1 := (h.2.2 (i + 1) g hg).2.1 p (by omega) (by simpa using hp)
  have h2 := (h.2.2 (i + 1) g hg).2.2 i p (by omega) hp
  have r := legs_rng h hp
  rw [w64_id (by have := h.1.2; omega)] at h1
  exact ⟨h1.1, by omega, h2⟩
/-! Journeys: slack; where a leg lies. -/
theorem leg_pos {t : Timetable} (hT : GoodT t) {g : Leg} (h : FillP t g) : ∃ (i : Nat) (x : Trip) (l : Line) (a b : Nat), t.Trips[i]? = some x ∧ idx t.Network.Lines x.Line = some l ∧ x.Id = g.Trip ∧ LineP t.Network.Stops.length l ∧ fixI (fun e => g.From == e) l.Stops = (a : Int) ∧ fixI (fun e => g.To == e) l.Stops = (b : Int) ∧ a < b ∧ l.Stops[a]? = some g.From ∧ l.Stops[b]? = some g.To ∧ fl x l g.From g.To = (g, true) := by
  obtain ⟨i, x, l, hx, hl, hid, hfl⟩ := h
  obtain ⟨l', hl', hp, _, hs, he⟩ := trip_line hT hx
  rw [hl] at hl'; cases hl'
  have hfl2 := hfl
  unfold fl at hfl
  split at hfl
  · cases hfl
  · rename_i hn
    have q1 := fixI_rng (fun e => g.From == e) l.Stops
    obtain ⟨a, ha⟩ : ∃ a : Nat, fixI (fun e => g.From == e) l.Stops = a := ⟨(fixI (fun e => g.From == e) l.Stops).toNat, by omega⟩
    obtain ⟨b, hb⟩ : ∃ b : Nat, fixI (fun e => g.To == e) l.Stops = b := ⟨(fixI (fun e => g.To == e) l.Stops).toNat, by omega⟩
    obtain ⟨u, u1, u2, _⟩ := fixI_at ha
    obtain ⟨w, w1, w2, _⟩ := fixI_at hb
    have eu : g.From = u := by simpa using u2
    have ew : g.To = w := by simpa using w2
    exact ⟨i, x, l, a, b, hx, hl, hid, hp, ha, hb, by omega, by rw [eu]; exact u1, by rw [ew]; exact w1, hfl2⟩
/-! Chains of legs: earliest arrivals. -/
def Chn (R : Nat → Int → Int → Int → Int → Prop) (ch : Int) : Nat → Int → Int → Int → Int → Prop
  | 0, _, _, _, _ => False
  | n + 1, a, w, c, s => ∃ (i : Nat) (d b r : Int), R i a d b r ∧ w ≤ d ∧ ((n = 0 ∧ b = c ∧ r = s) ∨ Chn R ch n b (r + ch) c s)
/-- What legs are like; N stops. -/
def LegsOK (R : Nat → Int → Int → Int → Int → Prop) (N : Int) : Prop :=
  (∀ i a d b r, R i a d b r → (0 ≤ a ∧ a < N) ∧ (0 ≤ b ∧ b < N) ∧ 0 ≤ d ∧ d < r ∧ r ≤ 1799) ∧ (∀ i a d b r a' d' b' r', R i a d b r → R i a' d' b' r' → r ≤ d' → R i a d b' r') ∧ ∀ i a d b r d' r', R i a d b r → R i a d' b r' → d = d' ∧ r = r'
theorem chn_w {R : Nat → Int → Int → Int → Int → Prop} {ch : Int} {n : Nat} {a w w' c s : Int} (h : Chn R ch n a w c s) (hw : w' ≤ w) : Chn R ch n a w' c s := by
  cases n with
  | zero => exact h.elim
  | succ n =>
    obtain ⟨i, d, b, r, h1, h2, h3⟩ := h
    exact ⟨i, d, b, r, h1, by omega, h3⟩
theorem chn_one {R : Nat → Int → Int → Int → Int → Prop} {ch : Int} {i : Nat} {a d b r w : Int} (h : R i a d b r) (hw : w ≤ d) : Chn R ch 1 a w b r := ⟨i, d, b, r, h, hw, .inl ⟨rfl, rfl, rfl⟩⟩
theorem chn_cons {R : Nat → Int → Int → Int → Int → Prop} {ch : Int} {n i : Nat} {a d b r w c s : Int} (h : R i a d b r) (hw : w ≤ d) (h2 : Chn R ch n b (r + ch) c s) : Chn R ch (n + 1) a w c s := ⟨i, d, b, r, h, hw, .inr h2⟩
theorem chn_app {R : Nat → Int → Int → Int → Int → Prop} {ch : Int} : ∀ {n m : Nat} {a w b r c s : Int}, Chn R ch n a w b r → Chn R ch m b (r + ch) c s → Chn R ch (n + m) a w c s
  | 0, _, _, _, _, _, _, _, h, _ => h.elim
  | n + 1, m, a, w, b, r, c, s, ⟨i, d, b', r', h1, h2, h3⟩, h => by
    rw [show n + 1 + m = (n + m) + 1 by omega]
    rcases h3 with ⟨rfl, rfl, rfl⟩ | h3
    · rw [show 0 + m = m by omega]; exact chn_cons h1 h2 h
    · exact chn_cons h1 h2 (chn_app h3 h)
theorem chn_snoc {R : Nat → Int → Int → Int → Int → Prop} {ch : Int} {n i : Nat} {a w b r d c s : Int} (h : Chn R ch n a w b r) (h2 : R i b d c s) (hd : r + ch ≤ d) : Chn R ch (n + 1) a w c s := chn_app h (chn_one h2 hd)
theorem chn_last {R : Nat → Int → Int → Int → Int → Prop} {ch : Int} : ∀ {n : Nat} {a w c s : Int}, Chn R ch (n + 1) a w c s → (n = 0 ∧ ∃ (i : Nat) (d : Int), R i a d c s ∧ w ≤ d) ∨ ∃ (i : Nat) (b r d : Int), Chn R ch n a w b r ∧ R i b d c s ∧ r + ch ≤ d
  | 0, a, w, c, s, ⟨i, d, b, r, h1, h2, h3⟩ => by
    rcases h3 with ⟨_, rfl, rfl⟩ | h3
    · exact .inl ⟨rfl, i, d, h1, h2⟩
    · exact h3.elim
  | n + 1, a, w, c, s, ⟨i, d, b, r, h1, h2, h3⟩ => by
    rcases h3 with ⟨h0, _⟩ | h3
    · omega
    right
    rcases chn_last h3 with ⟨rfl, i', d', h4, h5⟩ | ⟨i', b', r', d', h4, h5, h6⟩
    · exact ⟨i', b, r, d', chn_one h1 h2, h4, h5⟩
    · exact ⟨i', b', r', d', chn_cons h1 h2 h4, h5, h6⟩
theorem chn_lt {R : Nat → Int → Int → Int → Int → Prop} {ch N : Int} (hR : LegsOK R N) (hc : 0 ≤ ch) : ∀ {n : Nat} {a w c s : Int}, Chn R ch n a w c s → w < s ∧ s ≤ 1799 ∧ 0 ≤ s ∧ (0 ≤ a ∧ a < N) ∧ 0 ≤ c ∧ c < N
  | 0, _, _, _, _, h => h.elim
  | n + 1, a, w, c, s, ⟨i, d, b, r, h1, h2, h3⟩ => by
    have := hR.1 _ _ _ _ _ h1
    rcases h3 with ⟨_, rfl, rfl⟩ | h3
    · omega
    · have := chn_lt hR hc h3
      omega
def MinA (R : Nat → Int → Int → Int → Int → Prop) (ch : Int) (n : Nat) (a w c s : Int) : Prop := (∃ k, k ≤ n ∧ Chn R ch k a w c s) ∧ ∀ k τ, k ≤ n → Chn R ch k a w c τ → s ≤ τ
def NoA (R : Nat → Int → Int → Int → Int → Prop) (ch : Int) (n : Nat) (a w c : Int) : Prop := ∀ k τ, k ≤ n → ¬ Chn R ch k a w c τ
/-- The earliest arrival, or never. -/
def AB (R : Nat → Int → Int → Int → Int → Prop) (ch : Int) (n : Nat) (a w c s : Int) : Prop := (s = 1073741824 ∧ NoA R ch n a w c) ∨ MinA R ch n a w c s
theorem ab_uniq {R : Nat → Int → Int → Int → Int → Prop} {ch : Int} {n : Nat} {a w c s s' : Int} (h : AB R ch n a w c s) (h' : AB R ch n a w c s') : s = s' := by
  rcases h with ⟨h1, h2⟩ | ⟨⟨k, h1, h2⟩, h3⟩ <;> rcases h' with ⟨g1, g2⟩ | ⟨⟨k', g1, g2⟩, g3⟩
  · omega
  · exact absurd g2 (h2 _ _ g1)
  · exact absurd h2 (g2 _ _ h1)
  · have := h3 _ _ g1 g2; have := g3 _ _ h1 h2; omega
theorem ab_lt {R : Nat → Int → Int → Int → Int → Prop} {ch N : Int} (hR : LegsOK R N) (hc : 0 ≤ ch) {n : Nat} {a w c s : Int} (h : AB R ch n a w c s) : s = 1073741824 ∨ (w < s ∧ s ≤ 1799 ∧ 0 ≤ s) := by
  rcases h with ⟨h1, _⟩ | ⟨⟨k, h1, h2⟩, h3⟩
  · exact .inl h1
  · have := chn_lt hR hc h2; exact .inr ⟨this.1, this.2.1, this.2.2.1⟩
/-- One can be there by a time. -/
def EA (R : Nat → Int → Int → Int → Int → Prop) (ch : Int) (n : Nat) (a w c by_ : Int) : Prop := ∃ k τ, k ≤ n ∧ Chn R ch k a w c τ ∧ τ ≤ by_
theorem ab_ea {R : Nat → Int → Int → Int → Int → Prop} {ch N : Int} (hR : LegsOK R N) (hc : 0 ≤ ch) {n : Nat} {a w c s by_ : Int} (h : AB R ch n a w c s) (hb : by_ < 1073741824) : s ≤ by_ ↔ EA R ch n a w c by_ := by
  constructor
  · intro hs
    rcases h with ⟨h1, _⟩ | ⟨⟨k, h1, h2⟩, h3⟩
    · omega
    · exact ⟨k, s, h1, h2, hs⟩
  · rintro ⟨k, τ, h1, h2, h3⟩
    rcases h with ⟨_, g2⟩ | ⟨_, g3⟩
    · exact absurd h2 (g2 _ _ h1)
    · have := g3 _ _ h1 h2; omega
/-- The arrivals of one more leg. -/
def RideP (R : Nat → Int → Int → Int → Int → Prop) (N : Int) (rd out : Int → Int) : Prop := ∀ s, 0 ≤ s → s < N → (out s = 1073741824 ∧ ∀ i u d r, R i u d s r → ¬ rd u ≤ d) ∨ ((∃ (i : Nat) (u d : Int), R i u d s (out s) ∧ rd u ≤ d) ∧ ∀ i u d r, R i u d s r → rd u ≤ d → out s ≤ r)
/-- After n rounds. -/
def ArrI (R : Nat → Int → Int → Int → Int → Prop) (ch N : Int) (n : Nat) (a w : Int) (best rd : Int → Int) : Prop := (∀ s, 0 ≤ s → s < N → AB R ch n a w s (best s)) ∧
  ∀ s, 0 ≤ s → s < N → (n = 0 ∧ rd s = if s = a then w else 1073741824) ∨ (0 < n ∧ ((rd s = 1073741824 ∧ AB R ch (n - 1) a w s (best s)) ∨ (rd s = best s + ch ∧ Chn R ch n a w s (best s))))
theorem arr_zero {R : Nat → Int → Int → Int → Int → Prop} {ch N : Int} {a w : Int} {best rd : Int → Int} (hb : ∀ s, 0 ≤ s → s < N → best s = 1073741824) (hr : ∀ s, 0 ≤ s → s < N → rd s = if s = a then w else 1073741824) : ArrI R ch N 0 a w best rd := by
  refine ⟨fun s h0 h1 => .inl ⟨hb s h0 h1, fun k τ hk h => ?_⟩, fun s h0 h1 => .inl ⟨rfl, hr s h0 h1⟩⟩
  have : k = 0 := by omega
  subst this
  exact h
theorem arr_step {R : Nat → Int → Int → Int → Int → Prop} {ch N : Int} (hR : LegsOK R N) (hc : 0 ≤ ch) {n : Nat} {a w : Int} (ha : 0 ≤ a ∧ a < N) {best rd next best' rd' : Int → Int} (h : ArrI R ch N n a w best rd) (hn : RideP R N rd next)
    (hb' : ∀ s, 0 ≤ s → s < N → best' s = if next s < best s then next s else best s) (hr' : ∀ s, 0 ≤ s → s < N → rd' s = if next s < best s then next s + ch else 1073741824) : ArrI R ch N (n + 1) a w best' rd' := by
  obtain ⟨h1, h2⟩ := h
  -- what is ridden is a chain
  have snd : ∀ s, 0 ≤ s → s < N → next s = 1073741824 ∨ Chn R ch (n + 1) a w s (next s) := by
    intro s s0 s1
    rcases hn s s0 s1 with ⟨g, _⟩ | ⟨⟨i, u, d, g1, g2⟩, _⟩
    · exact .inl g
    · right
      have hl := hR.1 _ _ _ _ _ g1
      rcases h2 u hl.1.1 hl.1.2 with ⟨q1, q2⟩ | ⟨q1, ⟨q2, _⟩ | ⟨q2, q3⟩⟩
      · subst q1
        by_cases hu : u = a
        · subst hu
          rw [if_pos rfl] at q2
          exact chn_one g1 (by omega)
        · rw [if_neg hu] at q2; omega
      · omega
      · exact chn_snoc q3 g1 (by omega)
  -- no chain is earlier
  have low : ∀ s, 0 ≤ s → s < N → ∀ k τ, k ≤ n + 1 → Chn R ch k a w s τ → best s ≤ τ ∨ next s ≤ τ := by
    intro s s0 s1 k τ hk hch
    have old : ∀ k', k' ≤ n → Chn R ch k' a w s τ → best s ≤ τ := by
      intro k' hk' hch'
      rcases h1 s s0 s1 with ⟨_, g⟩ | ⟨_, g⟩
      · exact absurd hch' (g _ _ hk')
      · exact g _ _ hk' hch'
    have new : ∀ i u d, R i u d s τ → rd u ≤ d → next s ≤ τ := by
      intro i u d g1 g2
      rcases hn s s0 s1 with ⟨_, g⟩ | ⟨_, g⟩
      · exact absurd g2 (g _ _ _ _ g1)
      · exact g _ _ _ _ g1 g2
    by_cases hkn : k ≤ n
    · exact .inl (old k hkn hch)
    have : k = n + 1 := by omega
    subst this
    rcases chn_last hch with ⟨rfl, i, d, g1, g2⟩ | ⟨i, u, r, d, g1, g2, g3⟩
    · right
      refine new i a d g1 ?_
      rcases h2 a ha.1 ha.2 with ⟨_, q2⟩ | ⟨q1, _⟩
      · rw [q2, if_pos rfl]; exact g2
      · omega
    · have hl := hR.1 _ _ _ _ _ g2
      rcases h2 u hl.1.1 hl.1.2 with ⟨q1, _⟩ | ⟨q1, ⟨_, q2⟩ | ⟨q2, q3⟩⟩
      · subst q1; exact g1.elim
      · left
        rcases h1 u hl.1.1 hl.1.2 with ⟨_, g⟩ | ⟨_, g⟩
        · exact absurd g1 (g _ _ (Nat.le_refl _))
        · have hle := g _ _ (Nat.le_refl _) g1
          rcases q2 with ⟨e1, e2⟩ | ⟨⟨k', e1, e2⟩, _⟩
          · have := chn_lt hR hc g1; omega
          · exact old (k' + 1) (by omega) (chn_snoc e2 g2 (by omega))
      · right
        refine new i u d g2 ?_
        rcases h1 u hl.1.1 hl.1.2 with ⟨_, g⟩ | ⟨_, g⟩
        · exact absurd g1 (g _ _ (Nat.le_refl _))
        · have hle := g _ _ (Nat.le_refl _) g1
          omega
  refine ⟨fun s s0 s1 => ?_, fun s s0 s1 => .inr ⟨by omega, ?_⟩⟩
  · rw [hb' s s0 s1]
    have hl := low s s0 s1
    by_cases hlt : next s < best s
    · rw [if_pos hlt]
      rcases snd s s0 s1 with e | e
      · have := ab_lt hR hc (h1 s s0 s1); omega
      · exact .inr ⟨⟨n + 1, Nat.le_refl _, e⟩, fun k τ hk hch => by have := hl k τ hk hch; omega⟩
    · rw [if_neg hlt]
      rcases h1 s s0 s1 with ⟨e1, e2⟩ | ⟨⟨k, e1, e2⟩, e3⟩
      · refine .inl ⟨e1, fun k τ hk hch => ?_⟩
        have := hl k τ hk hch
        have := chn_lt hR hc hch
        omega
      · exact .inr ⟨⟨k, by omega, e2⟩, fun k τ hk hch => by have := hl k τ hk hch; omega⟩
  · rw [hr' s s0 s1, hb' s s0 s1]
    by_cases hlt : next s < best s
    · rw [if_pos hlt, if_pos hlt]
      rcases snd s s0 s1 with e | e
      · have := ab_lt hR hc (h1 s s0 s1); omega
      · exact .inr ⟨rfl, e⟩
    · rw [if_neg hlt, if_neg hlt]
      exact .inl ⟨rfl, h1 s s0 s1⟩
/-- The reference's rounds: -1 where one does not come; where one begins: the beginning. -/
def SAB (R : Nat → Int → Int → Int → Int → Prop) (ch N : Int) (n : Nat) (a w : Int) (best : Int → Int) : Prop := best a = w ∧ ∀ s, 0 ≤ s → s < N → s ≠ a → (best s = -1 ∧ NoA R ch n a w s) ∨ MinA R ch n a w s (best s)
/-- What the reference takes for reached, and from when on. -/
def SRd (ch a w : Int) (n : Nat) (best : Int → Int) (u d : Int) : Prop := 0 ≤ best u ∧ (if u = a then w else best u + (if n = 0 then 0 else ch)) ≤ d
def SNext (R : Nat → Int → Int → Int → Int → Prop) (ch N a w : Int) (n : Nat) (best next : Int → Int) : Prop := ∀ s, 0 ≤ s → s < N → (next s = -1 ∧ best s = -1 ∧ ∀ i u d r, R i u d s r → ¬ SRd ch a w n best u d) ∨
  (0 ≤ next s ∧ (next s = best s ∨ ∃ (i : Nat) (u d : Int), R i u d s (next s) ∧ SRd ch a w n best u d) ∧ (0 ≤ best s → next s ≤ best s) ∧ ∀ i u d r, R i u d s r → SRd ch a w n best u d → next s ≤ r)
theorem sab_zero {R : Nat → Int → Int → Int → Int → Prop} {ch N : Int} {a w : Int} {best : Int → Int} (h : ∀ s, 0 ≤ s → s < N → best s = if s = a then w else -1) (ha : 0 ≤ a ∧ a < N) : SAB R ch N 0 a w best := by
  refine ⟨by rw [h a ha.1 ha.2, if_pos rfl], fun s s0 s1 hs => .inl ⟨by rw [h s s0 s1, if_neg hs], fun k τ hk h => ?_⟩⟩
  have : k = 0 := by omega
  subst this
  exact h
theorem sab_rng {R : Nat → Int → Int → Int → Int → Prop} {ch N : Int} (hR : LegsOK R N) (hc : 0 ≤ ch) {n : Nat} {a w : Int} {best : Int → Int} (h : SAB R ch N n a w best) {s : Int} (s0 : 0 ≤ s) (s1 : s < N) : best s = -1 ∨ (w ≤ best s ∧ (best s = w ∨ best s ≤ 1799)) := by
  by_cases hs : s = a
  · subst hs; have := h.1; omega
  · rcases h.2 s s0 s1 hs with ⟨e, _⟩ | ⟨⟨k, e1, e2⟩, _⟩
    · exact .inl e
    · have := chn_lt hR hc e2; omega
theorem sab_step {R : Nat → Int → Int → Int → Int → Prop} {ch N : Int} (hR : LegsOK R N) (hc : 0 ≤ ch) {n : Nat} {a w : Int} (ha : 0 ≤ a ∧ a < N) (hw : 0 ≤ w) {best next : Int → Int} (h : SAB R ch N n a w best) (hn : SNext R ch N a w n best next) : SAB R ch N (n + 1) a w next := by
  obtain ⟨h1, h2⟩ := h
  have snd : ∀ i u d s r, R i u d s r → SRd ch a w n best u d → ∃ k, k ≤ n + 1 ∧ Chn R ch k a w s r := by
    intro i u d s r g1 ⟨g2, g3⟩
    have hl := hR.1 _ _ _ _ _ g1
    by_cases hu : u = a
    · subst hu
      rw [if_pos rfl] at g3
      exact ⟨1, by omega, chn_one g1 g3⟩
    · rw [if_neg hu] at g3
      rcases h2 u hl.1.1 hl.1.2 hu with ⟨e, _⟩ | ⟨⟨k, e1, e2⟩, _⟩
      · omega
      · by_cases hn0 : n = 0
        · subst hn0
          have : k = 0 := by omega
          subst this
          exact e2.elim
        · rw [if_neg hn0] at g3
          exact ⟨k + 1, by omega, chn_snoc e2 g1 g3⟩
  have cpl : ∀ k s τ, k ≤ n + 1 → Chn R ch k a w s τ → ∃ (i : Nat) (u d : Int), R i u d s τ ∧ SRd ch a w n best u d := by
    intro k s τ hk hch
    cases k with
    | zero => exact hch.elim
    | succ k =>
      rcases chn_last hch with ⟨rfl, i, d, g1, g2⟩ | ⟨i, u, r, d, g1, g2, g3⟩
      · exact ⟨i, a, d, g1, by rw [h1]; exact hw, by rw [if_pos rfl]; exact g2⟩
      · have hl := hR.1 _ _ _ _ _ g2
        have hlt := chn_lt hR hc g1
        refine ⟨i, u, d, g2, ?_⟩
        by_cases hu : u = a
        · subst hu
          exact ⟨by rw [h1]; exact hw, by rw [if_pos rfl]; omega⟩
        · have hn0 : n ≠ 0 := fun e => by
            have : k = 0 := by omega
            subst this; exact g1.elim
          rcases h2 u hl.1.1 hl.1.2 hu with ⟨_, e⟩ | ⟨⟨k', e1, e2⟩, e3⟩
          · exact absurd g1 (e _ _ (by omega))
          · have := e3 _ _ (by omega) g1
            have := chn_lt hR hc e2
            exact ⟨by omega, by rw [if_neg hu, if_neg hn0]; omega⟩
  refine ⟨?_, fun s s0 s1 hs => ?_⟩
  · rcases hn a ha.1 ha.2 with ⟨e1, e2, _⟩ | ⟨e1, e2, e3, e4⟩
    · omega
    · rcases e2 with e2 | ⟨i, u, d, g1, g2⟩
      · omega
      · obtain ⟨k, k1, k2⟩ := snd i u d a _ g1 g2
        have := chn_lt hR hc k2
        have := e3 (by omega)
        omega
  · rcases hn s s0 s1 with ⟨e1, e2, e3⟩ | ⟨e1, e2, e3, e4⟩
    · refine .inl ⟨e1, fun k τ hk hch => ?_⟩
      obtain ⟨i, u, d, g1, g2⟩ := cpl k s τ hk hch
      exact e3 _ _ _ _ g1 g2
    · right
      refine ⟨?_, fun k τ hk hch => ?_⟩
      · rcases e2 with e2 | ⟨i, u, d, g1, g2⟩
        · rw [e2]
          rcases h2 s s0 s1 hs with ⟨e, _⟩ | ⟨⟨k, k1, k2⟩, _⟩
          · omega
          · exact ⟨k, by omega, k2⟩
        · exact snd i u d s _ g1 g2
      · obtain ⟨i, u, d, g1, g2⟩ := cpl k s τ hk hch
        exact e4 _ _ _ _ g1 g2
theorem sab_ab {R : Nat → Int → Int → Int → Int → Prop} {ch N : Int} (hR : LegsOK R N) (hc : 0 ≤ ch) {n : Nat} {a w : Int} {best : Int → Int} (h : SAB R ch N n a w best) {s b : Int} (s0 : 0 ≤ s) (s1 : s < N) (hs : s ≠ a) (hb : AB R ch n a w s b) : best s = if b = 1073741824 then -1 else b := by
  rcases h.2 s s0 s1 hs with ⟨e1, e2⟩ | ⟨⟨k, e1, e2⟩, e3⟩ <;> rcases hb with ⟨g1, g2⟩ | ⟨⟨k', g1, g2⟩, g3⟩
  · rw [if_pos g1]; exact e1
  · exact absurd g2 (e2 _ _ g1)
  · exact absurd e2 (g2 _ _ e1)
  · have := e3 _ _ g1 g2
    have := g3 _ _ e1 e2
    have := chn_lt hR hc g2
    rw [if_neg (by have := g3 _ _ g1 g2; omega)]
    omega
/-! The first journey. -/
/-- A leg with which one still comes by a time. -/
def Pk (R : Nat → Int → Int → Int → Int → Prop) (ch to by_ : Int) (n : Nat) (a w : Int) (i : Nat) (s : Int) : Prop := ∃ d r, R i a d s r ∧ w ≤ d ∧ ((n = 1 ∧ s = to ∧ r ≤ by_) ∨ (1 < n ∧ EA R ch (n - 1) s (r + ch) to by_))
def FPk (R : Nat → Int → Int → Int → Int → Prop) (ch to by_ : Int) (n : Nat) (a w : Int) (i : Nat) (s : Int) : Prop := Pk R ch to by_ n a w i s ∧ ∀ i' s', (i' < i ∨ i' = i ∧ s' < s) → ¬ Pk R ch to by_ n a w i' s'
theorem fpk_uniq {R : Nat → Int → Int → Int → Int → Prop} {ch to by_ : Int} {n : Nat} {a w : Int} {i i' : Nat} {s s' : Int} (h : FPk R ch to by_ n a w i s) (h' : FPk R ch to by_ n a w i' s') : i = i' ∧ s = s' := by
  have h1 : ¬ (i' < i ∨ i' = i ∧ s' < s) := fun q => h.2 i' s' q h'.1
  have h2 : ¬ (i < i' ∨ i = i' ∧ s < s') := fun q => h'.2 i s q h.1
  omega
/-- So many legs are needed, and suffice. -/
def XN (R : Nat → Int → Int → Int → Int → Prop) (ch to by_ : Int) (n : Nat) (a w : Int) : Prop := EA R ch n a w to by_ ∧ ¬ EA R ch (n - 1) a w to by_
theorem ea_mono {R : Nat → Int → Int → Int → Int → Prop} {ch c by_ : Int} {n m : Nat} {a w : Int} (h : EA R ch n a w c by_) (hm : n ≤ m) : EA R ch m a w c by_ := by
  obtain ⟨k, τ, h1, h2⟩ := h; exact ⟨k, τ, by omega, h2⟩
theorem ea_cons {R : Nat → Int → Int → Int → Int → Prop} {ch c by_ : Int} {n i : Nat} {a d b r w : Int} (h : R i a d b r) (hw : w ≤ d) (h2 : EA R ch n b (r + ch) c by_) : EA R ch (n + 1) a w c by_ := by
  obtain ⟨k, τ, h3, h4, h5⟩ := h2; exact ⟨k + 1, τ, by omega, chn_cons h hw h4, h5⟩
theorem x_pk {R : Nat → Int → Int → Int → Int → Prop} {ch to by_ : Int} {n : Nat} {a w : Int} (h : XN R ch to by_ (n + 1) a w) : ∃ (i : Nat) (s : Int), Pk R ch to by_ (n + 1) a w i s := by
  obtain ⟨⟨k, τ, h1, h2, h3⟩, h4⟩ := h
  have hk : k = n + 1 := by
    rcases Nat.lt_or_ge k (n + 1) with hk | hk
    · exact absurd ⟨k, τ, by omega, h2, h3⟩ h4
    · omega
  subst hk
  obtain ⟨i, d, b, r, g1, g2, g3⟩ := h2
  rcases g3 with ⟨rfl, rfl, rfl⟩ | g3
  · exact ⟨i, b, d, r, g1, g2, .inl ⟨rfl, rfl, h3⟩⟩
  · refine ⟨i, b, d, r, g1, g2, .inr ⟨?_, n, τ, by omega, g3, h3⟩⟩
    cases n with
    | zero => exact g3.elim
    | succ n => omega
theorem pk_x {R : Nat → Int → Int → Int → Int → Prop} {ch N to by_ : Int} (hR : LegsOK R N) {n : Nat} {a w : Int} (h : XN R ch to by_ (n + 1) a w) {i : Nat} {s d r : Int} (hp : Pk R ch to by_ (n + 1) a w i s) (hr : R i a d s r) : w ≤ d ∧ ((n = 0 ∧ s = to ∧ r ≤ by_) ∨ (0 < n ∧ XN R ch to by_ n s (r + ch))) := by
  obtain ⟨d', r', h1, h2, h3⟩ := hp
  obtain ⟨rfl, rfl⟩ := hR.2.2 _ _ _ _ _ _ _ h1 hr
  refine ⟨h2, ?_⟩
  rcases h3 with ⟨e, h3, h4⟩ | ⟨e, h3⟩
  · exact .inl ⟨by omega, h3, h4⟩
  · refine .inr ⟨by omega, by simpa using h3, fun hn => h.2 ?_⟩
    have := ea_cons h1 h2 hn
    rw [show n - 1 + 1 = n + 1 - 1 by omega] at this
    exact this
/-- The first path. -/
def FPath (R : Nat → Int → Int → Int → Int → Prop) (ch : Int) (tid : Nat → Int) (to by_ : Int) : Nat → Int → Int → List Leg → Prop
  | 0, _, _, L => L = []
  | n + 1, a, w, L => ∃ (i : Nat) (d s r : Int) (L' : List Leg), FPk R ch to by_ (n + 1) a w i s ∧ R i a d s r ∧ w ≤ d ∧ L = ⟨tid i, a, s, d, r⟩ :: L' ∧ FPath R ch tid to by_ n s (r + ch) L'
theorem fpath_uniq {R : Nat → Int → Int → Int → Int → Prop} {ch N : Int} (hR : LegsOK R N) {tid : Nat → Int} {to by_ : Int} : ∀ {n : Nat} {a w : Int} {L L' : List Leg}, FPath R ch tid to by_ n a w L → FPath R ch tid to by_ n a w L' → L = L'
  | 0, _, _, _, _, h, h' => by rw [show _ = _ from h, show _ = _ from h']
  | n + 1, a, w, L, L', ⟨i, d, s, r, M, h1, h2, h3, h4, h5⟩, ⟨i', d', s', r', M', g1, g2, g3, g4, g5⟩ => by
    obtain ⟨rfl, rfl⟩ := fpk_uniq h1 g1
    obtain ⟨rfl, rfl⟩ := hR.2.2 _ _ _ _ _ _ _ h2 g2
    rw [h4, g4, fpath_uniq hR h5 g5]
theorem fpath_len {R : Nat → Int → Int → Int → Int → Prop} {ch : Int} {tid : Nat → Int} {to by_ : Int} : ∀ {n : Nat} {a w : Int} {L : List Leg}, FPath R ch tid to by_ n a w L → L.length = n
  | 0, _, _, _, h => by rw [show _ = _ from h]; rfl
  | n + 1, a, w, L, ⟨i, d, s, r, M, h1, h2, h3, h4, h5⟩ => by rw [h4, List.length_cons, fpath_len h5]
/-- Legs that lead from one place to another. -/
def LLs (R : Nat → Int → Int → Int → Int → Prop) (ch : Int) (tid : Nat → Int) : List Leg → Int → Int → Int → Int → Prop
  | [], a, w, b, w' => a = b ∧ w = w'
  | g :: L, a, w, b, w' => ∃ (i : Nat) (d s r : Int), R i a d s r ∧ w ≤ d ∧ g = ⟨tid i, a, s, d, r⟩ ∧ LLs R ch tid L s (r + ch) b w'
theorem ll_snoc {R : Nat → Int → Int → Int → Int → Prop} {ch : Int} {tid : Nat → Int} {i : Nat} {d s r : Int} : ∀ {L : List Leg} {a w b w' : Int}, LLs R ch tid L a w b w' → R i b d s r → w' ≤ d → LLs R ch tid (L ++ [⟨tid i, b, s, d, r⟩]) a w s (r + ch)
  | [], a, w, b, w', ⟨h1, h2⟩, hr, hd => by subst h1; subst h2; exact ⟨i, d, s, r, hr, hd, rfl, rfl, rfl⟩
  | g :: L, a, w, b, w', ⟨i', d', s', r', h1, h2, h3, h4⟩, hr, hd => ⟨i', d', s', r', h1, h2, h3, ll_snoc h4 hr hd⟩
theorem ll_le {R : Nat → Int → Int → Int → Int → Prop} {ch N : Int} (hR : LegsOK R N) (hc : 0 ≤ ch) {tid : Nat → Int} : ∀ {L : List Leg} {a w b w' : Int}, LLs R ch tid L a w b w' → w ≤ w'
  | [], a, w, b, w', ⟨h1, h2⟩ => by omega
  | g :: L, a, w, b, w', ⟨i', d', s', r', h1, h2, h3, h4⟩ => by
    have := hR.1 _ _ _ _ _ h1
    have := ll_le hR hc h4
    omega
theorem ll_ea {R : Nat → Int → Int → Int → Int → Prop} {ch : Int} {tid : Nat → Int} {c by_ : Int} {k : Nat} : ∀ {L : List Leg} {a w b w' : Int}, LLs R ch tid L a w b w' → EA R ch k b w' c by_ → EA R ch (L.length + k) a w c by_
  | [], a, w, b, w', ⟨h1, h2⟩, h => by subst h1; subst h2; rw [List.length_nil, Nat.zero_add]; exact h
  | g :: L, a, w, b, w', ⟨i', d', s', r', h1, h2, h3, h4⟩, h => by
    rw [List.length_cons, show L.length + 1 + k = (L.length + k) + 1 by omega]
    exact ea_cons h1 h2 (ll_ea h4 h)
theorem chn_app' {R : Nat → Int → Int → Int → Int → Prop} {ch : Int} {tid : Nat → Int} {c τ : Int} {k : Nat} : ∀ {L : List Leg} {a w b w' : Int}, LLs R ch tid L a w b w' → Chn R ch k b w' c τ → Chn R ch (L.length + k) a w c τ
  | [], a, w, b, w', ⟨h1, h2⟩, h => by subst h1; subst h2; rw [List.length_nil, Nat.zero_add]; exact h
  | g :: L, a, w, b, w', ⟨i', d', s', r', h1, h2, h3, h4⟩, h => by
    rw [List.length_cons, show L.length + 1 + k = (L.length + k) + 1 by omega]
    exact chn_cons h1 h2 (chn_app' h4 h)
/-- A trip that is used twice can be used once. -/
theorem ll_used {R : Nat → Int → Int → Int → Int → Prop} {ch N : Int} (hR : LegsOK R N) (hc : 0 ≤ ch) {tid : Nat → Int} {c by_ : Int} {m i : Nat} {d s r : Int} (hfin : (m = 0 ∧ s = c ∧ r ≤ by_) ∨ EA R ch m s (r + ch) c by_) :
    ∀ {L : List Leg} {a w b w' : Int}, LLs R ch tid L a w b w' → R i b d s r → w' ≤ d → (∃ g ∈ L, g.Trip = tid i) → (∀ i' a' d' s' r', R i' a' d' s' r' → tid i' = tid i → i' = i) → EA R ch (L.length + m) a w c by_
  | [], _, _, _, _, _, _, _, ⟨g, hg, _⟩, _ => by cases hg
  | g :: L, a, w, b, w', ⟨i', d', s', r', h1, h2, h3, h4⟩, hr, hd, ⟨g', hg, he⟩, hi => by
    by_cases hgi : tid i' = tid i
    · have := hi _ _ _ _ _ h1 hgi
      subst this
      have hle := ll_le hR hc h4
      have h5 := hR.2.1 _ _ _ _ _ _ _ _ _ h1 hr (by omega)
      rcases hfin with ⟨rfl, rfl, hby⟩ | hfin
      · exact ⟨1, r, by simp, chn_one h5 h2, hby⟩
      · rw [List.length_cons, show L.length + 1 + m = (L.length + m) + 1 by omega]
        exact ea_cons h5 h2 (ea_mono hfin (by omega))
    · have hm : g' ∈ L := by
        rcases List.mem_cons.1 hg with rfl | hm
        · exfalso; rw [h3] at he; exact hgi he
        · exact hm
      rw [List.length_cons, show L.length + 1 + m = (L.length + m) + 1 by omega]
      exact ea_cons h1 h2 (ll_used hR hc hfin h4 hr hd ⟨g', hm, he⟩ hi)
/-- The first path leads there, in time, on different trips. -/
theorem fpath_ll {R : Nat → Int → Int → Int → Int → Prop} {ch N : Int} (hR : LegsOK R N) {tid : Nat → Int} {to by_ : Int} : ∀ {n : Nat} {a w : Int} {L : List Leg}, XN R ch to by_ (n + 1) a w → FPath R ch tid to by_ (n + 1) a w L →
    ∃ (M : List Leg) (i : Nat) (b d r w' : Int), LLs R ch tid M a w b w' ∧ R i b d to r ∧ w' ≤ d ∧ r ≤ by_ ∧ L = M ++ [⟨tid i, b, to, d, r⟩] ∧ M.length = n
  | 0, a, w, L, hx, ⟨i, d, s, r, M, h1, h2, h3, h4, h5⟩ => by
    rcases (pk_x hR hx h1.1 h2).2 with ⟨_, rfl, hb⟩ | ⟨h, _⟩
    · exact ⟨[], i, a, d, r, w, ⟨rfl, rfl⟩, h2, h3, hb, by rw [h4, show M = [] from h5]; rfl, rfl⟩
    · omega
  | n + 1, a, w, L, hx, ⟨i, d, s, r, M, h1, h2, h3, h4, h5⟩ => by
    rcases (pk_x hR hx h1.1 h2).2 with ⟨h, _⟩ | ⟨_, hx'⟩
    · omega
    · obtain ⟨M', i', b, d', r', w', g1, g2, g3, g4, g5, g6⟩ := fpath_ll hR hx' h5
      exact ⟨⟨tid i, a, s, d, r⟩ :: M', i', b, d', r', w', ⟨i, d, s, r, h2, h3, rfl, g1⟩, g2, g3, g4, by rw [h4, g5]; rfl, by simp [g6]⟩
/-- Legs that need not be fewer are on different trips. -/
theorem ll_apart {R : Nat → Int → Int → Int → Int → Prop} {ch N : Int} (hR : LegsOK R N) (hc : 0 ≤ ch) {tid : Nat → Int} {c by_ : Int} {k : Nat} (hi : ∀ i' a' d' s' r' i a d s r, R i' a' d' s' r' → R i a d s r → tid i' = tid i → i' = i) :
    ∀ {L : List Leg} {a w b w' : Int}, LLs R ch tid L a w b w' → ((k = 0 ∧ b = c ∧ ∃ r, w' = r + ch ∧ r ≤ by_) ∨ EA R ch k b w' c by_) → ¬ EA R ch (L.length + k - 1) a w c by_ → L.Pairwise fun g h => g.Trip ≠ h.Trip
  | [], _, _, _, _, _, _, _ => List.Pairwise.nil
  | g :: L, a, w, b, w', ⟨i, d, s, r, h1, h2, h3, h4⟩, hfin, hn => by
    have hn' : ¬ EA R ch (L.length + k - 1) s (r + ch) c by_ := by
      intro h
      refine hn ?_
      by_cases h0 : L.length + k = 0
      · obtain ⟨k', τ, e1, e2, e3⟩ := h
        have : k' = 0 := by omega
        subst this; exact e2.elim
      · have := ea_cons h1 h2 h
        rw [show L.length + k - 1 + 1 = (g :: L).length + k - 1 by simp; omega] at this
        exact this
    refine List.pairwise_cons.2 ⟨fun g' hg' he => ?_, ll_apart hR hc hi h4 hfin hn'⟩
    -- the part of L before g'
    obtain ⟨L1, L2, rfl⟩ := List.append_of_mem hg'
    have spl : ∀ {L1 : List Leg} {a w b w' : Int}, LLs R ch tid (L1 ++ g' :: L2) a w b w' → ∃ (i' : Nat) (d' s' r' b1 w1 : Int), LLs R ch tid L1 a w b1 w1 ∧ R i' b1 d' s' r' ∧ w1 ≤ d' ∧ g' = ⟨tid i', b1, s', d', r'⟩ ∧ LLs R ch tid L2 s' (r' + ch) b w' := by
      intro L1
      induction L1 with
      | nil => rintro a w b w' ⟨i', d', s', r', q1, q2, q3, q4⟩; exact ⟨i', d', s', r', a, w, ⟨rfl, rfl⟩, q1, q2, q3, q4⟩
      | cons x L1 ih =>
        rintro a w b w' ⟨i', d', s', r', q1, q2, q3, q4⟩
        obtain ⟨i2, d2, s2, r2, b1, w1, p1, p2, p3, p4, p5⟩ := ih q4
        exact ⟨i2, d2, s2, r2, b1, w1, ⟨i', d', s', r', q1, q2, q3, p1⟩, p2, p3, p4, p5⟩
    obtain ⟨i', d', s', r', b1, w1, p1, p2, p3, p4, p5⟩ := spl h4
    have e : tid i = tid i' := by rw [h3, p4] at he; exact he
    have hfin2 : (L2.length + k = 0 ∧ s' = c ∧ r' ≤ by_) ∨ EA R ch (L2.length + k) s' (r' + ch) c by_ := by
      rcases hfin with ⟨rfl, rfl, r0, e1, e2⟩ | hfin
      · cases L2 with
        | nil =>
          obtain ⟨q1, q2⟩ := p5
          exact .inl ⟨rfl, q1, by omega⟩
        | cons x L2 =>
          right
          clear hn hn' h4 hg' spl
          -- the last leg comes in time
          have lst : ∀ {L2 : List Leg} {x : Leg} {a w : Int}, LLs R ch tid (x :: L2) a w b w' → EA R ch (L2.length + 1) a w b by_ := by
            intro L2
            induction L2 with
            | nil =>
              rintro x a w ⟨i3, d3, s3, r3, q1, q2, q3, q4, q5⟩
              subst q4
              exact ⟨1, r3, by simp, chn_one q1 q2, by omega⟩
            | cons y L2 ih =>
              rintro x a w ⟨i3, d3, s3, r3, q1, q2, q3, q4⟩
              exact ea_cons q1 q2 (ih q4)
          have := lst p5
          simpa using this
      · exact .inr (ll_ea p5 hfin)
    have := ll_used hR hc (m := L2.length + k) hfin2 (L := g :: L1) (a := a) (w := w) (b := b1) (w' := w1) ⟨i, d, s, r, h1, h2, h3, p1⟩ p2 p3 ⟨g, List.mem_cons_self .., by rw [h3]; exact e⟩ (fun i2 a2 d2 s2 r2 q1 q2 => hi _ _ _ _ _ _ _ _ _ _ q1 p2 q2)
    refine hn (ea_mono this ?_)
    simp; omega
/-! Legs of a timetable; the program's earliest arrivals. -/
def gv (l : List Int) (s : Int) : Int := l.getD s.toNat 0
theorem gv_at {l : List Int} {s : Nat} {x : Int} (h : l[s]? = some x) : gv l (s : Int) = x := by unfold gv; rw [Int.toNat_natCast, List.getD_eq_getElem?_getD, h]; rfl
theorem gv_idx {l : List Int} {s : Int} (h0 : 0 ≤ s) (h1 : s < l.length) : idx l s = some (gv l s) := by
  obtain ⟨x, hx, h2, _⟩ := idx_lt h0 h1
  rw [hx]; unfold gv; rw [List.getD_eq_getElem?_getD, h2]; rfl
theorem gv_set {l : List Int} {s : Int} (h0 : 0 ≤ s) (h1 : s < l.length) (x u : Int) (hu : 0 ≤ u) : gv (l.set s.toNat x) u = if u = s then x else gv l u := by
  unfold gv
  rw [List.getD_eq_getElem?_getD, List.getD_eq_getElem?_getD]
  by_cases h : u = s
  · subst h; rw [if_pos rfl, List.getElem?_set_self (by omega)]; rfl
  · rw [if_neg h, List.getElem?_set_ne (by omega)]
theorem gv_rep {n : Nat} {c s : Int} (h0 : 0 ≤ s) (h1 : s < n) : gv (List.replicate n c) s = c := by
  unfold gv; rw [List.getD_eq_getElem?_getD, List.getElem?_replicate, if_pos (by omega)]; rfl
/-- A leg of a trip. -/
def LR (t : Timetable) (i : Nat) (a d b r : Int) : Prop := ∃ (x : Trip) (l : Line) (p q : Nat), t.Trips[i]? = some x ∧ idx t.Network.Lines x.Line = some l ∧ p < q ∧ l.Stops[p]? = some a ∧ l.Stops[q]? = some b ∧ d = x.Start + (l.Runs.take p).sum ∧ r = x.Start + (l.Runs.take q).sum
theorem runs_lt {st : Nat} {l : Line} (hp : LineP st l) : ∀ {p q : Nat}, p < q → q ≤ l.Runs.length → (l.Runs.take p).sum < (l.Runs.take q).sum := by
  obtain ⟨⟨r1, r2, r3⟩, r4⟩ := line_runs hp
  intro p q
  induction q with
  | zero => omega
  | succ q ih =>
    intro h1 h2
    obtain ⟨e, he⟩ := get_ex (l := l.Runs) (i := q) (by omega)
    have := r4 e (List.mem_of_getElem? he)
    rw [sum_take_succ he]
    by_cases hpq : p = q
    · subst hpq; omega
    · have := ih (by omega) (by omega); omega
theorem runs_le {st : Nat} {l : Line} (hp : LineP st l) {p q : Nat} (h : p ≤ q) (h2 : q ≤ l.Runs.length) : (l.Runs.take p).sum ≤ (l.Runs.take q).sum := by
  by_cases h3 : p = q
  · subst h3; omega
  · have := runs_lt hp (p := p) (q := q) (by omega) h2; omega
theorem stop_uniq {st : Nat} {l : Line} (hp : LineP st l) {p q : Nat} {s : Int} (h : l.Stops[p]? = some s) (h2 : l.Stops[q]? = some s) : p = q := by
  have := (hp.2.2.1 p s h).2
  have := (hp.2.2.1 q s h2).2
  omega
theorem lr_ok {t : Timetable} (hT : GoodT t) : LegsOK (LR t) (t.Network.Stops.length : Int) := by
  refine ⟨?_, ?_, ?_⟩
  · rintro i a d b r ⟨x, l, p, q, hx, hl, hpq, hp, hq, rfl, rfl⟩
    obtain ⟨l', hl', hP, _, hs, he⟩ := trip_line hT hx
    rw [hl] at hl'; cases hl'
    obtain ⟨⟨r1, r2, r3⟩, _⟩ := line_runs hP
    have := line_stop hP hp
    have := line_stop hP hq
    have := get_lt hq
    have h1 := runs_lt hP hpq (by omega)
    have h2 := runs_le hP (p := q) (q := l.Runs.length) (by omega) (Nat.le_refl _)
    have h3 := runs_sum hP p
    rw [List.take_length] at h2
    omega
  · rintro i a d b r a' d' b' r' ⟨x, l, p, q, hx, hl, hpq, hp, hq, rfl, rfl⟩ ⟨x', l', p', q', hx', hl', hpq', hp', hq', rfl, rfl⟩ hle
    rw [hx] at hx'; cases hx'
    rw [hl] at hl'; cases hl'
    obtain ⟨l', hl', hP, _⟩ := trip_line hT hx
    rw [hl] at hl'; cases hl'
    obtain ⟨⟨r1, r2, r3⟩, _⟩ := line_runs hP
    have := get_lt hq
    have : q ≤ p' := by
      rcases Nat.lt_or_ge p' q with h | h
      · have := runs_lt hP h (by omega); omega
      · exact h
    exact ⟨x, l, p, q', hx, hl, by omega, hp, hq', rfl, rfl⟩
  · rintro i a d b r d' r' ⟨x, l, p, q, hx, hl, hpq, hp, hq, rfl, rfl⟩ ⟨x', l', p', q', hx', hl', hpq', hp', hq', rfl, rfl⟩
    rw [hx] at hx'; cases hx'
    rw [hl] at hl'; cases hl'
    obtain ⟨l', hl', hP, _⟩ := trip_line hT hx
    rw [hl] at hl'; cases hl'
    have := stop_uniq hP hp hp'
    have := stop_uniq hP hq hq'
    subst_vars
    exact ⟨rfl, rfl⟩
/-- Every place made the same. -/
theorem fillc {N : Nat} (c : Int) {step : Int × List Int → Option (Lp (Int × List Int) (List Int))} (hstep : ∀ (v : Nat) (a : List Int) (y : Int), a.length = N → a[v]? = some y → v < N → step ((v : Int), a) = some (.nx (((v + 1 : Nat) : Int), a.set v c)))
    (hend : ∀ a, a.length = N → step ((N : Int), a) = some (.dn a)) (l0 : List Int) (h0 : l0.length = N) : iter step (0, l0) = some (List.replicate N c) := by
  have h := fill_loop (fun _ : Int => c) (List.replicate N (0 : Int)) l0 (by simp [h0]) (step := step) (fun i a x y ha hy hx => by
    have := get_lt hx
    simp at this ha
    exact hstep i a y ha hy this) (fun a ha => by simp at ha ⊢; exact hend a ha)
  rw [h, List.map_replicate]
theorem readyAt_eq {t : Timetable} (hN : t.Network.Stops.length ≤ 1000) {stop : Int} (h0 : 0 ≤ stop ∧ stop < (t.Network.Stops.length : Int)) (at_ : Int) : i_readyAt t stop at_ = some ((List.replicate t.Network.Stops.length 1073741824).set stop.toNat at_) := by
  unfold i_readyAt
  rw [chk_of (by omega), Option.bind_some, fillc (N := t.Network.Stops.length) 1073741824 (fun v a y ha hy hv => ?_) (fun a ha => ?_) _ (by simp)]
  · rw [Option.bind_some, gv_idx h0.1 (by simp; omega)]; rfl
  · exact Tot.val (by unfold i_readyAt_L1; exact .iteP (fun _ => .eq (ixs hy) (.dn' (by rw [w64_succ (by omega)]; rfl))) (fun h => absurd (by simp; omega) h))
  · exact Tot.val (by unfold i_readyAt_L1; exact .iteP (fun h => absurd h (by simp; try omega)) (fun _ => .dn' rfl))
/-- Legs of the trips before i, and of trip i to the places before j. -/
def RBj (t : Timetable) (i j : Nat) (k : Nat) (a d b r : Int) : Prop := ∃ (x : Trip) (l : Line) (p q : Nat), (k < i ∨ k = i ∧ q < j) ∧ t.Trips[k]? = some x ∧ idx t.Network.Lines x.Line = some l ∧ p < q ∧ l.Stops[p]? = some a ∧ l.Stops[q]? = some b ∧ d = x.Start + (l.Runs.take p).sum ∧ r = x.Start + (l.Runs.take q).sum
theorem rideP_congr {R R' : Nat → Int → Int → Int → Int → Prop} {N : Int} {rd out : Int → Int} (h : ∀ k a d b r, R k a d b r ↔ R' k a d b r) (hr : RideP R N rd out) : RideP R' N rd out := by
  have : R = R' := by funext k a d b r; exact propext (h k a d b r)
  rw [← this]; exact hr
theorem ride_in {t : Timetable} (hT : GoodT t) {ready : List Int} (hr : ready.length = t.Network.Stops.length) {i : Nat} {x : Trip} {l : Line} (hx : t.Trips[i]? = some x) (hl : idx t.Network.Lines x.Line = some l) (out : List Int) (ho : out.length = t.Network.Stops.length) (hR : RideP (RBj t i 0) (t.Network.Stops.length : Int) (gv ready) (gv out)) :
    Tot (iter (i_ride_L2 ready (ST l x.Start) l) (false, (0 : Int), out)) fun o => o.length = t.Network.Stops.length ∧ RideP (RBj t (i + 1) 0) (t.Network.Stops.length : Int) (gv ready) (gv o) := by
  obtain ⟨l', hl', hP, _, hs, he⟩ := trip_line hT hx
  rw [hl] at hl'; cases hl'
  obtain ⟨⟨r1, r2, r3⟩, _⟩ := line_runs hP
  refine .iter (fun m s => ∃ j : Nat, s.2.1 = (j : Int) ∧ m + j = l.Stops.length ∧ s.2.2.length = t.Network.Stops.length ∧ RideP (RBj t i j) (t.Network.Stops.length : Int) (gv ready) (gv s.2.2) ∧
    (s.1 = true ↔ ∃ (p : Nat) (sp : Int), p < j ∧ l.Stops[p]? = some sp ∧ gv ready sp ≤ x.Start + (l.Runs.take p).sum)) (n := l.Stops.length) ⟨0, rfl, by omega, ho, hR, by simp⟩ ?_
  rintro m ⟨on, v, o⟩ ⟨j, hv, hm, hlen, hI, hon⟩
  dsimp only at hv hlen hI hon
  subst hv
  unfold i_ride_L2
  dsimp only
  refine .iteP (fun hc => ?_) (fun hc => .dn ⟨hlen, rideP_congr (fun k a d b r => ?_) hI⟩)
  · obtain ⟨s, hsj⟩ := get_ex (l := l.Stops) (i := j) (by omega)
    have hb := line_stop hP hsj
    have hT2 := ST_at (l := l) (s := x.Start) (k := j) (by omega)
    -- legs to other places, to this one
    have key : ∀ o' : List Int, o'.length = t.Network.Stops.length → (∀ u, 0 ≤ u → u ≠ s → gv o' u = gv o u) → (gv o' s = if on = true then (if x.Start + (l.Runs.take j).sum < gv o s then x.Start + (l.Runs.take j).sum else gv o s) else gv o s) → RideP (RBj t i (j + 1)) (t.Network.Stops.length : Int) (gv ready) (gv o') := by
      intro o' _ h1 h2 u u0 u1
      by_cases hu : u = s
      · subst hu
        have toS : ∀ k a d r, RBj t i (j + 1) k a d u r → RBj t i j k a d u r ∨ (k = i ∧ r = x.Start + (l.Runs.take j).sum ∧ ∃ p, p < j ∧ l.Stops[p]? = some a ∧ d = x.Start + (l.Runs.take p).sum) := by
          rintro k a d r ⟨x', l', p, q, hk, hx', hl', hpq, hp, hq, rfl, rfl⟩
          rcases hk with hk | ⟨rfl, hk⟩
          · exact .inl ⟨x', l', p, q, .inl hk, hx', hl', hpq, hp, hq, rfl, rfl⟩
          · rw [hx] at hx'; cases hx'
            rw [hl] at hl'; cases hl'
            have := stop_uniq hP hq hsj
            subst this
            exact .inr ⟨rfl, rfl, p, hpq, hp, rfl⟩
        have frS : ∀ k a d r, RBj t i j k a d u r → RBj t i (j + 1) k a d u r := by
          rintro k a d r ⟨x', l', p, q, hk, h⟩
          exact ⟨x', l', p, q, by omega, h⟩
        rcases Bool.eq_false_or_eq_true on with ht | hf
        · subst ht
          rw [if_pos rfl] at h2
          obtain ⟨p, sp, p1, p2, p3⟩ := hon.1 rfl
          have leg : RBj t i (j + 1) i sp (x.Start + (l.Runs.take p).sum) u (x.Start + (l.Runs.take j).sum) := ⟨x, l, p, j, .inr ⟨rfl, by omega⟩, hx, hl, p1, p2, hsj, rfl, rfl⟩
          have hTb := runs_sum hP j
          by_cases hlt : x.Start + (l.Runs.take j).sum < gv o u
          · rw [if_pos hlt] at h2
            right
            rw [h2]
            refine ⟨⟨i, sp, _, leg, p3⟩, fun k a d r hr hd => ?_⟩
            rcases toS _ _ _ _ hr with h | ⟨_, h, _⟩
            · rcases hI u u0 u1 with ⟨_, g⟩ | ⟨_, g⟩
              · exact absurd hd (g _ _ _ _ h)
              · have := g _ _ _ _ h hd; omega
            · omega
          · rw [if_neg hlt] at h2
            rcases hI u u0 u1 with ⟨g, _⟩ | ⟨⟨k, a, d, g1, g2⟩, g3⟩
            · omega
            · right
              rw [h2]
              refine ⟨⟨k, a, d, frS _ _ _ _ g1, g2⟩, fun k a d r hr hd => ?_⟩
              rcases toS _ _ _ _ hr with h | ⟨_, h, _⟩
              · exact g3 _ _ _ _ h hd
              · omega
        · subst hf
          rw [if_neg (by simp)] at h2
          have nor : ∀ k a d r, RBj t i (j + 1) k a d u r → gv ready a ≤ d → RBj t i j k a d u r := by
            intro k a d r hr hd
            rcases toS _ _ _ _ hr with h | ⟨_, _, p, p1, p2, p3⟩
            · exact h
            · exact absurd (hon.2 ⟨p, a, p1, p2, by rw [← p3]; exact hd⟩) (by simp)
          rw [h2]
          rcases hI u u0 u1 with ⟨g, g'⟩ | ⟨⟨k, a, d, g1, g2⟩, g3⟩
          · exact .inl ⟨g, fun k a d r hr hd => g' _ _ _ _ (nor _ _ _ _ hr hd) hd⟩
          · exact .inr ⟨⟨k, a, d, frS _ _ _ _ g1, g2⟩, fun k a d r hr hd => g3 _ _ _ _ (nor _ _ _ _ hr hd) hd⟩
      · have e : ∀ k a d r, RBj t i (j + 1) k a d u r ↔ RBj t i j k a d u r := by
          intro k a d r
          constructor
          · rintro ⟨x', l', p, q, hk, hx', hl', hpq, hp, hq, h1, h2⟩
            refine ⟨x', l', p, q, ?_, hx', hl', hpq, hp, hq, h1, h2⟩
            rcases hk with hk | ⟨rfl, hk⟩
            · exact .inl hk
            · rw [hx] at hx'; cases hx'
              rw [hl] at hl'; cases hl'
              have : q ≠ j := fun e => by subst e; rw [hsj] at hq; cases hq; exact hu rfl
              exact .inr ⟨rfl, by omega⟩
          · rintro ⟨x', l', p, q, hk, h⟩
            exact ⟨x', l', p, q, by omega, h⟩
        have h3 := h1 u u0 hu
        rw [h3]
        rcases hI u u0 u1 with ⟨g, g'⟩ | ⟨⟨k, a, d, g1, g2⟩, g3⟩
        · exact .inl ⟨g, fun k a d r hr => g' _ _ _ _ ((e _ _ _ _).1 hr)⟩
        · exact .inr ⟨⟨k, a, d, (e _ _ _ _).2 g1, g2⟩, fun k a d r hr => g3 _ _ _ _ ((e _ _ _ _).1 hr)⟩
    refine .eq (ixs hsj) (.call (P := fun o' => o'.length = t.Network.Stops.length ∧ RideP (RBj t i (j + 1)) (t.Network.Stops.length : Int) (gv ready) (gv o')) ?_ fun o' ⟨ho', hI'⟩ => ?_)
    · refine .ite (fun h => ?_) fun h => .ok ⟨hlen, key o hlen (fun _ _ _ => rfl) (by rw [h]; rfl)⟩
      refine .eq (gv_idx hb.1 (by omega)) (.eq (ixs hT2) (.eq (gv_idx hb.1 (by omega)) (.ok ⟨by rw [List.length_set]; exact hlen, key _ (by rw [List.length_set]; exact hlen) (fun u u0 hu => by rw [gv_set hb.1 (by omega) _ _ u0, if_neg hu]) ?_⟩)))
      rw [gv_set hb.1 (by omega) _ _ hb.1, if_pos rfl, h, if_pos rfl]
    · refine .ite (fun h => .nx ⟨m - 1, by omega, j + 1, w64_succ (by omega), by omega, ho', hI', ?_⟩) fun h => .eq (gv_idx hb.1 (by omega)) (.eq (ixs hT2) (.nx ⟨m - 1, by omega, j + 1, w64_succ (by omega), by omega, ho', hI', ?_⟩))
      · obtain ⟨p, sp, p1, p2, p3⟩ := hon.1 h
        exact ⟨fun _ => ⟨p, sp, by omega, p2, p3⟩, fun _ => rfl⟩
      · dsimp only
        rw [decide_eq_true_eq]
        constructor
        · intro h3; exact ⟨j, s, by omega, hsj, h3⟩
        · rintro ⟨p, sp, p1, p2, p3⟩
          by_cases hpj : p = j
          · subst hpj; rw [hsj] at p2; cases p2; exact p3
          · have := hon.2 ⟨p, sp, by omega, p2, p3⟩
            rw [h] at this; cases this
  · constructor
    · rintro ⟨x', l', p, q, hk, h⟩; exact ⟨x', l', p, q, by omega, h⟩
    · rintro ⟨x', l', p, q, hk, hx', hl', hpq, hp, hq, h⟩
      refine ⟨x', l', p, q, ?_, hx', hl', hpq, hp, hq, h⟩
      by_cases hki : k < i
      · exact .inl hki
      · have hke : k = i := by omega
        subst hke
        rw [hx] at hx'; cases hx'
        rw [hl] at hl'; cases hl'
        have := get_lt hq
        exact .inr ⟨rfl, by omega⟩
theorem ride_ok {t : Timetable} (hT : GoodT t) {ready : List Int} (hr : ready.length = t.Network.Stops.length) : Tot (i_ride t ready) fun o => o.length = t.Network.Stops.length ∧ RideP (LR t) (t.Network.Stops.length : Int) (gv ready) (gv o) := by
  have h8 := hT.1.1
  have h12 := hT.2.1
  unfold i_ride
  rw [chk_of (by omega), Option.bind_some, hr, fillc (N := t.Network.Stops.length) 1073741824 (fun v a y ha hy hv => ?_) (fun a ha => ?_) _ (by simp), Option.bind_some]
  · refine .call (P := fun o => o.length = t.Network.Stops.length ∧ RideP (LR t) (t.Network.Stops.length : Int) (gv ready) (gv o)) ?_ fun o ho => .ok ho
    refine .iter (fun m s => ∃ i : Nat, s.1 = (i : Int) ∧ m + i = t.Trips.length ∧ s.2.length = t.Network.Stops.length ∧ RideP (RBj t i 0) (t.Network.Stops.length : Int) (gv ready) (gv s.2)) (n := t.Trips.length) ⟨0, rfl, by omega, by simp, fun s s0 s1 => .inl ⟨gv_rep s0 s1, ?_⟩⟩ ?_
    · rintro k a d r ⟨x, l, p, q, hk, _⟩; omega
    rintro m ⟨v, o⟩ ⟨i, hv, hm, hlen, hI⟩
    dsimp only at hv hlen hI
    subst hv
    unfold i_ride_L3
    dsimp only
    refine .iteP (fun hc => ?_) (fun hc => .dn ⟨hlen, rideP_congr (fun k a d b r => ?_) hI⟩)
    · obtain ⟨x, hx⟩ := get_ex (l := t.Trips) (i := i) (by omega)
      obtain ⟨l, hl, hP, _, hs, he⟩ := trip_line hT hx
      refine .eq (ixs hx) (.eq (stopTimes_eq hl hP hs) (.eq (lineOf_eq hl) (.call (ride_in hT hr hx hl o hlen hI) fun o' ⟨g1, g2⟩ => .nx ⟨m - 1, by omega, i + 1, w64_succ (by omega), by omega, g1, g2⟩)))
    · constructor
      · rintro ⟨x', l', p, q, hk, h⟩; exact ⟨x', l', p, q, h⟩
      · rintro ⟨x', l', p, q, hx', h⟩
        have := get_lt hx'
        exact ⟨x', l', p, q, .inl (by omega), hx', h⟩
  · exact Tot.val (by unfold i_ride_L1; exact .iteP (fun _ => .eq (ixs hy) (.dn' (by rw [w64_succ (by omega)]; rfl))) (fun h => absurd (by simp; omega) h))
  · exact Tot.val (by unfold i_ride_L1; exact .iteP (fun h => absurd h (by simp; try omega)) (fun _ => .dn' rfl))
/-- The earliest arrivals, with at most so many legs. -/
theorem arr_ok {t : Timetable} (hT : GoodT t) {change : Int} (hc : 0 ≤ change ∧ change ≤ 30) {a w : Int} (ha : 0 ≤ a ∧ a < (t.Network.Stops.length : Int)) (n : Nat) (hn : n ≤ 1000) :
    Tot (i_arrivals t change ((List.replicate t.Network.Stops.length 1073741824).set a.toNat w) (n : Int)) fun o => o.length = t.Network.Stops.length ∧ ∀ s, 0 ≤ s → s < (t.Network.Stops.length : Int) → AB (LR t) change n a w s (gv o s) := by
  have h8 := hT.1.1
  have hR := lr_ok hT
  unfold i_arrivals
  have hlen0 : ((List.replicate t.Network.Stops.length (1073741824 : Int)).set a.toNat w).length = t.Network.Stops.length := by simp
  rw [chk_of (by rw [hlen0]; omega), Option.bind_some, hlen0, fillc (N := t.Network.Stops.length) 1073741824 (fun v a y ha hy hv => ?_) (fun a ha => ?_) _ (by simp), Option.bind_some]
  · refine .call (P := fun o => o.length = t.Network.Stops.length ∧ ∀ s, 0 ≤ s → s < (t.Network.Stops.length : Int) → AB (LR t) change n a w s (gv o s)) ?_ fun o ho => .ok ho
    refine .iter (fun m s => ∃ i : Nat, s.2.1 = (i : Int) ∧ m + i = n ∧ s.1.length = t.Network.Stops.length ∧ s.2.2.length = t.Network.Stops.length ∧ ArrI (LR t) change (t.Network.Stops.length : Int) i a w (gv s.2.2) (gv s.1)) (n := n) ⟨0, rfl, by omega, hlen0, by simp, ?_⟩ ?_
    · exact arr_zero (fun s s0 s1 => gv_rep s0 s1) fun s s0 s1 => by rw [gv_set ha.1 (by simp; omega) _ _ s0, gv_rep s0 s1]
    rintro m ⟨rdy, v, bst⟩ ⟨i, hv, hm, g1, g2, hI⟩
    dsimp only at hv g1 g2 hI
    subst hv
    unfold i_arrivals_L3
    dsimp only
    refine .iteP (fun hlt => ?_) (fun hge => .dn ⟨g2, by rw [show n = i by omega]; exact hI.1⟩)
    refine .call (ride_ok hT g1) fun nx ⟨n1, n2⟩ => .chk (by omega) ?_
    refine .call (P := fun o => o.1.length = t.Network.Stops.length ∧ o.2.length = t.Network.Stops.length ∧ ArrI (LR t) change (t.Network.Stops.length : Int) (i + 1) a w (gv o.2) (gv o.1)) ?_ fun ⟨r4, a5⟩ ⟨q1, q2, q3⟩ => .nx ⟨m - 1, by omega, i + 1, w64_succ (by omega), by omega, q1, q2, q3⟩
    refine .iter (fun m s => ∃ j : Nat, s.1 = (j : Int) ∧ m + j = t.Network.Stops.length ∧ s.2.1.length = t.Network.Stops.length ∧ s.2.2.length = t.Network.Stops.length ∧ (∀ u, 0 ≤ u → u < (t.Network.Stops.length : Int) → gv s.2.2 u = if u < j ∧ gv nx u < gv bst u then gv nx u else gv bst u) ∧
      ∀ u, 0 ≤ u → u < (j : Int) → gv s.2.1 u = if gv nx u < gv bst u then gv nx u + change else 1073741824) (n := t.Network.Stops.length) ⟨0, rfl, by omega, by simp [g2], g2, fun u u0 _ => by rw [if_neg (by omega)], fun u u0 h => by omega⟩ ?_
    rintro m' ⟨v, rd2, a3⟩ ⟨j, hv, hm', p1, p2, p3, p4⟩
    dsimp only at hv p1 p2 p3 p4
    subst hv
    unfold i_arrivals_L2
    dsimp only
    refine .iteP (fun hlt2 => ?_) (fun hge2 => .dn ⟨p1, p2, arr_step hR hc.1 ha hI n2 (fun s s0 s1 => ?_) (fun s s0 s1 => ?_)⟩)
    · have hj0 : (0 : Int) ≤ (j : Int) := by omega
      have hj1 : (j : Int) < (t.Network.Stops.length : Int) := by omega
      have e3 := p3 j hj0 hj1
      rw [if_neg (by omega)] at e3
      refine .eq (gv_idx hj0 (by omega)) (.eq (gv_idx hj0 (by omega)) (.eq (gv_idx hj0 (by omega)) ?_)) |> fun h => .call (P := fun o => o.1.length = t.Network.Stops.length ∧ o.2.length = t.Network.Stops.length ∧ (∀ u, 0 ≤ u → u < (t.Network.Stops.length : Int) → gv o.2 u = if u < ((j + 1 : Nat) : Int) ∧ gv nx u < gv bst u then gv nx u else gv bst u) ∧
        ∀ u, 0 ≤ u → u < ((j + 1 : Nat) : Int) → gv o.1 u = if gv nx u < gv bst u then gv nx u + change else 1073741824) h fun ⟨r3, a4⟩ ⟨z1, z2, z3, z4⟩ => .nx ⟨m' - 1, by omega, j + 1, w64_succ (by omega), by omega, z1, z2, z3, z4⟩
      rw [e3]
      refine .iteP (fun hb => ?_) fun hb => .ok ⟨by simp [p1], p2, fun u u0 u1 => ?_, fun u u0 u1 => ?_⟩
      · have hnx : gv nx j ≤ 1799 := by
          rcases n2 j hj0 hj1 with ⟨g, _⟩ | ⟨⟨k, u, d, g, _⟩, _⟩
          · have := ab_lt hR hc.1 (hI.1 j hj0 hj1); omega
          · exact (hR.1 _ _ _ _ _ g).2.2.2.2
        have hnx0 : 0 ≤ gv nx j := by
          rcases n2 j hj0 hj1 with ⟨g, _⟩ | ⟨⟨k, u, d, g, _⟩, _⟩
          · omega
          · have := (hR.1 _ _ _ _ _ g).2.2; omega
        refine .eq (gv_idx hj0 (by omega)) (.eq (gv_idx hj0 (by simp; omega)) (.ok ⟨by simp [p1], by simp [p2], fun u u0 u1 => ?_, fun u u0 u1 => ?_⟩))
        · dsimp only
          rw [gv_set hj0 (by omega) _ _ u0, p3 u u0 u1]
          by_cases hu : u = j
          · subst hu; rw [if_pos rfl, if_pos ⟨by omega, hb⟩]
          · rw [if_neg hu]
            by_cases h2 : u < (j : Int) ∧ gv nx u < gv bst u
            · rw [if_pos h2, if_pos ⟨by omega, h2.2⟩]
            · rw [if_neg h2, if_neg (by omega)]
        · dsimp only
          rw [gv_set hj0 (by simp; omega) _ _ u0, gv_set hj0 (by omega) _ _ u0]
          by_cases hu : u = j
          · subst hu; rw [if_pos rfl, if_pos hb, w64_id (by omega)]
          · rw [if_neg hu, if_neg hu]; exact p4 u u0 (by omega)
      · dsimp only
        rw [p3 u u0 u1]
        by_cases h2 : u < (j : Int) ∧ gv nx u < gv bst u
        · rw [if_pos h2, if_pos ⟨by omega, h2.2⟩]
        · rw [if_neg h2, if_neg (fun h3 => by
            by_cases hu : u = j
            · subst hu; exact hb h3.2
            · exact h2 ⟨by omega, h3.2⟩)]
      · dsimp only
        rw [gv_set hj0 (by omega) _ _ u0]
        by_cases hu : u = j
        · subst hu; rw [if_pos rfl, if_neg hb]
        · rw [if_neg hu]; exact p4 u u0 (by omega)
    · dsimp only
      rw [p3 s s0 s1]
      by_cases h2 : gv nx s < gv bst s
      · rw [if_pos ⟨by omega, h2⟩, if_pos h2]
      · rw [if_neg (fun h3 => h2 h3.2), if_neg h2]
    · exact p4 s s0 (by omega)
  · exact Tot.val (by unfold i_arrivals_L1; exact .iteP (fun _ => .eq (ixs hy) (.dn' (by rw [w64_succ (by omega)]; rfl))) (fun h => absurd (by simp; omega) h))
  · exact Tot.val (by unfold i_arrivals_L1; exact .iteP (fun h => absurd h (by simp; try omega)) (fun _ => .dn' rfl))
/-- Both at once. -/
theorem ra_ok {t : Timetable} (hT : GoodT t) {change : Int} (hc : 0 ≤ change ∧ change ≤ 30) {a : Int} (ha : 0 ≤ a ∧ a < (t.Network.Stops.length : Int)) (w : Int) {n : Int} (h0 : 0 ≤ n ∧ n ≤ 1000) {β : Type} {k : List Int → Option β} {Q : β → Prop}
    (hk : ∀ o : List Int, o.length = t.Network.Stops.length → (∀ s, 0 ≤ s → s < (t.Network.Stops.length : Int) → AB (LR t) change n.toNat a w s (gv o s)) → Tot (k o) Q) : Tot ((i_readyAt t a w).bind fun r => (i_arrivals t change r n).bind k) Q := by
  have h8 := hT.1.1
  refine .eq (readyAt_eq (by omega) ha w) ?_
  obtain ⟨m, rfl⟩ : ∃ m : Nat, n = m := ⟨n.toNat, by omega⟩
  exact .call (arr_ok hT hc ha m (by omega)) fun o ⟨h1, h2⟩ => hk o h1 (by rw [Int.toNat_natCast]; exact h2)
/-! The reference's earliest arrivals. -/
theorem snext_congr {R R' : Nat → Int → Int → Int → Int → Prop} {ch N a w : Int} {n : Nat} {best out : Int → Int} (h : ∀ k a d b r, R k a d b r ↔ R' k a d b r) (hr : SNext R ch N a w n best out) : SNext R' ch N a w n best out := by
  have : R = R' := by funext k a d b r; exact propext (h k a d b r)
  rw [← this]; exact hr
theorem sarr_in {t : Timetable} (hT : GoodT t) {change a w : Int} (hw : 0 ≤ w ∧ w ≤ 10000) (hc : 0 ≤ change ∧ change ≤ 30) {n : Nat} {best : List Int} (hbl : best.length = t.Network.Stops.length) (hbr : ∀ u, 0 ≤ u → u < (t.Network.Stops.length : Int) → -1 ≤ gv best u ∧ gv best u ≤ 10000) {i : Nat} {x : Trip} {l : Line} (hx : t.Trips[i]? = some x) (hl : idx t.Network.Lines x.Line = some l) (out : List Int) (ho : out.length = t.Network.Stops.length)
    (hR : SNext (RBj t i 0) change (t.Network.Stops.length : Int) a w n (gv best) (gv out)) {s1 : Int} (hs1 : s1 = if n = 0 then 0 else change) :
    Tot (iter (s_l8Arrivals_L2 t a w best s1 (i : Int) l.Stops) (false, (0 : Int), out)) fun o => o.length = t.Network.Stops.length ∧ SNext (RBj t (i + 1) 0) change (t.Network.Stops.length : Int) a w n (gv best) (gv o) := by
  obtain ⟨l', hl', hP, _, hs, he⟩ := trip_line hT hx
  rw [hl] at hl'; cases hl'
  obtain ⟨⟨r1, r2, r3⟩, _⟩ := line_runs hP
  refine .iter (fun m s => ∃ j : Nat, s.2.1 = (j : Int) ∧ m + j = l.Stops.length ∧ s.2.2.length = t.Network.Stops.length ∧ SNext (RBj t i j) change (t.Network.Stops.length : Int) a w n (gv best) (gv s.2.2) ∧
    (s.1 = true ↔ ∃ (p : Nat) (sp : Int), p < j ∧ l.Stops[p]? = some sp ∧ SRd change a w n (gv best) sp (x.Start + (l.Runs.take p).sum))) (n := l.Stops.length) ⟨0, rfl, by omega, ho, hR, by simp⟩ ?_
  rintro m ⟨on, v, o⟩ ⟨j, hv, hm, hlen, hI, hon⟩
  dsimp only at hv hlen hI hon
  subst hv
  unfold s_l8Arrivals_L2
  dsimp only
  refine .iteP (fun hc2 => ?_) (fun hc2 => .dn ⟨hlen, snext_congr (fun k a d b r => ?_) hI⟩)
  · obtain ⟨s, hsj⟩ := get_ex (l := l.Stops) (i := j) (by omega)
    have hb := line_stop hP hsj
    have hTb := runs_sum hP j
    have key : ∀ o' : List Int, (∀ u, 0 ≤ u → u ≠ s → gv o' u = gv o u) → (gv o' s = if on = true ∧ (gv o s < 0 ∨ x.Start + (l.Runs.take j).sum < gv o s) then x.Start + (l.Runs.take j).sum else gv o s) → SNext (RBj t i (j + 1)) change (t.Network.Stops.length : Int) a w n (gv best) (gv o') := by
      intro o' h1 h2 u u0 u1
      by_cases hu : u = s
      · subst hu
        have toS : ∀ k a d r, RBj t i (j + 1) k a d u r → RBj t i j k a d u r ∨ (k = i ∧ r = x.Start + (l.Runs.take j).sum ∧ ∃ p, p < j ∧ l.Stops[p]? = some a ∧ d = x.Start + (l.Runs.take p).sum) := by
          rintro k a d r ⟨x', l', p, q, hk, hx', hl', hpq, hp, hq, rfl, rfl⟩
          rcases hk with hk | ⟨rfl, hk⟩
          · exact .inl ⟨x', l', p, q, .inl hk, hx', hl', hpq, hp, hq, rfl, rfl⟩
          · rw [hx] at hx'; cases hx'
            rw [hl] at hl'; cases hl'
            have := stop_uniq hP hq hsj
            subst this
            exact .inr ⟨rfl, rfl, p, hpq, hp, rfl⟩
        have frS : ∀ k a d r, RBj t i j k a d u r → RBj t i (j + 1) k a d u r := by
          rintro k a d r ⟨x', l', p, q, hk, h⟩
          exact ⟨x', l', p, q, by omega, h⟩
        rcases Bool.eq_false_or_eq_true on with ht | hf
        · subst ht
          obtain ⟨p, sp, p1, p2, p3⟩ := hon.1 rfl
          have leg : RBj t i (j + 1) i sp (x.Start + (l.Runs.take p).sum) u (x.Start + (l.Runs.take j).sum) := ⟨x, l, p, j, .inr ⟨rfl, by omega⟩, hx, hl, p1, p2, hsj, rfl, rfl⟩
          by_cases hlt : gv o u < 0 ∨ x.Start + (l.Runs.take j).sum < gv o u
          · rw [if_pos ⟨rfl, hlt⟩] at h2
            right
            rw [h2]
            refine ⟨by omega, .inr ⟨i, sp, _, leg, p3⟩, fun hb0 => ?_, fun k a d r hr hd => ?_⟩
            · rcases hI u u0 u1 with ⟨_, g, _⟩ | ⟨g0, _, g, _⟩
              · omega
              · have := g hb0; omega
            · rcases toS _ _ _ _ hr with h | ⟨_, h, _⟩
              · rcases hI u u0 u1 with ⟨_, _, g⟩ | ⟨g0, _, _, g⟩
                · exact absurd hd (g _ _ _ _ h)
                · have := g _ _ _ _ h hd; omega
              · omega
          · rw [if_neg (fun h => hlt h.2)] at h2
            rcases hI u u0 u1 with ⟨g, _⟩ | ⟨g0, g1, g2, g3⟩
            · omega
            · right
              rw [h2]
              refine ⟨g0, ?_, g2, fun k a d r hr hd => ?_⟩
              · rcases g1 with g1 | ⟨k, a, d, q1, q2⟩
                · exact .inl g1
                · exact .inr ⟨k, a, d, frS _ _ _ _ q1, q2⟩
              · rcases toS _ _ _ _ hr with h | ⟨_, h, _⟩
                · exact g3 _ _ _ _ h hd
                · omega
        · subst hf
          rw [if_neg (by simp)] at h2
          have nor : ∀ k b d r, RBj t i (j + 1) k b d u r → SRd change a w n (gv best) b d → RBj t i j k b d u r := by
            intro k b d r hr hd
            rcases toS _ _ _ _ hr with h | ⟨_, _, p, p1, p2, p3⟩
            · exact h
            · exact absurd (hon.2 ⟨p, b, p1, p2, by rw [← p3]; exact hd⟩) (by simp)
          rw [h2]
          rcases hI u u0 u1 with ⟨g, g', g''⟩ | ⟨g0, g1, g2, g3⟩
          · exact .inl ⟨g, g', fun k a d r hr hd => g'' _ _ _ _ (nor _ _ _ _ hr hd) hd⟩
          · refine .inr ⟨g0, ?_, g2, fun k a d r hr hd => g3 _ _ _ _ (nor _ _ _ _ hr hd) hd⟩
            rcases g1 with g1 | ⟨k, a, d, q1, q2⟩
            · exact .inl g1
            · exact .inr ⟨k, a, d, frS _ _ _ _ q1, q2⟩
      · have e : ∀ k a d r, RBj t i (j + 1) k a d u r ↔ RBj t i j k a d u r := by
          intro k a d r
          constructor
          · rintro ⟨x', l', p, q, hk, hx', hl', hpq, hp, hq, h1, h2⟩
            refine ⟨x', l', p, q, ?_, hx', hl', hpq, hp, hq, h1, h2⟩
            rcases hk with hk | ⟨rfl, hk⟩
            · exact .inl hk
            · rw [hx] at hx'; cases hx'
              rw [hl] at hl'; cases hl'
              have : q ≠ j := fun e => by subst e; rw [hsj] at hq; cases hq; exact hu rfl
              exact .inr ⟨rfl, by omega⟩
          · rintro ⟨x', l', p, q, hk, h⟩
            exact ⟨x', l', p, q, by omega, h⟩
        have h3 := h1 u u0 hu
        rw [h3]
        rcases hI u u0 u1 with ⟨g, g', g''⟩ | ⟨g0, g1, g2, g3⟩
        · exact .inl ⟨g, g', fun k a d r hr => g'' _ _ _ _ ((e _ _ _ _).1 hr)⟩
        · refine .inr ⟨g0, ?_, g2, fun k a d r hr => g3 _ _ _ _ ((e _ _ _ _).1 hr)⟩
          rcases g1 with g1 | ⟨k, a, d, q1, q2⟩
          · exact .inl g1
          · exact .inr ⟨k, a, d, (e _ _ _ _).2 q1, q2⟩
    have hbs := hbr s hb.1 hb.2
    refine .eq (ixs hsj) (.eq (l5At_eq hT.1 hx hl hs (k := j) (by omega)) ?_)
    refine .call (P := fun o' => o'.length = t.Network.Stops.length ∧ SNext (RBj t i (j + 1)) change (t.Network.Stops.length : Int) a w n (gv best) (gv o')) ?_ fun o' ⟨ho', hI'⟩ => ?_
    · refine .call (P := fun b => b = decide (on = true ∧ (gv o s < 0 ∨ x.Start + (l.Runs.take j).sum < gv o s))) ?_ fun b hB => ?_
      · refine .ite (fun h => .eq (gv_idx hb.1 (by omega)) (.iteP (fun h0 => .ok ?_) fun h0 => .eq (gv_idx hb.1 (by omega)) (.ok ?_))) fun h => .ok ?_
        · simp [h, h0]
        · rw [decide_eq_decide]; simp [h, h0]
        · simp [h]
      · subst hB
        refine .iteP (fun h => .eq (gv_idx hb.1 (by omega)) (.ok ⟨by rw [List.length_set]; exact hlen, key _ (fun u u0 hu => by rw [gv_set hb.1 (by omega) _ _ u0, if_neg hu]) (by rw [gv_set hb.1 (by omega) _ _ hb.1, if_pos rfl, if_pos h])⟩)) fun h => .ok ⟨hlen, key o (fun _ _ _ => rfl) (by rw [if_neg h])⟩
    · refine .eq (gv_idx hb.1 (by omega)) (.call (P := fun v2 => v2 = if s = a then w else gv best s + (if n = 0 then 0 else change)) ?_ fun v2 hv2 => ?_)
      · refine .ite (fun h => .ok ?_) fun h => .ok ?_
        · have : s = a := by simpa using h
          rw [if_pos this]
        · have : s ≠ a := by simpa using h
          rw [if_neg this, hs1]
          split <;> rw [w64_id (by omega)]
      · subst hv2
        have fin : ∀ b : Bool, (b = true ↔ (on = true ∨ SRd change a w n (gv best) s (x.Start + (l.Runs.take j).sum))) → (b = true ↔ ∃ (p : Nat) (sp : Int), p < j + 1 ∧ l.Stops[p]? = some sp ∧ SRd change a w n (gv best) sp (x.Start + (l.Runs.take p).sum)) := by
          intro b h
          rw [h]
          constructor
          · rintro (h | h)
            · obtain ⟨p, sp, p1, p2, p3⟩ := hon.1 h; exact ⟨p, sp, by omega, p2, p3⟩
            · exact ⟨j, s, by omega, hsj, h⟩
          · rintro ⟨p, sp, p1, p2, p3⟩
            by_cases hpj : p = j
            · subst hpj; rw [hsj] at p2; cases p2; exact .inr p3
            · exact .inl (hon.2 ⟨p, sp, by omega, p2, p3⟩)
        refine .ite (fun h => .nx ⟨m - 1, by omega, j + 1, w64_succ (by omega), by omega, ho', hI', fin _ (by simp [h])⟩) fun h => .eq (gv_idx hb.1 (by omega)) (.iteP (fun h0 => .nx ⟨m - 1, by omega, j + 1, w64_succ (by omega), by omega, ho', hI', fin _ ?_⟩) fun h0 => .nx ⟨m - 1, by omega, j + 1, w64_succ (by omega), by omega, ho', hI', fin _ ?_⟩)
        · simp [h, SRd, h0]
        · simp [h, SRd, h0]
  · constructor
    · rintro ⟨x', l', p, q, hk, h⟩; exact ⟨x', l', p, q, by omega, h⟩
    · rintro ⟨x', l', p, q, hk, hx', hl', hpq, hp, hq, h⟩
      refine ⟨x', l', p, q, ?_, hx', hl', hpq, hp, hq, h⟩
      by_cases hki : k < i
      · exact .inl hki
      · have hke : k = i := by omega
        subst hke
        rw [hx] at hx'; cases hx'
        rw [hl] at hl'; cases hl'
        have := get_lt hq
        exact .inr ⟨rfl, by omega⟩
theorem sarr_ok {t : Timetable} (hT : GoodT t) {change : Int} (hc : 0 ≤ change ∧ change ≤ 30) {a w : Int} (ha : 0 ≤ a ∧ a < (t.Network.Stops.length : Int)) (hw : 0 ≤ w ∧ w ≤ 10000) (n : Nat) (hn : n ≤ 1000) :
    Tot (s_l8Arrivals t change a w (n : Int)) fun o => o.length = t.Network.Stops.length ∧ SAB (LR t) change (t.Network.Stops.length : Int) n a w (gv o) := by
  have h8 := hT.1.1
  have h12 := hT.2.1
  have hR := lr_ok hT
  unfold s_l8Arrivals
  rw [chk_of (by omega), Option.bind_some, fillc (N := t.Network.Stops.length) (-1) (fun v l y ha hy hv => ?_) (fun l ha => ?_) _ (by simp), Option.bind_some]
  · refine .eq (gv_idx ha.1 (by simp; omega)) (.call (P := fun o => o.length = t.Network.Stops.length ∧ SAB (LR t) change (t.Network.Stops.length : Int) n a w (gv o)) ?_ fun o ho => .ok ho)
    refine .iter (fun m s => ∃ i : Nat, s.1 = (i : Int) ∧ m + i = n ∧ s.2.length = t.Network.Stops.length ∧ SAB (LR t) change (t.Network.Stops.length : Int) i a w (gv s.2)) (n := n) ⟨0, rfl, by omega, by simp, sab_zero (fun s s0 s1 => by rw [gv_set ha.1 (by simp; omega) _ _ s0, gv_rep s0 s1]) ha⟩ ?_
    rintro m ⟨v, bst⟩ ⟨i, hv, hm, g1, hI⟩
    dsimp only at hv g1 hI
    subst hv
    unfold s_l8Arrivals_L4
    dsimp only
    refine .iteP (fun hlt => .chk (by simp; omega) (.call (P := fun s1 => s1 = if i = 0 then 0 else change) ?_ fun s1 hs1 => ?_)) (fun hge => .dn ⟨g1, by rw [show n = i by omega]; exact hI⟩)
    · refine .ite (fun h => .ok ?_) fun h => .ok ?_
      · have : i = 0 := by have : (i : Int) = 0 := by simpa using h
                           omega
        rw [if_pos this]
      · have : i ≠ 0 := by have : (i : Int) ≠ 0 := by simpa using h
                           omega
        rw [if_neg this]
    · refine .call (P := fun o => o.length = t.Network.Stops.length ∧ SNext (LR t) change (t.Network.Stops.length : Int) a w i (gv bst) (gv o)) ?_ fun o ⟨z1, z2⟩ => .nx ⟨m - 1, by omega, i + 1, w64_succ (by omega), by omega, z1, sab_step hR hc.1 ha hw.1 hI z2⟩
      refine .iter (fun m s => ∃ q : Nat, s.1 = (q : Int) ∧ m + q = t.Trips.length ∧ s.2.length = t.Network.Stops.length ∧ SNext (RBj t q 0) change (t.Network.Stops.length : Int) a w i (gv bst) (gv s.2)) (n := t.Trips.length) ⟨0, rfl, by omega, by simpa using g1, fun s s0 s1 => ?_⟩ ?_
      · have no : ∀ k u d r, ¬ RBj t 0 0 k u d s r := by rintro k u d r ⟨x, l, p, q, hk, _⟩; omega
        show (gv ([] ++ bst) s = -1 ∧ _) ∨ _
        rw [List.nil_append]
        rcases sab_rng hR hc.1 hI s0 s1 with h | h
        · exact .inl ⟨h, h, fun k u d r hr => absurd hr (no k u d r)⟩
        · exact .inr ⟨by show 0 ≤ gv bst s; omega, .inl rfl, fun _ => Int.le_refl _, fun k u d r hr => absurd hr (no k u d r)⟩
      rintro m' ⟨v, o⟩ ⟨q, hv, hm', q1, q2⟩
      dsimp only at hv q1 q2
      subst hv
      unfold s_l8Arrivals_L3
      dsimp only
      refine .iteP (fun hlt2 => ?_) (fun hge2 => .dn ⟨q1, snext_congr (fun k a d b r => ?_) q2⟩)
      · obtain ⟨x, hx⟩ := get_ex (l := t.Trips) (i := q) (by omega)
        obtain ⟨l, hl, hP, _, hs, he⟩ := trip_line hT hx
        refine .eq (l5Stops_eq hx hl) (.call (sarr_in hT hw hc g1 (fun u u0 u1 => ?_) hx hl o q1 q2 hs1) fun o' ⟨z1, z2⟩ => .nx ⟨m' - 1, by omega, q + 1, w64_succ (by omega), by omega, z1, z2⟩)
        rcases sab_rng hR hc.1 hI u0 u1 with h | h <;> omega
      · constructor
        · rintro ⟨x', l', p, q, hk, h⟩; exact ⟨x', l', p, q, h⟩
        · rintro ⟨x', l', p, q', hx', h⟩
          have := get_lt hx'
          exact ⟨x', l', p, q', .inl (by omega), hx', h⟩
  · exact Tot.val (by unfold s_l8Arrivals_L1; exact .iteP (fun _ => .eq (ixs hy) (.dn' (by rw [w64_succ (by omega)]; rfl))) (fun h => absurd (by omega) h))
  · exact Tot.val (by unfold s_l8Arrivals_L1; exact .iteP (fun h => absurd h (by omega)) (fun _ => .dn' rfl))
/-- The two agree, but where one begins. -/
theorem sarr_ab {t : Timetable} (hT : GoodT t) {change : Int} (hc : 0 ≤ change ∧ change ≤ 30) {n : Nat} {a w : Int} {o : List Int} (h : SAB (LR t) change (t.Network.Stops.length : Int) n a w (gv o)) {s b : Int} (s0 : 0 ≤ s) (s1 : s < (t.Network.Stops.length : Int)) (hs : s ≠ a) (hb : AB (LR t) change n a w s b) : gv o s = if b = 1073741824 then -1 else b := sab_ab (lr_ok hT) hc.1 h s0 s1 hs hb
/-! The first leg and the first journey, both ways. -/
def tid (t : Timetable) (i : Nat) : Int := match t.Trips[i]? with
  | some x => x.Id
  | none => 0
theorem tid_at {t : Timetable} {i : Nat} {x : Trip} (h : t.Trips[i]? = some x) : tid t i = x.Id := by unfold tid; rw [h]
theorem tid_inj {t : Timetable} (hT : GoodT t) {i j : Nat} {x y : Trip} (hx : t.Trips[i]? = some x) (hy : t.Trips[j]? = some y) (h : tid t i = tid t j) : i = j := by
  rw [tid_at hx, tid_at hy] at h
  rcases Nat.lt_trichotomy i j with h1 | h1 | h1
  · have := ids_lt hT h1 hx hy; omega
  · exact h1
  · have := ids_lt hT h1 hy hx; omega
theorem lr_tid {t : Timetable} (hT : GoodT t) {i i' : Nat} {a d s r a' d' s' r' : Int} (h : LR t i a d s r) (h' : LR t i' a' d' s' r') (he : tid t i' = tid t i) : i' = i := by
  obtain ⟨x, l, p, q, hx, _⟩ := h
  obtain ⟨x', l', p', q', hx', _⟩ := h'
  exact tid_inj hT hx' hx he
theorem tot_un {α : Type} {v : α} {Q : α → Prop} (h : Tot (some v) Q) : Q v := by
  obtain ⟨a, h1, h2⟩ := h
  cases h1; exact h2
theorem fl_lr {t : Timetable} (hT : GoodT t) {i : Nat} {x : Trip} {l : Line} (hx : t.Trips[i]? = some x) (hl : idx t.Network.Lines x.Line = some l) (a b : Int) :
    ((fl x l a b).2 = false ∧ ∀ d r, ¬ LR t i a d b r) ∨ ∃ d r, LR t i a d b r ∧ fl x l a b = (⟨tid t i, a, b, d, r⟩, true) := by
  obtain ⟨l', hl', hP, _, hs, he⟩ := trip_line hT hx
  rw [hl] at hl'; cases hl'
  by_cases h : fixI (fun e => a == e) l.Stops < 0 ∨ fixI (fun e => b == e) l.Stops ≤ fixI (fun e => a == e) l.Stops
  · left
    refine ⟨by unfold fl; rw [if_pos h], ?_⟩
    rintro d r ⟨x', l', p, q, hx', hl', hpq, hp, hq, _⟩
    rw [hx] at hx'; cases hx'
    rw [hl] at hl'; cases hl'
    have h1 := (hP.2.2.1 p a hp).2
    have h2 := (hP.2.2.1 q b hq).2
    omega
  · right
    obtain ⟨p, hp⟩ : ∃ p : Nat, fixI (fun e => a == e) l.Stops = p := ⟨(fixI (fun e => a == e) l.Stops).toNat, by omega⟩
    obtain ⟨q, hq⟩ : ∃ q : Nat, fixI (fun e => b == e) l.Stops = q := ⟨(fixI (fun e => b == e) l.Stops).toNat, by omega⟩
    obtain ⟨u, u1, u2, _⟩ := fixI_at hp
    obtain ⟨v, v1, v2, _⟩ := fixI_at hq
    have eu : a = u := by simpa using u2
    have ev : b = v := by simpa using v2
    subst eu; subst ev
    refine ⟨_, _, ⟨x, l, p, q, hx, hl, by omega, u1, v1, rfl, rfl⟩, ?_⟩
    unfold fl
    rw [if_neg h, hp, hq, tid_at hx]
    rfl
/-- What the program's search for a leg finds. -/
theorem firstLeg_ok {t : Timetable} (hT : GoodT t) {change : Int} (hc : 0 ≤ change ∧ change ≤ 30) {to by_ : Int} (ht : 0 ≤ to ∧ to < (t.Network.Stops.length : Int)) (hby : by_ < 1073741824) {n : Nat} (hn : 1 ≤ n ∧ n ≤ 100) {stop ready : Int} (hx : XN (LR t) change to by_ n stop ready) :
    Tot (i_firstLeg t change stop to ready by_ (n : Int)) fun g => ∃ (i : Nat) (d s r : Int), FPk (LR t) change to by_ n stop ready i s ∧ LR t i stop d s r ∧ ready ≤ d ∧ g = ⟨tid t i, stop, s, d, r⟩ := by
  have h8 := hT.1.1
  have h12 := hT.2.1
  have hR := lr_ok hT
  obtain ⟨i0, s0, hpk⟩ : ∃ (i : Nat) (s : Int), Pk (LR t) change to by_ n stop ready i s := by
    obtain ⟨m, rfl⟩ : ∃ m, n = m + 1 := ⟨n - 1, by omega⟩
    exact x_pk hx
  unfold i_firstLeg
  refine .flb ((Tot.iter (fun m (v : Int) => ∃ i : Nat, v = (i : Int) ∧ m + i = t.Trips.length ∧ ∀ i' s', i' < i → ¬ Pk (LR t) change to by_ n stop ready i' s')
    (Q := fun b => (∀ g, b = .ret g → ∃ (i : Nat) (d s r : Int), FPk (LR t) change to by_ n stop ready i s ∧ LR t i stop d s r ∧ ready ≤ d ∧ g = ⟨tid t i, stop, s, d, r⟩) ∧ (b = .go () → False)) (n := t.Trips.length) ⟨0, rfl, by omega, fun i' s' h => by omega⟩ ?_).mono fun b hb => ⟨fun r e => hb.1 r e, fun u e => (hb.2 (by rw [e])).elim⟩)
  rintro m v ⟨i, rfl, hm, hpre⟩
  unfold i_firstLeg_L2
  refine .iteP (fun hlt => ?_) (fun hge => .dn ⟨fun g e => (by cases e), fun _ => ?_⟩)
  · obtain ⟨x, hx'⟩ := get_ex (l := t.Trips) (i := i) (by omega)
    obtain ⟨l, hl, hP, _, hs, he⟩ := trip_line hT hx'
    refine .eq (ixs hx') (.flb ((Tot.iter (fun m (v : Int) => ∃ s : Nat, v = (s : Int) ∧ m + s = t.Network.Stops.length ∧ ∀ s', s' < (s : Int) → ¬ Pk (LR t) change to by_ n stop ready i s')
      (Q := fun b => (∀ z, b = .ret z → ∃ g, z = .dn (.ret g) ∧ ∃ (d s r : Int), FPk (LR t) change to by_ n stop ready i s ∧ LR t i stop d s r ∧ ready ≤ d ∧ g = ⟨tid t i, stop, s, d, r⟩) ∧ (b = .go () → ∀ s', ¬ Pk (LR t) change to by_ n stop ready i s')) (n := t.Network.Stops.length) ⟨0, rfl, by omega, ?_⟩ ?_).mono fun b hb => ⟨fun z e => ?_, fun u e => .nx ⟨m - 1, by omega, i + 1, w64_succ (by omega), by omega, fun i' s' hi => ?_⟩⟩))
    · rintro s' hs' ⟨d, r, h1, _⟩
      have := hR.1 _ _ _ _ _ h1; omega
    · rintro m' v ⟨s, rfl, hm', hpre2⟩
      unfold i_firstLeg_L1
      refine .iteP (fun hlt2 => ?_) (fun hge2 => .dn ⟨fun z e => (by cases e), fun _ s' hp => ?_⟩)
      · have nxt : (¬ Pk (LR t) change to by_ n stop ready i (s : Int)) → Tot (some (Lp.nx (w64 ((s : Int) + 1))) : Option (Lp Int (Fl (Lp Int (Fl Leg Unit)) Unit))) fun r => (∀ a', r = .nx a' → ∃ k', k' < m' ∧ ∃ s : Nat, a' = (s : Int) ∧ k' + s = t.Network.Stops.length ∧ ∀ s', s' < (s : Int) → ¬ Pk (LR t) change to by_ n stop ready i s') ∧
            ∀ b, r = .dn b → (∀ z, b = .ret z → ∃ g, z = .dn (.ret g) ∧ ∃ (d s r : Int), FPk (LR t) change to by_ n stop ready i s ∧ LR t i stop d s r ∧ ready ≤ d ∧ g = ⟨tid t i, stop, s, d, r⟩) ∧ (b = .go () → ∀ s', ¬ Pk (LR t) change to by_ n stop ready i s') := fun hno =>
          .nx ⟨m' - 1, by omega, s + 1, w64_succ (by omega), by omega, fun s' hs' => by
            by_cases h : s' = (s : Int)
            · subst h; exact hno
            · exact hpre2 s' (by omega)⟩
        have got : ∀ d r, LR t i stop d (s : Int) r → ready ≤ d → Pk (LR t) change to by_ n stop ready i (s : Int) → Tot (some (Lp.dn (Fl.ret (.dn (.ret ⟨tid t i, stop, (s : Int), d, r⟩)))) : Option (Lp Int (Fl (Lp Int (Fl Leg Unit)) Unit))) fun r => (∀ a', r = .nx a' → ∃ k', k' < m' ∧ ∃ s : Nat, a' = (s : Int) ∧ k' + s = t.Network.Stops.length ∧ ∀ s', s' < (s : Int) → ¬ Pk (LR t) change to by_ n stop ready i s') ∧
            ∀ b, r = .dn b → (∀ z, b = .ret z → ∃ g, z = .dn (.ret g) ∧ ∃ (d s r : Int), FPk (LR t) change to by_ n stop ready i s ∧ LR t i stop d s r ∧ ready ≤ d ∧ g = ⟨tid t i, stop, s, d, r⟩) ∧ (b = .go () → ∀ s', ¬ Pk (LR t) change to by_ n stop ready i s') := fun d r h1 h2 h3 =>
          .dn ⟨fun z e => (by cases e; exact ⟨_, rfl, d, s, r, ⟨h3, fun i' s' h => by
            rcases h with h | ⟨rfl, h⟩
            · exact hpre i' s' h
            · exact hpre2 s' h⟩, h1, h2, rfl⟩), fun e => (by cases e)⟩
        refine .flb (.eq (fillLeg_eq hT hx' hl stop (s : Int)) ?_)
        rcases fl_lr hT hx' hl stop (s : Int) with ⟨hf, hno⟩ | ⟨d, r, hlr, hf⟩
        · rw [hf]
          refine .call (P := fun b => b = true) (.ok rfl) fun b hB => ?_
          subst hB
          exact .ok ⟨fun r e => (by cases e), fun u _ => nxt (fun ⟨d, r, h, _⟩ => hno d r h)⟩
        · rw [hf]
          have hlr2 := hR.1 _ _ _ _ _ hlr
          refine .call (P := fun b => b = decide (d < ready)) (.ok rfl) fun b hB => ?_
          subst hB
          refine .iteP (fun h => .ok ⟨fun r e => (by cases e), fun u _ => nxt ?_⟩) fun h => ?_
          · rintro ⟨d', r', g1, g2, _⟩
            obtain ⟨rfl, rfl⟩ := hR.2.2 _ _ _ _ _ _ _ g1 hlr
            omega
          refine .call (P := fun b => b = decide (n = 1 ∧ (s : Int) = to ∧ r ≤ by_)) ?_ fun b hB => ?_
          · refine .ite (fun h1 => .ite (fun h2 => .ok ?_) fun h2 => .ok ?_) fun h1 => .ok ?_
            · have e1 : n = 1 := by have : (n : Int) = 1 := by simpa using h1
                                    omega
              have e2 : (s : Int) = to := by simpa using h2
              rw [decide_eq_decide]; simp [e1, e2]
            · have e2 : ¬ (s : Int) = to := by simpa using h2
              simp [e2]
            · have e1 : ¬ n = 1 := by have : ¬ (n : Int) = 1 := by simpa using h1
                                      omega
              simp [e1]
          · subst hB
            refine .iteP (fun hq => .ok ⟨fun z e => (by cases e; obtain ⟨z, h1, h2⟩ := got d r hlr (by omega) ⟨d, r, hlr, by omega, .inl hq⟩; cases h1; exact h2), fun u e => (by cases e)⟩) fun hq => ?_
            refine .call (P := fun b => b = true ↔ (1 < n ∧ EA (LR t) change (n - 1) (s : Int) (r + change) to by_)) ?_ fun b hB => ?_
            · refine .iteP (fun h1 => ?_) fun h1 => .ok ?_
              · have e1 : w64 (r + change) = r + change := w64_id (by omega)
                have e2 : w64 ((n : Int) - 1) = ((n - 1 : Nat) : Int) := by rw [w64_id (by omega)]; omega
                rw [e1, e2]
                refine ra_ok hT hc hlr2.2.1 _ (by omega) fun o ho1 ho2 => .eq (gv_idx ht.1 (by omega)) (.ok ?_)
                have := ab_ea hR hc.1 (ho2 to ht.1 ht.2) hby
                rw [Int.toNat_natCast] at this
                rw [decide_eq_true_eq, this]
                exact ⟨fun h => ⟨by omega, h⟩, fun h => h.2⟩
              · constructor
                · intro h; cases h
                · rintro ⟨h2, _⟩; omega
            · refine .ite (fun h1 => .ok ⟨fun z e => (by cases e; obtain ⟨z, h1, h2⟩ := got d r hlr (by omega) ⟨d, r, hlr, by omega, .inr (hB.1 h1)⟩; cases h1; exact h2), fun u e => (by cases e)⟩) fun h1 => .ok ⟨fun z e => (by cases e), fun u _ => nxt ?_⟩
              rintro ⟨d', r', g1, g2, g3⟩
              obtain ⟨rfl, rfl⟩ := hR.2.2 _ _ _ _ _ _ _ g1 hlr
              rcases g3 with g3 | g3
              · exact hq g3
              · rw [hB.2 g3] at h1; cases h1
      · obtain ⟨d, r, h1, h2⟩ := hp
        have := hR.1 _ _ _ _ _ h1
        exact hpre2 s' (by omega) ⟨d, r, h1, h2⟩
    · obtain ⟨g, rfl, d, s, r, h⟩ := hb.1 z e
      exact ⟨fun a' e => (by cases e), fun b' e => (by cases e; exact ⟨fun g' e' => (by cases e'; exact ⟨i, d, s, r, h⟩), fun e' => (by cases e')⟩)⟩
    · by_cases h : i' < i
      · exact hpre i' s' h
      · have : i' = i := by omega
        subst this
        exact hb.2 e s'
  · obtain ⟨d, r, hlr, hrest⟩ := hpk
    have hlr2 := hlr
    obtain ⟨x, l, p, q, hx', _⟩ := hlr2
    have := get_lt hx'
    exact hpre i0 s0 (by omega) ⟨d, r, hlr, hrest⟩
/-! The first journey; the reference's search for it. -/
theorem firstJ_ok {t : Timetable} (hT : GoodT t) {change : Int} (hc : 0 ≤ change ∧ change ≤ 30) {from_ to : Int} (hf : 0 ≤ from_ ∧ from_ < (t.Network.Stops.length : Int)) (ht : 0 ≤ to ∧ to < (t.Network.Stops.length : Int)) (at_ : Int) {n : Nat} (hn : 1 ≤ n ∧ n ≤ 100) :
    Tot (i_firstJourney t change from_ to at_ (n : Int)) fun r => (NoA (LR t) change n from_ at_ to ∧ r = ⟨[]⟩) ∨ ∃ (by_ : Int) (k : Nat) (L : List Leg), MinA (LR t) change n from_ at_ to by_ ∧ (1 ≤ k ∧ k ≤ n) ∧ XN (LR t) change to by_ k from_ at_ ∧ FPath (LR t) change (tid t) to by_ k from_ at_ L ∧ r = ⟨L⟩ := by
  have h8 := hT.1.1
  have hR := lr_ok hT
  unfold i_firstJourney
  refine ra_ok hT hc hf at_ (by omega) fun o ho1 ho2 => .eq (gv_idx ht.1 (by omega)) ?_
  have hab := ho2 to ht.1 ht.2
  rw [Int.toNat_natCast] at hab
  revert hab
  generalize gv o to = by_
  intro hab
  refine .ite (fun h => .ok (.inl ⟨?_, rfl⟩)) fun h => ?_
  · have h : by_ = 1073741824 := by simpa using h
    rcases hab with ⟨_, h2⟩ | ⟨⟨k, h1, h2⟩, _⟩
    · exact h2
    · have := chn_lt hR hc.1 h2; omega
  have h : by_ ≠ 1073741824 := by simpa using h
  rcases hab with ⟨h2, _⟩ | hmin
  · exact absurd h2 h
  have hby : by_ ≤ 1799 := by
    obtain ⟨⟨k, h1, h2⟩, _⟩ := hmin
    have := chn_lt hR hc.1 h2; omega
  have hEA : EA (LR t) change n from_ at_ to by_ := by
    obtain ⟨⟨k, h1, h2⟩, _⟩ := hmin
    exact ⟨k, by_, h1, h2, Int.le_refl _⟩
  refine .call (P := fun v => ∃ k : Nat, v = (k : Int) ∧ (1 ≤ k ∧ k ≤ n) ∧ XN (LR t) change to by_ k from_ at_) ?_ fun v ⟨k, hv, hk, hx⟩ => ?_
  · refine .iter (fun m (v : Int) => ∃ k : Nat, v = (k : Int) ∧ m + k = n ∧ 1 ≤ k ∧ ¬ EA (LR t) change (k - 1) from_ at_ to by_) (n := n - 1) ⟨1, rfl, by omega, by omega, ?_⟩ ?_
    · rintro ⟨k, τ, h1, h2, _⟩
      have : k = 0 := by omega
      subst this; exact h2
    rintro m v ⟨k, rfl, hm, hk, hno⟩
    unfold i_firstJourney_L1
    refine ra_ok hT hc hf at_ (by omega) fun o ho1 ho2 => .eq (gv_idx ht.1 (by omega)) ?_
    have he := ab_ea hR hc.1 (ho2 to ht.1 ht.2) (by_ := by_) (by omega)
    rw [Int.toNat_natCast] at he
    refine .iteP (fun h1 => ?_) fun h1 => .dn ⟨k, rfl, ⟨hk, by omega⟩, he.1 (by omega), hno⟩
    have hno2 : ¬ EA (LR t) change k from_ at_ to by_ := fun h => by have := he.2 h; omega
    have : k ≠ n := fun e => by subst e; exact hno2 hEA
    exact .nx ⟨m - 1, by omega, k + 1, w64_succ (by omega), by omega, by omega, by simpa using hno2⟩
  · subst hv
    refine .call (P := fun L => FPath (LR t) change (tid t) to by_ k from_ at_ L) ?_ fun L hL => ?_
    · refine .iter (fun m s => ∃ j : Nat, s.1 = (j : Int) ∧ m = j ∧ j ≤ k ∧ s.2.2.2.length + j = k ∧ (j = 0 ∨ XN (LR t) change to by_ j s.2.1 s.2.2.1) ∧ ∀ rest, FPath (LR t) change (tid t) to by_ j s.2.1 s.2.2.1 rest → FPath (LR t) change (tid t) to by_ k from_ at_ (s.2.2.2 ++ rest)) (n := k) ⟨k, rfl, rfl, Nat.le_refl _, by simp, .inr hx, fun rest h => by simpa using h⟩ ?_
      rintro m ⟨v, st, rdy, out⟩ ⟨j, hv, hm, hjk, hlen, hxj, hrest⟩
      dsimp only at hv hlen hxj hrest
      subst hv; subst hm
      unfold i_firstJourney_L2
      dsimp only
      refine .iteP (fun hlt => ?_) fun hge => .dn ?_
      · obtain ⟨j, rfl⟩ : ∃ j', m = j' + 1 := ⟨m - 1, by omega⟩
        rcases hxj with hxj | hxj
        · omega
        refine .call (firstLeg_ok hT hc ht (by omega) (by omega) hxj) fun g ⟨i, d, s, r, g1, g2, g3, g4⟩ => .chk (by simp; omega) ?_
        subst g4
        have hr := hR.1 _ _ _ _ _ g2
        refine .nx ⟨j, by omega, j, by rw [w64_id (by omega)]; omega, rfl, by omega, by simp; omega, ?_, fun rest hrs => ?_⟩
        · dsimp only
          rw [w64_id (x := r + change) (by omega)]
          rcases (pk_x hR hxj g1.1 g2).2 with ⟨h0, _⟩ | ⟨_, h1⟩
          · exact .inl h0
          · exact .inr h1
        · dsimp only at hrs ⊢
          rw [w64_id (x := r + change) (by omega)] at hrs
          have := hrest (⟨tid t i, st, s, d, r⟩ :: rest) ⟨i, d, s, r, rest, g1, g2, g3, rfl, hrs⟩
          simpa using this
      · have : m = 0 := by omega
        subst this
        have := hrest [] rfl
        simpa using this
    · have hl := fpath_len hL
      exact .chk (by omega) (.ok (.inr ⟨by_, k, L, hmin, hk, hx, hL, rfl⟩))
/-- The reference's search, with so many legs left. -/
theorem extF (x : l8Search) (hT : GoodT x.t_) (hc : 0 ≤ x.change_ ∧ x.change_ ≤ 30) : ∀ (k m : Nat), 1 ≤ m → m ≤ k → m ≤ 100 → ∀ (legs : List Leg) (stop at_ : Int), (0 ≤ stop ∧ stop < (x.t_.Network.Stops.length : Int)) → legs.length + m ≤ 1000 →
    Tot (s_l8Search_extend_w_k k x legs stop at_ (m : Int)) fun out => (¬ EA (LR x.t_) x.change_ m stop at_ x.to_ x.arrive_ → out = []) ∧ ∀ (a0 w0 : Int), LLs (LR x.t_) x.change_ (tid x.t_) legs a0 w0 stop at_ → EA (LR x.t_) x.change_ m stop at_ x.to_ x.arrive_ → ¬ EA (LR x.t_) x.change_ (legs.length + m - 1) a0 w0 x.to_ x.arrive_ →
      (∀ k τ, k ≤ legs.length + m → Chn (LR x.t_) x.change_ k a0 w0 x.to_ τ → x.arrive_ ≤ τ) → ∃ L, FPath (LR x.t_) x.change_ (tid x.t_) x.to_ x.arrive_ m stop at_ L ∧ out = legs ++ L
  | 0, m, h1, h2, _, _, _, _, _, _ => by omega
  | k + 1, m, h1, h2, h3, legs, stop, at_, hst, h4 => by
    have h8 := hT.1.1
    have h12 := hT.2.1
    have hR := lr_ok hT
    -- what the rest of the search would answer
    have sub : ∀ (i : Nat) (d s r : Int), LR x.t_ i stop d s r → 1 < m → Tot (s_l8Search_extend_w_k k x (legs ++ [⟨tid x.t_ i, stop, s, d, r⟩]) s (r + x.change_) ((m - 1 : Nat) : Int)) fun out => (¬ EA (LR x.t_) x.change_ (m - 1) s (r + x.change_) x.to_ x.arrive_ → out = []) ∧ ∀ (a0 w0 : Int), LLs (LR x.t_) x.change_ (tid x.t_) (legs ++ [⟨tid x.t_ i, stop, s, d, r⟩]) a0 w0 s (r + x.change_) → EA (LR x.t_) x.change_ (m - 1) s (r + x.change_) x.to_ x.arrive_ → ¬ EA (LR x.t_) x.change_ ((legs ++ [⟨tid x.t_ i, stop, s, d, r⟩] : List Leg).length + (m - 1) - 1) a0 w0 x.to_ x.arrive_ →
        (∀ k τ, k ≤ (legs ++ [⟨tid x.t_ i, stop, s, d, r⟩] : List Leg).length + (m - 1) → Chn (LR x.t_) x.change_ k a0 w0 x.to_ τ → x.arrive_ ≤ τ) → ∃ L, FPath (LR x.t_) x.change_ (tid x.t_) x.to_ x.arrive_ (m - 1) s (r + x.change_) L ∧ out = (legs ++ [⟨tid x.t_ i, stop, s, d, r⟩]) ++ L :=
      fun i d s r hlr hm => extF x hT hc k (m - 1) (by omega) (by omega) (by omega) _ s _ (hR.1 _ _ _ _ _ hlr).2.1 (by simp; omega)
    -- what is taken, and what is then returned
    let Acc : Nat → Int → List Leg → Prop := fun i s out => (∀ g ∈ legs, g.Trip ≠ tid x.t_ i) ∧ ∃ (d r : Int), LR x.t_ i stop d s r ∧ at_ ≤ d ∧ r ≤ x.arrive_ ∧ ((m = 1 ∧ s = x.to_ ∧ r = x.arrive_ ∧ out = legs ++ [⟨tid x.t_ i, stop, s, d, r⟩]) ∨ (1 < m ∧ s_l8Search_extend_w_k k x (legs ++ [⟨tid x.t_ i, stop, s, d, r⟩]) s (r + x.change_) ((m - 1 : Nat) : Int) = some out ∧ out ≠ []))
    suffices hS : Tot (s_l8Search_extend_w_k (k + 1) x legs stop at_ (m : Int)) fun out => (out = [] ∧ ∀ i s o, ¬ Acc i s o) ∨ ∃ (i : Nat) (s : Int), Acc i s out ∧ ∀ i' s' o, (i' < i ∨ i' = i ∧ s' < s) → ¬ Acc i' s' o by
      refine hS.mono fun out hout => ⟨fun hno => ?_, fun a0 w0 hll hea hno hlow => ?_⟩
      · rcases hout with ⟨h, _⟩ | ⟨i, s, ⟨_, d, r, g1, g2, g3, g4⟩, _⟩
        · exact h
        · exfalso
          refine hno ?_
          rcases g4 with ⟨rfl, rfl, rfl, _⟩ | ⟨g4, g5, g6⟩
          · exact ⟨1, x.arrive_, Nat.le_refl _, chn_one g1 g2, Int.le_refl _⟩
          · have hs := sub i d s r g1 g4
            obtain ⟨o, q1, q2, _⟩ := hs
            rw [g5] at q1; cases q1
            by_cases he : EA (LR x.t_) x.change_ (m - 1) s (r + x.change_) x.to_ x.arrive_
            · have := ea_cons g1 g2 he
              rw [show m - 1 + 1 = m by omega] at this
              exact this
            · exact absurd (q2 he) g6
      · -- so many legs are needed from here
        have hxn : XN (LR x.t_) x.change_ x.to_ x.arrive_ m stop at_ := ⟨hea, fun h => hno (by
          have := ll_ea hll h
          rw [show legs.length + (m - 1) = legs.length + m - 1 by omega] at this
          exact this)⟩
        have accPk : ∀ i s o, Acc i s o → Pk (LR x.t_) x.change_ x.to_ x.arrive_ m stop at_ i s := by
          rintro i s o ⟨_, d, r, g1, g2, g3, g4⟩
          rcases g4 with ⟨rfl, rfl, rfl, _⟩ | ⟨g4, g5, g6⟩
          · exact ⟨d, _, g1, g2, .inl ⟨rfl, rfl, Int.le_refl _⟩⟩
          · obtain ⟨o', q1, q2, _⟩ := sub i d s r g1 g4
            rw [g5] at q1; cases q1
            refine ⟨d, r, g1, g2, .inr ⟨g4, ?_⟩⟩
            exact Classical.byContradiction fun he => g6 (q2 he)
        have pkAcc : ∀ i s, Pk (LR x.t_) x.change_ x.to_ x.arrive_ m stop at_ i s → ∃ o, Acc i s o ∧ ∀ (d r : Int), LR x.t_ i stop d s r → at_ ≤ d → ∃ L', (m = 1 → L' = []) ∧ (1 < m → FPath (LR x.t_) x.change_ (tid x.t_) x.to_ x.arrive_ (m - 1) s (r + x.change_) L') ∧ o = (legs ++ [⟨tid x.t_ i, stop, s, d, r⟩]) ++ L' := by
          rintro i s ⟨d, r, g1, g2, g3⟩
          have hrl := hR.1 _ _ _ _ _ g1
          have fin : (m - 1 = 0 ∧ s = x.to_ ∧ r ≤ x.arrive_) ∨ EA (LR x.t_) x.change_ (m - 1) s (r + x.change_) x.to_ x.arrive_ := by
            rcases g3 with ⟨e, g3⟩ | ⟨_, g3⟩
            · exact .inl ⟨by omega, g3⟩
            · exact .inr g3
          have hun : ∀ g ∈ legs, g.Trip ≠ tid x.t_ i := fun g hg he => hno (by
            have := ll_used hR hc.1 fin hll g1 g2 ⟨g, hg, he⟩ (fun i' a' d' s' r' h' he' => lr_tid hT g1 h' he')
            rw [show legs.length + (m - 1) = legs.length + m - 1 by omega] at this
            exact this)
          rcases g3 with ⟨rfl, rfl, g4⟩ | ⟨g4, g5⟩
          · have : x.arrive_ ≤ r := hlow _ _ (Nat.le_refl _) (chn_app' hll (chn_one g1 g2))
            have hre : r = x.arrive_ := by omega
            refine ⟨_, ⟨hun, d, r, g1, g2, by omega, .inl ⟨rfl, rfl, hre, rfl⟩⟩, fun d' r' q1 q2 => ⟨[], fun _ => rfl, fun h => by omega, ?_⟩⟩
            obtain ⟨rfl, rfl⟩ := hR.2.2 _ _ _ _ _ _ _ q1 g1
            simp
          · obtain ⟨o, q1, _, q2⟩ := sub i d s r g1 g4
            have hrb : r ≤ x.arrive_ := by
              obtain ⟨k', τ, e1, e2, e3⟩ := g5
              have := chn_lt hR hc.1 e2; omega
            obtain ⟨L', p1, p2⟩ := q2 a0 w0 (ll_snoc hll g1 g2) g5 (by
              rw [List.length_append, List.length_singleton, show legs.length + 1 + (m - 1) - 1 = legs.length + m - 1 by omega]; exact hno) (fun k τ hk => hlow k τ (by rw [List.length_append, List.length_singleton] at hk; omega))
            refine ⟨o, ⟨hun, d, r, g1, g2, hrb, .inr ⟨g4, q1, by rw [p2]; simp⟩⟩, fun d' r' z1 z2 => ⟨L', fun h => by omega, fun _ => ?_, ?_⟩⟩
            · obtain ⟨rfl, rfl⟩ := hR.2.2 _ _ _ _ _ _ _ z1 g1; exact p1
            · obtain ⟨rfl, rfl⟩ := hR.2.2 _ _ _ _ _ _ _ z1 g1; exact p2
        have accU : ∀ i s o o', Acc i s o → Acc i s o' → o = o' := by
          rintro i s o o' ⟨_, d, r, g1, _, _, g4⟩ ⟨_, d', r', g1', _, _, g4'⟩
          obtain ⟨rfl, rfl⟩ := hR.2.2 _ _ _ _ _ _ _ g1 g1'
          rcases g4 with ⟨_, _, _, e⟩ | ⟨_, e, _⟩ <;> rcases g4' with ⟨_, _, _, e'⟩ | ⟨_, e', _⟩
          · rw [e, e']
          · omega
          · omega
          · rw [e] at e'; exact Option.some.inj e'
        rcases hout with ⟨_, h⟩ | ⟨i, s, hacc, hfirst⟩
        · exfalso
          obtain ⟨m', rfl⟩ : ∃ m', m = m' + 1 := ⟨m - 1, by omega⟩
          obtain ⟨i, s, hp⟩ := x_pk hxn
          obtain ⟨o, ho, _⟩ := pkAcc i s hp
          exact h _ _ _ ho
        · have hp := accPk _ _ _ hacc
          obtain ⟨o, ho, hL⟩ := pkAcc i s hp
          have := accU _ _ _ _ hacc ho
          subst this
          have hfp : FPk (LR x.t_) x.change_ x.to_ x.arrive_ m stop at_ i s := ⟨hp, fun i' s' hlt hp' => by
            obtain ⟨o', ho', _⟩ := pkAcc i' s' hp'
            exact hfirst i' s' o' hlt ho'⟩
          obtain ⟨_, d, r, g1, g2, _⟩ := hacc
          obtain ⟨L', l1, l2, l3⟩ := hL d r g1 g2
          refine ⟨⟨tid x.t_ i, stop, s, d, r⟩ :: L', ?_, by rw [l3]; simp⟩
          obtain ⟨m', rfl⟩ : ∃ m', m = m' + 1 := ⟨m - 1, by omega⟩
          refine ⟨i, d, s, r, L', hfp, g1, g2, rfl, ?_⟩
          by_cases h0 : m' = 0
          · subst h0; exact l1 rfl
          · have := l2 (by omega)
            simpa using this
    -- the loops
    show Tot (s_l8Search_extend_w_F (s_l8Search_extend_w_k k) x legs stop at_ (m : Int)) _
    unfold s_l8Search_extend_w_F
    refine .flb ((Tot.iter (fun n (s : Int) => ∃ j : Nat, s = (j : Int) ∧ n + j = x.t_.Trips.length ∧ ∀ i' s' o, i' < j → ¬ Acc i' s' o) (Q := fun b => (∀ out, b = .ret out → ∃ (i : Nat) (s : Int), Acc i s out ∧ ∀ i' s' o, (i' < i ∨ i' = i ∧ s' < s) → ¬ Acc i' s' o) ∧ (b = .go () → ∀ i s o, ¬ Acc i s o)) (n := x.t_.Trips.length) ⟨0, rfl, by omega, fun i' s' o h => by omega⟩ ?_).mono fun b hb => ⟨fun r e => .inr (hb.1 r e), fun u e => .ok (.inl ⟨rfl, hb.2 e⟩)⟩)
    rintro n s ⟨j, rfl, hm, hpre⟩
    unfold s_l8Search_extend_w_L3
    refine .iteP (fun hlt => ?_) (fun hge => .dn ⟨fun r e => (by cases e), fun _ i' s' o hacc => ?_⟩)
    rotate_left
    · have hacc2 := hacc
      obtain ⟨_, d, r, ⟨y, l, p, q, hy, _⟩, _⟩ := hacc2
      have := get_lt hy
      exact hpre i' s' o (by omega) hacc
    obtain ⟨tr, hx⟩ := get_ex (l := x.t_.Trips) (i := j) (by omega)
    obtain ⟨l, hl, hp, hid, hs, _⟩ := trip_line hT hx
    obtain ⟨⟨r1, r2, r3⟩, _⟩ := line_runs hp
    have skip : (∀ s' o, ¬ Acc j s' o) → Tot (some (Lp.nx (w64 ((j : Int) + 1))) : Option (Lp Int (Fl (List Leg) Unit))) fun r => (∀ a', r = .nx a' → ∃ k', k' < n ∧ ∃ j : Nat, a' = (j : Int) ∧ k' + j = x.t_.Trips.length ∧ ∀ i' s' o, i' < j → ¬ Acc i' s' o) ∧ ∀ b, r = .dn b → (∀ out, b = .ret out → ∃ (i : Nat) (s : Int), Acc i s out ∧ ∀ i' s' o, (i' < i ∨ i' = i ∧ s' < s) → ¬ Acc i' s' o) ∧ (b = .go () → ∀ i s o, ¬ Acc i s o) := fun hno =>
      .nx ⟨n - 1, by omega, j + 1, w64_succ (by omega), by omega, fun i' s' o hi => by
        by_cases h : i' = j
        · subst h; exact hno s' o
        · exact hpre i' s' o (by omega)⟩
    refine .flb (.call (P := fun b => b = true ↔ ∃ g ∈ legs, g.Trip = tid x.t_ j) ?_ fun b1 hb1 => ?_)
    · refine .iter (fun n s => ∃ q : Nat, s.2 = (q : Int) ∧ n + q = legs.length ∧ (s.1 = true ↔ ∃ (q' : Nat) (g : Leg), q' < q ∧ legs[q']? = some g ∧ g.Trip = tid x.t_ j)) (n := legs.length) ⟨0, rfl, by omega, by simp⟩ ?_
      rintro n' ⟨b, v⟩ ⟨q, hv, hn, hb⟩
      dsimp only at hv hb
      subst hv
      unfold s_l8Search_extend_w_L1
      dsimp only
      refine .iteP (fun hc2 => .ite (fun h => .nx ⟨n' - 1, by omega, q + 1, w64_succ (by omega), by omega, ?_⟩) fun h => ?_) (fun hc2 => .dn ?_)
      · obtain ⟨q', g, g1, g2, g3⟩ := hb.1 h
        exact ⟨fun _ => ⟨q', g, by omega, g2, g3⟩, fun _ => rfl⟩
      · obtain ⟨g, hg⟩ := get_ex (l := legs) (i := q) (by omega)
        refine .eq (ixs hg) (.eq (ixs hx) (.nx ⟨n' - 1, by omega, q + 1, w64_succ (by omega), by omega, ?_⟩))
        dsimp only
        rw [tid_at hx] at hb ⊢
        constructor
        · intro h2; exact ⟨q, g, by omega, hg, by simpa using h2⟩
        · rintro ⟨q', g', g1, g2, g3⟩
          by_cases hq : q' = q
          · subst hq; rw [hg] at g2; cases g2; simpa using g3
          · have := hb.2 ⟨q', g', by omega, g2, g3⟩
            rw [h] at this; cases this
      · rw [hb]
        constructor
        · rintro ⟨q', g, _, g2, g3⟩; exact ⟨g, List.mem_of_getElem? g2, g3⟩
        · rintro ⟨g, g1, g2⟩
          obtain ⟨q', hq'⟩ := List.getElem?_of_mem g1
          have := get_lt hq'
          exact ⟨q', g, by omega, hq', g2⟩
    refine .eq (l5Line_eq hx hl) (.eq (l2Place_eq l (by omega) stop) ?_)
    have hr := fixI_rng (fun e => stop == e) l.Stops
    have hpl : ∀ (a : Nat), fixI (fun e => stop == e) l.Stops = (a : Int) → l.Stops[a]? = some stop := by
      intro a h
      obtain ⟨u, u1, u2, _⟩ := fixI_at h
      have : stop = u := by simpa using u2
      rw [this]; exact u1
    have hpl2 : ∀ (a : Nat), l.Stops[a]? = some stop → fixI (fun e => stop == e) l.Stops = (a : Int) := fun a h => (hp.2.2.1 a stop h).2
    revert hr hpl hpl2
    generalize fixI (fun e => stop == e) l.Stops = p
    intro hr hpl hpl2
    -- the times at which one could board
    have boa : ∀ d s r, LR x.t_ j stop d s r → ∃ a b : Nat, p = a ∧ a < b ∧ l.Stops[a]? = some stop ∧ l.Stops[b]? = some s ∧ d = tr.Start + (l.Runs.take a).sum ∧ r = tr.Start + (l.Runs.take b).sum := by
      rintro d s r ⟨y, l', a, b, hy, hl', hab, ha, hb, e1, e2⟩
      rw [hx] at hy; cases hy
      rw [hl] at hl'; cases hl'
      exact ⟨a, b, hpl2 a ha, hab, ha, hb, e1, e2⟩
    refine .call (P := fun b => (b = true → ∀ s' o, ¬ Acc j s' o) ∧ (b = false → (∀ g ∈ legs, g.Trip ≠ tid x.t_ j) ∧ ∃ a : Nat, p = a ∧ l.Stops[a]? = some stop ∧ at_ ≤ tr.Start + (l.Runs.take a).sum)) ?_ fun v hv => ?_
    · refine .ite (fun h => .ok ⟨fun _ s' o hacc => ?_, fun h => by cases h⟩) fun h => .iteP (fun hneg => .ok ⟨fun _ s' o hacc => ?_, fun h => by cases h⟩) fun hp0 => ?_
      · obtain ⟨g, g1, g2⟩ := hb1.1 h
        exact hacc.1 g g1 g2
      · obtain ⟨_, d, r, g1, _⟩ := hacc
        obtain ⟨a, b, e, _⟩ := boa _ _ _ g1
        omega
      · obtain ⟨a, ha⟩ : ∃ a : Nat, p = a := ⟨p.toNat, by omega⟩
        subst ha
        have hun : ∀ g ∈ legs, g.Trip ≠ tid x.t_ j := fun g g1 g2 => by rw [hb1.2 ⟨g, g1, g2⟩] at h; cases h
        refine .eq (l5At_eq hT.1 hx hl hs (k := a) (by omega)) (.ok ⟨fun h2 s' o hacc => ?_, fun h2 => ⟨hun, a, rfl, hpl a rfl, ?_⟩⟩)
        · obtain ⟨_, d, r, g1, g2, _⟩ := hacc
          obtain ⟨a', b, e, _, _, _, e1, _⟩ := boa _ _ _ g1
          have : a' = a := by omega
          subst this
          have : tr.Start + (l.Runs.take a').sum < at_ := by simpa using h2
          omega
        · have : ¬ tr.Start + (l.Runs.take a).sum < at_ := by simpa using h2
          omega
    refine .ite (fun h => .ok ⟨fun r e => (by cases e), fun u _ => skip (hv.1 h)⟩) fun h => ?_
    obtain ⟨hun, a, hpa, hsa, hda⟩ := hv.2 h
    subst hpa
    refine .eq (l5Stops_eq hx hl) (.flb ((Tot.iter (fun n (s : Int) => ∃ q : Nat, s = (q : Int) ∧ n + q = x.t_.Network.Stops.length ∧ ∀ s' o, s' < (q : Int) → ¬ Acc j s' o) (Q := fun b => (∀ r, b = .ret r → ∃ w, r = .ret (.dn (.ret w)) ∧ ∃ s, Acc j s w ∧ ∀ s' o, s' < s → ¬ Acc j s' o) ∧ (b = .go () → ∀ s' o, ¬ Acc j s' o)) (n := x.t_.Network.Stops.length) ⟨0, rfl, by omega, ?_⟩ ?_).mono fun b hb => ⟨fun r e => ?_, fun u e => .ok ⟨fun r e => (by cases e), fun u _ => skip (hb.2 e)⟩⟩))
    · rintro s' o hs' ⟨_, d, r, g1, _⟩
      have := hR.1 _ _ _ _ _ g1; omega
    · rintro n' s ⟨q, rfl, hq, hpre2⟩
      unfold s_l8Search_extend_w_L2
      refine .iteP (fun hc2 => ?_) (fun hc2 => .dn ⟨fun r e => (by cases e), fun _ s' o hacc => ?_⟩)
      rotate_left
      · have hacc2 := hacc
        obtain ⟨_, d, r, g1, _⟩ := hacc2
        have := hR.1 _ _ _ _ _ g1
        exact hpre2 s' o (by omega) hacc
      refine .flb (.eq (l5Line_eq hx hl) (.eq (l2Place_eq l (by omega) _) ?_))
      have hr5 := fixI_rng (fun e => (q : Int) == e) l.Stops
      have hq5 : ∀ (b : Nat), fixI (fun e => (q : Int) == e) l.Stops = (b : Int) → l.Stops[b]? = some (q : Int) := by
        intro b h
        obtain ⟨u, u1, u2, _⟩ := fixI_at h
        have : (q : Int) = u := by simpa using u2
        rw [this]; exact u1
      have hq6 : ∀ (b : Nat), l.Stops[b]? = some (q : Int) → fixI (fun e => (q : Int) == e) l.Stops = (b : Int) := fun b h => (hp.2.2.1 b _ h).2
      revert hr5 hq5 hq6
      generalize fixI (fun e => (q : Int) == e) l.Stops = p5
      intro hr5 hq5 hq6
      have go : (∀ o, ¬ Acc j (q : Int) o) → Tot (some (Lp.nx (w64 ((q : Int) + 1))) : Option (Lp Int (Fl (Fl (Lp Int (Fl (List Leg) Unit)) Unit) Unit))) fun r => (∀ a', r = .nx a' → ∃ k', k' < n' ∧ ∃ q : Nat, a' = (q : Int) ∧ k' + q = x.t_.Network.Stops.length ∧ ∀ s' o, s' < (q : Int) → ¬ Acc j s' o) ∧ ∀ b, r = .dn b → (∀ r, b = .ret r → ∃ w, r = .ret (.dn (.ret w)) ∧ ∃ s, Acc j s w ∧ ∀ s' o, s' < s → ¬ Acc j s' o) ∧ (b = .go () → ∀ s' o, ¬ Acc j s' o) := fun hno =>
        .nx ⟨n' - 1, by omega, q + 1, w64_succ (by omega), by omega, fun s' o hs' => by
          by_cases h : s' = (q : Int)
          · subst h; exact hno o
          · exact hpre2 s' o (by omega)⟩
      have lrq : ∀ d r, LR x.t_ j stop d (q : Int) r → ∃ b : Nat, p5 = b ∧ a < b ∧ d = tr.Start + (l.Runs.take a).sum ∧ r = tr.Start + (l.Runs.take b).sum := by
        intro d r h
        obtain ⟨a', b, e1, e2, e3, e4, e5, e6⟩ := boa _ _ _ h
        have : a' = a := by omega
        subst this
        exact ⟨b, hq6 b e4, e2, e5, e6⟩
      refine .call (P := fun b => (b = true → ∀ o, ¬ Acc j (q : Int) o) ∧ (b = false → ∃ b' : Nat, p5 = b' ∧ a < b' ∧ l.Stops[b']? = some (q : Int) ∧ tr.Start + (l.Runs.take b').sum ≤ x.arrive_)) ?_ fun v hv => ?_
      · refine .iteP (fun h5 => .ok ⟨fun _ o hacc => ?_, fun h => by cases h⟩) fun h5 => .iteP (fun h6 => .ok ⟨fun _ o hacc => ?_, fun h => by cases h⟩) fun h6 => ?_
        · obtain ⟨_, d, r, g1, _⟩ := hacc
          obtain ⟨b, e1, e2, _⟩ := lrq _ _ g1
          omega
        · obtain ⟨_, d, r, g1, _⟩ := hacc
          obtain ⟨b, e1, e2, _⟩ := lrq _ _ g1
          have := get_lt (hq5 b e1)
          omega
        · obtain ⟨b, hb⟩ : ∃ b : Nat, p5 = b := ⟨p5.toNat, by omega⟩
          subst hb
          refine .eq (l5At_eq hT.1 hx hl hs (k := b) (by omega)) (.ok ⟨fun h7 o hacc => ?_, fun h7 => ⟨b, rfl, by omega, hq5 b rfl, ?_⟩⟩)
          · obtain ⟨_, d, r, g1, _, g3, _⟩ := hacc
            obtain ⟨b', e1, e2, _, e4⟩ := lrq _ _ g1
            have : b' = b := by omega
            subst this
            have : x.arrive_ < tr.Start + (l.Runs.take b').sum := by simpa using h7
            omega
          · have : ¬ x.arrive_ < tr.Start + (l.Runs.take b).sum := by simpa using h7
            omega
      refine .ite (fun h => .ok ⟨fun r e => (by cases e), fun u _ => go (hv.1 h)⟩) fun h => ?_
      obtain ⟨b, hpb, hab, hsb, hrb⟩ := hv.2 h
      subst hpb
      have hlr : LR x.t_ j stop (tr.Start + (l.Runs.take a).sum) (q : Int) (tr.Start + (l.Runs.take b).sum) := ⟨tr, l, a, b, hx, hl, hab, hsa, hsb, rfl, rfl⟩
      have hrr := hR.1 _ _ _ _ _ hlr
      have got : ∀ w, Acc j (q : Int) w → ∃ w', (Fl.ret (Lp.dn (Fl.ret w)) : Fl (Lp Int (Fl (List Leg) Unit)) Unit) = .ret (.dn (.ret w')) ∧ ∃ s, Acc j s w' ∧ ∀ s' o, s' < s → ¬ Acc j s' o := fun w hw => ⟨w, rfl, q, hw, hpre2⟩
      rw [← tid_at hx] at *
      have hleg := l8Leg_ok hT hx hl hsa hsb
      rw [← tid_at hx] at hleg
      refine .eq hleg (.chk (by simp; omega) (.chk (by simp; omega) (.ite (fun hone => ?_) fun hone => ?_)))
      · have hm1 : m = 1 := by
          have : (m : Int) = 1 := by simpa using hone
          omega
        refine .call (P := fun b' => b' = true ↔ ((q : Int) = x.to_ ∧ tr.Start + (l.Runs.take b).sum = x.arrive_)) (.ite (fun h1 => .ok ?_) fun h1 => .ok ?_) fun v3 hv3 => .ite (fun h3 => .ok ⟨fun r e => ?_, fun u e => (by cases e)⟩) fun h3 => .ok ⟨fun r e => (by cases e), fun u _ => go fun o hacc => ?_⟩
        · have : (q : Int) = x.to_ := by simpa using h1
          simp [this]
        · have : ¬ (q : Int) = x.to_ := by simpa using h1
          simp [this]
        · cases e
          refine ⟨fun a' e => (by cases e), fun b' e => ?_⟩
          cases e
          refine ⟨fun r e => (by cases e; exact got _ ⟨hun, _, _, hlr, hda, hrb, .inl ⟨hm1, (hv3.1 h3).1, (hv3.1 h3).2, by simp⟩⟩), fun e => by cases e⟩
        · obtain ⟨_, d, r, g1, g2, g3, g4⟩ := hacc
          obtain ⟨rfl, rfl⟩ := hR.2.2 _ _ _ _ _ _ _ g1 hlr
          rcases g4 with ⟨_, e1, e2, _⟩ | ⟨e1, _⟩
          · have := hv3.2 ⟨e1, e2⟩; rw [h3] at this; cases this
          · omega
      · have hm1 : 1 < m := by
          have : ¬ (m : Int) = 1 := by simpa using hone
          omega
        have ew : w64 ((m : Int) - 1) = ((m - 1 : Nat) : Int) := by rw [w64_id (by omega)]; omega
        have ew2 : w64 (tr.Start + (l.Runs.take b).sum + x.change_) = tr.Start + (l.Runs.take b).sum + x.change_ := w64_id (by omega)
        obtain ⟨out, ho, _⟩ := sub j _ _ _ hlr hm1
        dsimp only
        rw [ew, ew2, List.nil_append]
        refine .eq ho (.iteP (fun hpos => .ok ⟨fun r e => ?_, fun u e => (by cases e)⟩) fun hz => .ok ⟨fun r e => (by cases e), fun u _ => go fun o hacc => ?_⟩)
        · cases e
          refine ⟨fun a' e => (by cases e), fun b' e => ?_⟩
          cases e
          refine ⟨fun r e => (by cases e; exact got _ ⟨hun, _, _, hlr, hda, hrb, .inr ⟨hm1, ho, fun e => by subst e; simp at hpos⟩⟩), fun e => by cases e⟩
        · obtain ⟨_, d, r, g1, g2, g3, g4⟩ := hacc
          obtain ⟨rfl, rfl⟩ := hR.2.2 _ _ _ _ _ _ _ g1 hlr
          rcases g4 with ⟨e1, _⟩ | ⟨_, e1, e2⟩
          · omega
          · rw [ho] at e1; cases e1
            have : out.length ≠ 0 := fun h => e2 (List.length_eq_zero_iff.1 h)
            omega
    · obtain ⟨w, rfl, s, hs1, hs2⟩ := hb.1 r e
      refine ⟨fun r' e' => ?_, fun u e' => by cases e'⟩
      cases e'
      refine ⟨fun a' e => (by cases e), fun b' e => ?_⟩
      cases e
      exact ⟨fun out e => (by cases e; exact ⟨j, s, hs1, fun i' s' o hlt => by
        rcases hlt with hq | ⟨hq1, hq2⟩
        · exact hpre i' s' o hq
        · subst hq1; exact hs2 s' o hq2⟩), fun e => by cases e⟩
/-! The best arrival; journeys that are found are journeys; what is asked. -/
theorem ab_ex {t : Timetable} (hT : GoodT t) {change : Int} (hc : 0 ≤ change ∧ change ≤ 30) {a c : Int} (ha : 0 ≤ a ∧ a < (t.Network.Stops.length : Int)) (h : 0 ≤ c ∧ c < (t.Network.Stops.length : Int)) (w : Int) {n : Nat} (hn : n ≤ 1000) : ∃ v, AB (LR t) change n a w c v := by
  obtain ⟨o, _, _, h2⟩ := arr_ok hT hc ha (w := w) n hn
  exact ⟨_, h2 c h.1 h.2⟩
/-- The earliest arrival with at most so many legs. -/
noncomputable def bA (t : Timetable) (change a w c : Int) (n : Nat) : Int := Classical.epsilon fun v => AB (LR t) change n a w c v
theorem bA_ab {t : Timetable} (hT : GoodT t) {change : Int} (hc : 0 ≤ change ∧ change ≤ 30) {a c : Int} (ha : 0 ≤ a ∧ a < (t.Network.Stops.length : Int)) (h : 0 ≤ c ∧ c < (t.Network.Stops.length : Int)) (w : Int) {n : Nat} (hn : n ≤ 1000) : AB (LR t) change n a w c (bA t change a w c n) := Classical.epsilon_spec (ab_ex hT hc ha h w hn)
theorem ab_mono {R : Nat → Int → Int → Int → Int → Prop} {ch N : Int} (hR : LegsOK R N) (hc : 0 ≤ ch) {n m : Nat} {a w c s s' : Int} (h : AB R ch n a w c s) (h' : AB R ch m a w c s') (hnm : n ≤ m) : s' ≤ s := by
  rcases h with ⟨h1, h2⟩ | ⟨⟨k, h1, h2⟩, h3⟩
  · have := ab_lt hR hc h'; omega
  · rcases h' with ⟨g1, g2⟩ | ⟨g1, g2⟩
    · exact absurd h2 (g2 _ _ (by omega))
    · exact g2 _ _ (by omega) h2
theorem ab_zero {R : Nat → Int → Int → Int → Int → Prop} {ch : Int} {a w c s : Int} (h : AB R ch 0 a w c s) : s = 1073741824 := by
  rcases h with ⟨h1, _⟩ | ⟨⟨k, h1, h2⟩, _⟩
  · exact h1
  · have : k = 0 := by omega
    subst this; exact h2.elim
/-- Legs that lead on are legs of trips, each behind the one before it. -/
theorem ll_fill {t : Timetable} (hT : GoodT t) {change : Int} : ∀ {L : List Leg} {a w b w' : Int}, LLs (LR t) change (tid t) L a w b w' → ∀ (i : Nat) g, L[i]? = some g → FillP t g
  | [], _, _, _, _, _, i, g, h => by simp at h
  | g0 :: L, a, w, b, w', ⟨k, d, s, r, h1, h2, h3, h4⟩, 0, g, h => by
    simp at h
    subst h; subst h3
    obtain ⟨x, l, p, q, hx, hl, hrest⟩ := h1
    have hlr : LR t k a d s r := ⟨x, l, p, q, hx, hl, hrest⟩
    refine ⟨k, x, l, hx, hl, (tid_at hx).symm, ?_⟩
    rcases fl_lr hT hx hl a s with ⟨_, hno⟩ | ⟨d', r', g1, g2⟩
    · exact absurd hlr (hno d r)
    · obtain ⟨rfl, rfl⟩ := (lr_ok hT).2.2 _ _ _ _ _ _ _ g1 hlr
      exact g2
  | g0 :: L, a, w, b, w', ⟨k, d, s, r, h1, h2, h3, h4⟩, i + 1, g, h => ll_fill hT h4 i g (by simpa using h)
theorem ll_ord {R : Nat → Int → Int → Int → Int → Prop} {ch : Int} {tid : Nat → Int} : ∀ {L : List Leg} {a w b w' : Int}, LLs R ch tid L a w b w' → ∀ (i : Nat) p g, L[i]? = some p → L[i + 1]? = some g → p.To = g.From ∧ p.Arrive + ch ≤ g.Depart
  | [], _, _, _, _, _, i, p, g, h, _ => by simp at h
  | g0 :: [], a, w, b, w', _, i, p, g, _, h => by simp at h
  | g0 :: g1 :: L, a, w, b, w', ⟨k, d, s, r, h1, h2, h3, ⟨k', d', s', r', h4, h5, h6, h7⟩⟩, 0, p, g, hp, hg => by
    simp at hp hg
    subst hp; subst hg; subst h3; subst h6
    exact ⟨rfl, h5⟩
  | g0 :: g1 :: L, a, w, b, w', ⟨k, d, s, r, h1, h2, h3, h4⟩, i + 1, p, g, hp, hg => ll_ord h4 i p g (by simpa using hp) (by simpa using hg)
/-- What is asked. -/
def PairP (t : Timetable) (change from_ to : Int) : Prop := (GoodT t ∧ 0 ≤ change ∧ change ≤ 30) ∧ (0 ≤ from_ ∧ from_ < (t.Network.Stops.length : Int)) ∧ (0 ≤ to ∧ to < (t.Network.Stops.length : Int)) ∧ from_ ≠ to
noncomputable instance (t : Timetable) (change from_ to : Int) : Decidable (PairP t change from_ to) := Classical.propDecidable _
theorem isPair_eq {t : Timetable} (hb : TB t) (change from_ to : Int) : i_isPair t change from_ to = some (decide (PairP t change from_ to)) := by
  unfold i_isPair i_isChange
  simp only [validT_eq hb, within_eq, isStop_eq, Option.bind_some]
  by_cases h1 : GoodT t <;> by_cases h2 : 0 ≤ change ∧ change ≤ 30 <;> by_cases h3 : 0 ≤ from_ ∧ from_ < (t.Network.Stops.length : Int) <;> by_cases h4 : 0 ≤ to ∧ to < (t.Network.Stops.length : Int) <;> by_cases h5 : from_ = to <;> simp [PairP, h1, h2, h3, h4, h5]
def FromP (t : Timetable) (change from_ at_ : Int) : Prop := (GoodT t ∧ 0 ≤ change ∧ change ≤ 30) ∧ (0 ≤ from_ ∧ from_ < (t.Network.Stops.length : Int)) ∧ 0 ≤ at_ ∧ at_ ≤ 1799
noncomputable instance (t : Timetable) (change from_ at_ : Int) : Decidable (FromP t change from_ at_) := Classical.propDecidable _
theorem isFrom_eq {t : Timetable} (hb : TB t) (change from_ at_ : Int) : i_isFrom t change from_ at_ = some (decide (FromP t change from_ at_)) := by
  unfold i_isFrom i_isChange
  simp only [validT_eq hb, within_eq, isStop_eq, time_eq, Option.bind_some]
  by_cases h1 : GoodT t <;> by_cases h2 : 0 ≤ change ∧ change ≤ 30 <;> by_cases h3 : 0 ≤ from_ ∧ from_ < (t.Network.Stops.length : Int) <;> by_cases h4 : 0 ≤ at_ ∧ at_ ≤ 1799 <;> simp [FromP, h1, h2, h3, h4]
theorem l8From_eq {t : Timetable} (hb : TB t) (change from_ at_ : Int) : s_l8From t change from_ at_ = some (decide (FromP t change from_ at_)) := by
  have hl := hb.1.1
  have ew : w64 ((t.Network.Stops.length : Int) - 1) = (t.Network.Stops.length : Int) - 1 := w64_id (by omega)
  have e3 : (0 ≤ from_ ∧ from_ ≤ (t.Network.Stops.length : Int) - 1) ↔ (0 ≤ from_ ∧ from_ < (t.Network.Stops.length : Int)) := by omega
  unfold s_l8From
  simp only [asked_eq hb, l1In_eq, ew, l4Time_eq, Option.bind_some, e3]
  by_cases h1 : GoodT t ∧ 0 ≤ change ∧ change ≤ 30 <;> by_cases h3 : 0 ≤ from_ ∧ from_ < (t.Network.Stops.length : Int) <;> by_cases h4 : 0 ≤ at_ ∧ at_ ≤ 1799 <;> simp [FromP, h1, h3, h4]
theorem l8Pair_eq {t : Timetable} (hb : TB t) (change from_ to at_ : Int) : s_l8Pair t change from_ to at_ = some (decide (PairP t change from_ to ∧ 0 ≤ at_ ∧ at_ ≤ 1799)) := by
  have hl := hb.1.1
  have ew : w64 ((t.Network.Stops.length : Int) - 1) = (t.Network.Stops.length : Int) - 1 := w64_id (by omega)
  have e3 : (0 ≤ to ∧ to ≤ (t.Network.Stops.length : Int) - 1) ↔ (0 ≤ to ∧ to < (t.Network.Stops.length : Int)) := by omega
  unfold s_l8Pair
  simp only [l8From_eq hb, l1In_eq, ew, Option.bind_some, e3]
  by_cases h1 : GoodT t ∧ 0 ≤ change ∧ change ≤ 30 <;> by_cases h3 : 0 ≤ from_ ∧ from_ < (t.Network.Stops.length : Int) <;> by_cases h4 : 0 ≤ at_ ∧ at_ ≤ 1799 <;> by_cases h5 : 0 ≤ to ∧ to < (t.Network.Stops.length : Int) <;> by_cases h6 : from_ = to <;> simp [FromP, PairP, h1, h3, h4, h5, h6]
/-- A path that is the first one, all of whose legs are needed: a journey that arrives when it should. -/
theorem path_journey {t : Timetable} (hT : GoodT t) {change : Int} (hc : 0 ≤ change ∧ change ≤ 30) {a w to by_ : Int} {k : Nat} (hk : 1 ≤ k ∧ k ≤ 4) {L : List Leg} (hx : XN (LR t) change to by_ k a w) (hF : FPath (LR t) change (tid t) to by_ k a w L) (hlow : ∀ τ, Chn (LR t) change k a w to τ → by_ ≤ τ) :
    ValidJ t change L ∧ L.length = k ∧ (∃ g, L[0]? = some g ∧ g.From = a ∧ w ≤ g.Depart) ∧ ∃ g, L[k - 1]? = some g ∧ g.Arrive = by_ ∧ g.To = to := by
  have hR := lr_ok hT
  have hlen := fpath_len hF
  obtain ⟨n, rfl⟩ : ∃ n, k = n + 1 := ⟨k - 1, by omega⟩
  obtain ⟨M, i, b, d, r, w', m1, m2, m3, m4, m5, m6⟩ := fpath_ll hR hx hF
  have hll := ll_snoc m1 m2 m3
  rw [← m5] at hll
  have hr : by_ ≤ r := hlow r (by
    have := chn_app' m1 (chn_one m2 m3)
    rw [m6] at this; exact this)
  have hap := ll_apart hR hc.1 (k := 0) (c := to) (by_ := by_) (fun i' a' d' s' r' i a d s r h h' he => lr_tid hT h' h he) hll (.inl ⟨rfl, rfl, r, rfl, m4⟩) (by rw [hlen]; exact hx.2)
  refine ⟨⟨⟨hT, hc⟩, ⟨by omega, by omega⟩, fun j g hg => ⟨ll_fill hT hll j g hg, ?_, ?_⟩⟩, hlen, ?_, ⟨_, by rw [m5, List.getElem?_append_right (by omega), show n + 1 - 1 - M.length = 0 by omega]; rfl, by show r = by_; omega, rfl⟩⟩
  · intro p hj hp
    obtain ⟨q1, q2⟩ := ll_ord hll (j - 1) p g hp (by rw [show j - 1 + 1 = j by omega]; exact hg)
    have := leg_rng hT (ll_fill hT hll (j - 1) p hp)
    refine ⟨q1, ?_⟩
    rw [w64_id (by omega)]; omega
  · intro j' p hj' hp
    obtain ⟨h1, e1⟩ := List.getElem?_eq_some_iff.1 hp
    obtain ⟨h2, e2⟩ := List.getElem?_eq_some_iff.1 hg
    have := List.pairwise_iff_getElem.1 hap j' j h1 h2 hj'
    rw [e1, e2] at this; exact this
  · obtain ⟨i', d', s', r', L', f1, f2, f3, f4, f5⟩ := hF
    exact ⟨_, by rw [f4]; rfl, rfl, f3⟩
/-! What is drawn; all earliest arrivals; the search from the beginning. -/
theorem t_timeR {k : Nat} {c : l1Cur} (h : Cur k c) (hk : k ≤ 2000000000) : Tot (s_l1Cur_time c) fun r => Cur (k + 4) r.2 ∧ -1000 ≤ r.1 ∧ r.1 ≤ 5000 := by
  unfold s_l1Cur_time
  refine Tot.call (t_one 16 h (by omega)) fun r hr => .ite (fun _ => ?_) (fun _ => ?_)
  · refine Tot.call (t_among _ (by simp) hr (by omega)) fun r hr => .ok ⟨hr.1, ?_⟩
    have := hr.2
    simp at this
    dsimp only
    omega
  · refine Tot.call (t_pick 240 hr (by omega)) fun r hr => .ok ⟨hr.1, ?_⟩
    dsimp only
    rw [w64_id (by omega)]; omega
theorem query_ok {k : Nat} {c : l1Cur} (h : Cur k c) (hk : k ≤ 100000) : Tot (s_l1Cur_query c) fun r => TB r.1 ∧ (-1000 ≤ r.2.2.2.2.1 ∧ r.2.2.2.2.1 ≤ 5000) ∧ Cur (k + 4000) r.2.2.2.2.2 := by
  unfold s_l1Cur_query
  refine .call (trips_ok h (by omega)) fun r ⟨hc, hd⟩ => ?_
  have hN := hd.1.1
  refine .call (P := fun o => Cur (k + 3010) ⟨o.2.1, o.2.2.1, ⟨o.2.2.2⟩⟩ ∧ (o.1 = false → 2 ≤ r.1.Network.Stops.length)) (.iteP (fun _ => .ok ⟨hc.mono (by omega), fun h => by cases h⟩) fun h2 => .call (t_one 10 hc (by omega)) fun r1 h1 => .ok ⟨h1.mono (by omega), fun _ => by omega⟩) fun ⟨v, v1, v2, v3⟩ ⟨hc2, hz⟩ => ?_
  dsimp only at hc2 hz ⊢
  refine .ite (fun _ => ?_) fun hf => ?_
  · refine .call (change_ok hc2 (by omega)) fun r6 h6 => .call (t_pick 8 h6 (by omega)) fun r7 ⟨h7, _⟩ => .call (t_pick 8 h7 (by omega)) fun r8 ⟨h8, _⟩ => .call (t_timeR h8 (by omega)) fun r9 ⟨h9, h10⟩ => .ok ⟨hd.tb, h10, h9.mono (by omega)⟩
  · have h2 := hz hf
    refine .call (t_pick _ hc2 (by omega)) fun r10 ⟨h10, _⟩ => .call (change_ok h10 (by omega)) fun r14 h14 => .call (t_pick _ h14 (by omega)) fun r15 ⟨h15, _⟩ => .chk (by omega) (.call (t_pick 12 h15 (by omega)) fun r16 ⟨h16, a1, a2⟩ => .ok ⟨hd.tb, ?_, h16.mono (by omega)⟩)
    dsimp only
    rw [w64_id (x := 5 * r16.1) (by omega), w64_id (by omega)]
    omega
theorem eArr_ok {t : Timetable} (hb : TB t) {change from_ at_ : Int} (h : FromP t change from_ at_) : Tot (i_EarliestArrivals t change from_ at_) fun r => r.2 = true ∧ r.1.length = t.Network.Stops.length ∧ gv r.1 from_ = at_ ∧ ∀ s, 0 ≤ s → s < (t.Network.Stops.length : Int) → s ≠ from_ → gv r.1 s = if bA t change from_ at_ s 4 = 1073741824 then -1 else bA t change from_ at_ s 4 := by
  obtain ⟨⟨hT, hc⟩, hf, ha⟩ := h
  have h8 := hT.1.1
  unfold i_EarliestArrivals i_earliestArrivals
  rw [isFrom_eq hb, show decide (FromP t change from_ at_) = true from decide_eq_true ⟨⟨hT, hc⟩, hf, ha⟩]
  refine .eq rfl (.ite (fun h => (by cases h)) fun _ => .call (P := fun r => r.length = t.Network.Stops.length ∧ gv r from_ = at_ ∧ ∀ s, 0 ≤ s → s < (t.Network.Stops.length : Int) → s ≠ from_ → gv r s = if bA t change from_ at_ s 4 = 1073741824 then -1 else bA t change from_ at_ s 4) ?_ fun r hr => .ok ⟨rfl, hr⟩)
  refine ra_ok hT hc hf at_ (by omega) fun o ho1 ho2 => ?_
  have hbA : ∀ s, 0 ≤ s → s < (t.Network.Stops.length : Int) → gv o s = bA t change from_ at_ s 4 := fun s s0 s1 => ab_uniq (ho2 s s0 s1) (bA_ab hT hc hf ⟨s0, s1⟩ at_ (by omega))
  refine .call (P := fun v3 => v3.length = t.Network.Stops.length ∧ ∀ s, 0 ≤ s → s < (t.Network.Stops.length : Int) → gv v3 s = if gv o s = 1073741824 then -1 else gv o s) ?_ fun v3 ⟨h1, h2⟩ => .eq (gv_idx hf.1 (by omega)) (.ok ⟨by rw [List.length_set]; exact h1, by rw [gv_set hf.1 (by omega) _ _ hf.1, if_pos rfl], fun s s0 s1 hs => by rw [gv_set hf.1 (by omega) _ _ s0, if_neg hs, h2 s s0 s1, hbA s s0 s1]⟩)
  refine .iter (fun m s => ∃ j : Nat, s.1 = (j : Int) ∧ m + j = t.Network.Stops.length ∧ s.2.length = t.Network.Stops.length ∧ ∀ u, 0 ≤ u → u < (t.Network.Stops.length : Int) → gv s.2 u = if u < (j : Int) ∧ gv o u = 1073741824 then -1 else gv o u) (n := t.Network.Stops.length) ⟨0, rfl, by omega, ho1, fun u u0 _ => by rw [if_neg (by omega)]⟩ ?_
  rintro m ⟨v, l⟩ ⟨j, hv, hm, hlen, hI⟩
  dsimp only at hv hlen hI
  subst hv
  unfold i_earliestArrivals_L1
  dsimp only
  refine .iteP (fun hlt => ?_) (fun hge => .dn ⟨hlen, fun s s0 s1 => ?_⟩)
  · have e := hI j (by omega) (by omega)
    rw [if_neg (by omega)] at e
    refine .call (P := fun l' => l'.length = t.Network.Stops.length ∧ ∀ u, 0 ≤ u → u < (t.Network.Stops.length : Int) → gv l' u = if u < ((j + 1 : Nat) : Int) ∧ gv o u = 1073741824 then -1 else gv o u) (.eq (gv_idx (by omega) (by omega)) ?_) fun l' ⟨z1, z2⟩ => .nx ⟨m - 1, by omega, j + 1, w64_succ (by omega), by omega, z1, z2⟩
    rw [e]
    refine .ite (fun h => .eq (gv_idx (by omega) (by omega)) (.ok ⟨by rw [List.length_set]; exact hlen, fun u u0 u1 => ?_⟩)) fun h => .ok ⟨hlen, fun u u0 u1 => ?_⟩
    · have h : gv o j = 1073741824 := by simpa using h
      rw [gv_set (by omega) (by omega) _ _ u0, hI u u0 u1]
      by_cases hu : u = j
      · subst hu; rw [if_pos rfl, if_pos ⟨by omega, h⟩]
      · rw [if_neg hu]
        by_cases h3 : u < (j : Int) ∧ gv o u = 1073741824
        · rw [if_pos h3, if_pos ⟨by omega, h3.2⟩]
        · rw [if_neg h3, if_neg (by omega)]
    · have h : gv o j ≠ 1073741824 := by simpa using h
      rw [hI u u0 u1]
      by_cases h3 : u < (j : Int) ∧ gv o u = 1073741824
      · rw [if_pos h3, if_pos ⟨by omega, h3.2⟩]
      · rw [if_neg h3, if_neg (fun h4 => by
          by_cases hu : u = j
          · subst hu; exact h h4.2
          · exact h3 ⟨by omega, h4.2⟩)]
  · rw [hI s s0 s1]
    by_cases h3 : gv o s = 1073741824
    · rw [if_pos ⟨by omega, h3⟩, if_pos h3]
    · rw [if_neg (fun h => h3 h.2), if_neg h3]
/-- The reference's arrival. -/
theorem sarr_bA {t : Timetable} (hT : GoodT t) {change : Int} (hc : 0 ≤ change ∧ change ≤ 30) {a c : Int} (ha : 0 ≤ a ∧ a < (t.Network.Stops.length : Int)) (h : 0 ≤ c ∧ c < (t.Network.Stops.length : Int)) (hne : c ≠ a) {w : Int} (hw : 0 ≤ w ∧ w ≤ 10000) {n : Int} (hn : 0 ≤ n ∧ n ≤ 1000) {β : Type} {k : List Int → Option β} {Q : β → Prop}
    (hk : ∀ o : List Int, o.length = t.Network.Stops.length → idx o c = some (if bA t change a w c n.toNat = 1073741824 then -1 else bA t change a w c n.toNat) → Tot (k o) Q) : Tot ((s_l8Arrivals t change a w n).bind k) Q := by
  obtain ⟨m, rfl⟩ : ∃ m : Nat, n = m := ⟨n.toNat, by omega⟩
  refine .call (sarr_ok hT hc ha hw m (by omega)) fun o ⟨h1, h2⟩ => hk o h1 ?_
  rw [gv_idx h.1 (by omega), sarr_ab hT hc h2 h.1 h.2 hne (bA_ab hT hc ha h w (by omega)), Int.toNat_natCast]
theorem bA_mono {t : Timetable} (hT : GoodT t) {change : Int} (hc : 0 ≤ change ∧ change ≤ 30) {a c : Int} (ha : 0 ≤ a ∧ a < (t.Network.Stops.length : Int)) (h : 0 ≤ c ∧ c < (t.Network.Stops.length : Int)) (w : Int) {n m : Nat} (hm : m ≤ 1000) (hnm : n ≤ m) : bA t change a w c m ≤ bA t change a w c n :=
  ab_mono (lr_ok hT) hc.1 (bA_ab hT hc ha h w (by omega)) (bA_ab hT hc ha h w hm) hnm
theorem bA_rng {t : Timetable} (hT : GoodT t) {change : Int} (hc : 0 ≤ change ∧ change ≤ 30) {a c : Int} (ha : 0 ≤ a ∧ a < (t.Network.Stops.length : Int)) (h : 0 ≤ c ∧ c < (t.Network.Stops.length : Int)) (w : Int) {n : Nat} (hn : n ≤ 1000) : bA t change a w c n = 1073741824 ∨ (w < bA t change a w c n ∧ bA t change a w c n ≤ 1799 ∧ 0 ≤ bA t change a w c n) := ab_lt (lr_ok hT) hc.1 (bA_ab hT hc ha h w hn)
theorem bA_min {t : Timetable} (hT : GoodT t) {change : Int} (hc : 0 ≤ change ∧ change ≤ 30) {a c : Int} (ha : 0 ≤ a ∧ a < (t.Network.Stops.length : Int)) (h : 0 ≤ c ∧ c < (t.Network.Stops.length : Int)) (w : Int) {n : Nat} (hn : n ≤ 1000) (hne : bA t change a w c n ≠ 1073741824) : MinA (LR t) change n a w c (bA t change a w c n) := by
  rcases bA_ab hT hc ha h w hn with ⟨h1, _⟩ | h1
  · exact absurd h1 hne
  · exact h1
/-- The reference's first journey with so many legs. -/
theorem sfirst_ok {t : Timetable} (hT : GoodT t) {change : Int} (hc : 0 ≤ change ∧ change ≤ 30) {from_ to : Int} (hf : 0 ≤ from_ ∧ from_ < (t.Network.Stops.length : Int)) {at_ by_ : Int} {n : Int} (hn : 1 ≤ n ∧ n ≤ 100) (hx : XN (LR t) change to by_ n.toNat from_ at_) (hlow : ∀ k τ, k ≤ n.toNat → Chn (LR t) change k from_ at_ to τ → by_ ≤ τ) :
    Tot (s_l8First t change from_ to at_ by_ n) fun out => FPath (LR t) change (tid t) to by_ n.toNat from_ at_ out := by
  obtain ⟨m, rfl⟩ : ∃ m : Nat, n = m := ⟨n.toNat, by omega⟩
  rw [Int.toNat_natCast] at *
  unfold s_l8First
  rw [ext_eq]
  refine .call (extF ⟨t, change, to, by_⟩ hT hc 4294967297 m (by omega) (by omega) (by omega) [] from_ at_ hf (by simp; omega)) fun r ⟨_, hr⟩ => ?_
  obtain ⟨L, h1, h2⟩ := hr from_ at_ ⟨rfl, rfl⟩ hx.1 (by simpa using hx.2) (fun k τ hk => hlow k τ (by simpa using hk))
  refine .ok ?_
  rw [h2]; exact h1
/-! FnPareto. -/
def El (t : Timetable) (change a w to : Int) (k : Nat) (L : List Leg) : Prop := (bA t change a w to k ≠ 1073741824 ∧ XN (LR t) change to (bA t change a w to k) k a w) ∧ FPath (LR t) change (tid t) to (bA t change a w to k) k a w L
def PL (t : Timetable) (change a w to : Int) : Nat → List (List Leg) → Prop
  | 0, out => out = []
  | k + 1, out => (bA t change a w to (k + 1) < bA t change a w to k ∧ ∃ o L, PL t change a w to k o ∧ El t change a w to (k + 1) L ∧ out = o ++ [L]) ∨ (¬ bA t change a w to (k + 1) < bA t change a w to k ∧ PL t change a w to k out)
theorem pl_uniq {t : Timetable} (hT : GoodT t) {change a w to : Int} : ∀ {k : Nat} {o o' : List (List Leg)}, PL t change a w to k o → PL t change a w to k o' → o = o'
  | 0, _, _, h, h' => by rw [show _ = _ from h, show _ = _ from h']
  | k + 1, o, o', h, h' => by
    rcases h with ⟨h1, p, L, h2, h3, h4⟩ | ⟨h1, h2⟩ <;> rcases h' with ⟨g1, p', L', g2, g3, g4⟩ | ⟨g1, g2⟩
    · rw [h4, g4, pl_uniq hT h2 g2, fpath_uniq (lr_ok hT) h3.2 g3.2]
    · exact absurd h1 g1
    · exact absurd g1 h1
    · exact pl_uniq hT h2 g2
theorem pl_len {t : Timetable} {change a w to : Int} : ∀ {k : Nat} {o : List (List Leg)}, PL t change a w to k o → o.length ≤ k
  | 0, _, h => by rw [show _ = _ from h]; simp
  | k + 1, o, h => by
    rcases h with ⟨h1, p, L, h2, h3, h4⟩ | ⟨h1, h2⟩
    · have := pl_len h2; rw [h4]; simp; omega
    · have := pl_len h2; omega
/-- What is in the list. -/
theorem pl_props {t : Timetable} (hT : GoodT t) {change : Int} (hc : 0 ≤ change ∧ change ≤ 30) {a to : Int} (ha : 0 ≤ a ∧ a < (t.Network.Stops.length : Int)) (ht : 0 ≤ to ∧ to < (t.Network.Stops.length : Int)) (w : Int) : ∀ {k : Nat} {o : List (List Leg)}, k ≤ 4 → PL t change a w to k o →
    (∀ (i : Nat) L, o[i]? = some L → ∃ j, j ≤ k ∧ 1 ≤ j ∧ El t change a w to j L) ∧ (∀ (i : Nat) L L', o[i]? = some L → o[i + 1]? = some L' → ∃ j j', j < j' ∧ j' ≤ k ∧ 1 ≤ j ∧ El t change a w to j L ∧ El t change a w to j' L' ∧ bA t change a w to j' < bA t change a w to j) ∧
    ((o = [] ∧ bA t change a w to k = 1073741824) ∨ ∃ p L j, o = p ++ [L] ∧ j ≤ k ∧ 1 ≤ j ∧ El t change a w to j L ∧ bA t change a w to j = bA t change a w to k)
  | 0, o, _, h => by
    rw [show o = [] from h]
    exact ⟨by simp, by simp, .inl ⟨rfl, ab_zero (bA_ab hT hc ha ht w (by omega))⟩⟩
  | k + 1, o, hk, h => by
    rcases h with ⟨h1, p, L, h2, h3, rfl⟩ | ⟨h1, h2⟩
    · obtain ⟨q1, q2, q3⟩ := pl_props hT hc ha ht w (by omega) h2
      refine ⟨fun i M hM => ?_, fun i M M' hM hM' => ?_, .inr ⟨p, L, k + 1, rfl, Nat.le_refl _, by omega, h3, rfl⟩⟩
      · by_cases hi : i < p.length
        · rw [List.getElem?_append_left hi] at hM
          obtain ⟨j, j1, j2⟩ := q1 i M hM
          exact ⟨j, by omega, j2⟩
        · rw [List.getElem?_append_right (by omega)] at hM
          have : i - p.length = 0 := by have := get_lt hM; simp at this; omega
          rw [this] at hM
          cases hM
          exact ⟨k + 1, Nat.le_refl _, by omega, h3⟩
      · by_cases hi : i + 1 < p.length
        · rw [List.getElem?_append_left (by omega)] at hM
          rw [List.getElem?_append_left hi] at hM'
          obtain ⟨j, j', j1, j2, j3, j4⟩ := q2 i M M' hM hM'
          exact ⟨j, j', j1, by omega, j3, j4⟩
        · rw [List.getElem?_append_right (by omega)] at hM'
          have e0 : i + 1 - p.length = 0 := by have := get_lt hM'; simp at this; omega
          rw [e0] at hM'
          cases hM'
          rw [List.getElem?_append_left (by omega)] at hM
          rcases q3 with ⟨rfl, _⟩ | ⟨p2, L2, j, rfl, j1, j2, j3, j4⟩
          · simp at hM
          · rw [List.length_append, List.length_singleton] at e0 hi
            rw [List.getElem?_append_right (by simp at hi; omega), show i - p2.length = 0 by simp at hi; omega] at hM
            cases hM
            exact ⟨j, k + 1, by omega, Nat.le_refl _, j2, j3, h3, by rw [j4]; exact h1⟩
    · obtain ⟨q1, q2, q3⟩ := pl_props hT hc ha ht w (by omega) h2
      have hm := bA_mono hT hc ha ht w (n := k) (m := k + 1) (by omega) (by omega)
      have he : bA t change a w to (k + 1) = bA t change a w to k := by omega
      refine ⟨fun i M hM => ?_, fun i M M' hM hM' => ?_, ?_⟩
      · obtain ⟨j, j1, j2⟩ := q1 i M hM; exact ⟨j, by omega, j2⟩
      · obtain ⟨j, j', j1, j2, j3, j4⟩ := q2 i M M' hM hM'
        exact ⟨j, j', j1, by omega, j3, j4⟩
      · rcases q3 with ⟨e1, e2⟩ | ⟨p, L, j, e1, e2, e3, e4, e5⟩
        · exact .inl ⟨e1, by rw [he]; exact e2⟩
        · exact .inr ⟨p, L, j, e1, by omega, e3, e4, by rw [he]; exact e5⟩
theorem el_journey {t : Timetable} (hT : GoodT t) {change : Int} (hc : 0 ≤ change ∧ change ≤ 30) {a to : Int} (ha : 0 ≤ a ∧ a < (t.Network.Stops.length : Int)) (ht : 0 ≤ to ∧ to < (t.Network.Stops.length : Int)) {w : Int} {k : Nat} (hk : 1 ≤ k ∧ k ≤ 4) {L : List Leg} (h : El t change a w to k L) :
    ValidJ t change L ∧ L.length = k ∧ (∃ g, L[0]? = some g ∧ g.From = a ∧ w ≤ g.Depart) ∧ ∃ g, L[k - 1]? = some g ∧ g.Arrive = bA t change a w to k ∧ g.To = to :=
  path_journey hT hc hk h.1.2 h.2 fun τ hτ => (bA_min hT hc ha ht w (by omega) h.1.1).2 k τ (Nat.le_refl _) hτ
theorem last_at {L : List Leg} {k : Nat} (hk : 1 ≤ k ∧ k ≤ 1000) (h : L.length = k) {g : Leg} (hg : L[k - 1]? = some g) : idx L (w64 ((L.length : Int) - 1)) = some g := by
  rw [w64_id (by omega), show (L.length : Int) - 1 = ((k - 1 : Nat) : Int) by omega, idx_nat]; exact hg
theorem ipareto_ok {t : Timetable} (hb : TB t) {change from_ to at_ : Int} (h : PairP t change from_ to ∧ 0 ≤ at_ ∧ at_ ≤ 1799) : Tot (i_ParetoJourneys t change from_ to at_) fun r => r.2 = true ∧ PL t change from_ at_ to 4 r.1 := by
  have hPP := h.1
  obtain ⟨⟨⟨hT, hc⟩, hf, ht, hne⟩, hat⟩ := h
  unfold i_ParetoJourneys
  rw [isPair_eq hb, decide_eq_true hPP]
  refine .eq rfl (.call (P := fun b => b = false) (.ite (fun h => (by cases h)) fun _ => .eq (time_eq at_) (.ok (by simp [hat]))) fun b hB => ?_)
  subst hB
  refine .ite (fun h => by cases h) fun _ => .call (P := fun o => PL t change from_ at_ to 4 o) ?_ fun o ho => .ok ⟨rfl, ho⟩
  refine .iter (fun m s => ∃ k : Nat, s.2.1 = ((k + 1 : Nat) : Int) ∧ m + k = 4 ∧ s.1 = bA t change from_ at_ to k ∧ PL t change from_ at_ to k s.2.2) (n := 4) ⟨0, rfl, rfl, (ab_zero (bA_ab hT hc hf ht at_ (by omega))).symm, show PL t change from_ at_ to 0 [] from rfl⟩ ?_
  rintro m ⟨v1, v2, v3⟩ ⟨k, hv, hm, hbst, hP⟩
  dsimp only at hv hbst hP
  subst hv; subst hbst
  have hPl := pl_len hP
  have hm1 := bA_mono hT hc hf ht at_ (n := k) (m := k + 1) (by omega) (by omega)
  have hr1 := bA_rng hT hc hf ht at_ (n := k + 1) (by omega)
  have hr0 := bA_rng hT hc hf ht at_ (n := k) (by omega)
  unfold i_ParetoJourneys_L1
  dsimp only
  refine .iteP (fun hlt => ?_) (fun hge => .dn (by rw [show 4 = k by omega]; exact hP))
  refine .call (P := fun o => o.1 = bA t change from_ at_ to (k + 1) ∧ PL t change from_ at_ to (k + 1) o.2) (.call (firstJ_ok hT hc hf ht at_ (n := k + 1) (by omega)) fun r2 hr2 => ?_) fun ⟨v4, v5⟩ ⟨z1, z2⟩ => .nx ⟨m - 1, by omega, k + 1, w64_succ (by omega), by omega, z1, z2⟩
  rcases hr2 with ⟨hno, rfl⟩ | ⟨by_, k', L, hmin, hk', hx, hF, rfl⟩
  · have e : bA t change from_ at_ to (k + 1) = 1073741824 := ab_uniq (bA_ab hT hc hf ht at_ (by omega)) (.inl ⟨rfl, hno⟩)
    refine .call (P := fun o => o.2 = false) (show Tot (some (([] : List Leg), false)) _ from .ok rfl) fun ⟨v6, v7⟩ hz => ?_
    dsimp only at hz
    subst hz
    refine .ite (fun h => by cases h) fun _ => .ok ⟨by dsimp only; omega, .inr ⟨by omega, hP⟩⟩
  · have e : bA t change from_ at_ to (k + 1) = by_ := ab_uniq (bA_ab hT hc hf ht at_ (by omega)) (.inr hmin)
    subst e
    have hnv : bA t change from_ at_ to (k + 1) ≠ 1073741824 := by
      obtain ⟨⟨k2, q1, q2⟩, _⟩ := hmin
      have := chn_lt (lr_ok hT) hc.1 q2; omega
    obtain ⟨j1, j2, j3, g, g1, g2, g3⟩ := path_journey hT hc (k := k') (by omega) hx hF (fun τ hτ => hmin.2 k' τ hk'.2 hτ)
    have hla := last_at (by omega) j2 g1
    refine .call (P := fun o => o.1 = L ∧ o.2 = decide (bA t change from_ at_ to (k + 1) < bA t change from_ at_ to k)) ?_ fun ⟨v6, v7⟩ ⟨hz1, hz2⟩ => ?_
    · cases L with
      | nil => simp at j2; omega
      | cons a0 l0 =>
        show Tot ((idx (a0 :: l0) (w64 (((a0 :: l0).length : Int) - 1))).bind _) _
        exact .eq hla (.ok ⟨rfl, by rw [← g2]⟩)
    · dsimp only at hz1 hz2
      subst hz1; subst hz2
      refine .iteP (fun hlt => .eq hla (.chk (by simp; omega) (.ok ⟨g2, .inl ⟨hlt, v3, v6, hP, ?_, rfl⟩⟩))) fun hge => .ok ⟨by dsimp only; omega, .inr ⟨hge, hP⟩⟩
      have : k' = k + 1 := by
        rcases Nat.lt_or_ge k' (k + 1) with h | h
        · have := (ab_ea (lr_ok hT) hc.1 (bA_ab hT hc hf ht at_ (n := k) (by omega)) (by_ := bA t change from_ at_ to (k + 1)) (by omega)).2 (ea_mono hx.1 (by omega))
          omega
        · omega
      subst this
      exact ⟨⟨hnv, hx⟩, hF⟩
theorem spareto_ok {t : Timetable} (hb : TB t) {change from_ to at_ : Int} (h : PairP t change from_ to ∧ 0 ≤ at_ ∧ at_ ≤ 1799) : Tot (s_ParetoJourneys t change from_ to at_) fun r => r.2 = true ∧ PL t change from_ at_ to 4 r.1 := by
  have h0 := h
  obtain ⟨⟨⟨hT, hc⟩, hf, ht, hne⟩, hat⟩ := h
  unfold s_ParetoJourneys
  rw [l8Pair_eq hb, decide_eq_true h0]
  refine .eq rfl (.ite (fun h => (by cases h)) fun _ => .call (P := fun o => PL t change from_ at_ to 4 o) ?_ fun o ho => .ok ⟨rfl, ho⟩)
  refine .iter (fun m s => ∃ k : Nat, s.2.1 = ((k + 1 : Nat) : Int) ∧ m + k = 4 ∧ s.1 = (if bA t change from_ at_ to k = 1073741824 then -1 else bA t change from_ at_ to k) ∧ PL t change from_ at_ to k s.2.2) (n := 4) ⟨0, rfl, rfl, by rw [if_pos (ab_zero (bA_ab hT hc hf ht at_ (by omega)))], show PL t change from_ at_ to 0 [] from rfl⟩ ?_
  rintro m ⟨v1, v2, v3⟩ ⟨k, hv, hm, hbst, hP⟩
  dsimp only at hv hbst hP
  subst hv; subst hbst
  have hPl := pl_len hP
  have hm1 := bA_mono hT hc hf ht at_ (n := k) (m := k + 1) (by omega) (by omega)
  have hr1 := bA_rng hT hc hf ht at_ (n := k + 1) (by omega)
  have hr0 := bA_rng hT hc hf ht at_ (n := k) (by omega)
  unfold s_ParetoJourneys_L1
  dsimp only
  refine .iteP (fun hlt => ?_) (fun hge => .dn (by rw [show 4 = k by omega]; exact hP))
  refine .call (P := fun o => o.1 = (if bA t change from_ at_ to (k + 1) = 1073741824 then -1 else bA t change from_ at_ to (k + 1)) ∧ PL t change from_ at_ to (k + 1) o.2) (sarr_bA hT hc hf ht (Ne.symm hne) (by omega) (by omega) fun o ho1 ho2 => .eq ho2 ?_) fun ⟨v4, v5⟩ ⟨z1, z2⟩ => .nx ⟨m - 1, by omega, k + 1, w64_succ (by omega), by omega, z1, z2⟩
  rw [Int.toNat_natCast]
  refine .call (P := fun b => b = decide (bA t change from_ at_ to (k + 1) < bA t change from_ at_ to k)) ?_ fun b hB => ?_
  · refine .iteP (fun h1 => .iteP (fun h2 => .ok ?_) fun h2 => .ok ?_) fun h1 => .ok ?_
    · rw [eq_comm, decide_eq_true_eq]
      split at h1 <;> split at h2 <;> omega
    · rw [decide_eq_decide]
      split at h1 <;> split at h2 <;> first | omega | (split <;> split <;> omega)
    · rw [eq_comm, decide_eq_false_iff_not]
      split at h1 <;> omega
  · subst hB
    refine .iteP (fun hlt => ?_) fun hge => .ok ⟨?_, .inr ⟨hge, hP⟩⟩
    · have hnv : bA t change from_ at_ to (k + 1) ≠ 1073741824 := by omega
      have hmin := bA_min hT hc hf ht at_ (n := k + 1) (by omega) hnv
      have hx : XN (LR t) change to (bA t change from_ at_ to (k + 1)) (k + 1) from_ at_ := by
        refine ⟨?_, fun h => ?_⟩
        · obtain ⟨⟨k2, q1, q2⟩, _⟩ := hmin
          exact ⟨k2, _, q1, q2, Int.le_refl _⟩
        · have := (ab_ea (lr_ok hT) hc.1 (bA_ab hT hc hf ht at_ (n := k) (by omega)) (by_ := bA t change from_ at_ to (k + 1)) (by omega)).2 (by simpa using h)
          omega
      rw [if_neg hnv]
      refine .call (sfirst_ok hT hc hf (n := ((k + 1 : Nat) : Int)) (by omega) (by rw [Int.toNat_natCast]; exact hx) (by rw [Int.toNat_natCast]; exact hmin.2)) fun L hL => .chk (by simp; omega) (.ok ⟨rfl, .inl ⟨hlt, v3, L, hP, ⟨⟨hnv, hx⟩, by rw [Int.toNat_natCast] at hL; exact hL⟩, rfl⟩⟩)
    · dsimp only
      rw [show bA t change from_ at_ to (k + 1) = bA t change from_ at_ to k by omega]
theorem vBigP (code : List UInt8) : v_vBig code = some (decide (65536 < (code.length : Int))) := rfl
theorem pareto_true (code : List UInt8) : v_FnPareto code = some true := by
  unfold v_FnPareto
  refine Tot.val (.eq (vBigP code) (.iteP (fun _ => .ok rfl) (fun _ => ?_)))
  refine .call (P := fun r => TB r.1) ?_ fun ⟨t, change, from_, to, at_⟩ hb => ?_
  · unfold s_DrawParetoJourneys s_DrawEarliestJourney
    exact .call (P := fun r => TB r.1) (.call (query_ok (cur0 code) (by omega)) fun r hr => .ok hr.1) fun r hr => .ok hr
  dsimp only at hb ⊢
  by_cases h : PairP t change from_ to ∧ 0 ≤ at_ ∧ at_ ≤ 1799
  · have h0 := h
    obtain ⟨⟨⟨hT, hc⟩, hf, ht, hne⟩, hat⟩ := h0
    refine .call (ipareto_ok hb h) fun ⟨o, ok⟩ ⟨e1, hP⟩ => .call (spareto_ok hb h) fun ⟨o', ok'⟩ ⟨e1', hP'⟩ => ?_
    dsimp only at e1 e1' hP hP' ⊢
    subst e1; subst e1'
    have := pl_uniq hT hP hP'
    subst this
    obtain ⟨q1, q2, q3⟩ := pl_props hT hc hf ht at_ (Nat.le_refl 4) hP
    have hlen := pl_len hP
    refine .call (P := fun b => b = false) (.ite (fun h => by cases h) fun _ => .ok (by simp)) fun b hB => ?_
    subst hB
    refine .ite (fun h => by cases h) fun _ => .ite (fun h => by cases h) fun _ => ?_
    refine .flb ((Tot.iter (fun m (s : Int) => ∃ i : Nat, s = (i : Int) ∧ m + i = o.length) (Q := fun b => b = .go ()) (n := o.length) ⟨0, rfl, by omega⟩ ?_).mono fun b hB => ⟨fun r e => (by rw [hB] at e; cases e), fun u e => ?_⟩)
    · rintro m s ⟨i, rfl, hm⟩
      unfold v_FnPareto_L1
      dsimp only
      refine .iteP (fun hlt => ?_) (fun hlt => .dn rfl)
      obtain ⟨L, hL⟩ := get_ex (l := o) (i := i) (by omega)
      obtain ⟨j, j1, j2, hEl⟩ := q1 i L hL
      obtain ⟨v1, v2, _, g, v3, v4, _⟩ := el_journey hT hc hf ht (k := j) (by omega) hEl
      refine .eq (ixs hL) ?_
      rw [validJ_eq hb, decide_eq_true v1]
      refine .eq rfl (.call (P := fun b => b = false) (.ite (fun h => by cases h) fun _ => .ok (by rw [beq_eq_false_iff_ne]; omega)) fun b hB => ?_)
      subst hB
      refine .ite (fun h => by cases h) fun _ => .call (P := fun b => b = false) ?_ fun b hB => ?_
      · refine .iteP (fun h0 => ?_) fun _ => .ok rfl
        obtain ⟨K, hK⟩ := get_ex (l := o) (i := i - 1) (by omega)
        obtain ⟨ja, jb, p1, p2, p3, p4, p5, p6⟩ := q2 (i - 1) K L hK (by rw [show i - 1 + 1 = i by omega]; exact hL)
        obtain ⟨u1, u2, _, g', u3, u4, _⟩ := el_journey hT hc hf ht (k := ja) (by omega) p4
        obtain ⟨w1, w2, _, g2, w3, w4, _⟩ := el_journey hT hc hf ht (k := jb) (by omega) p5
        have ew : w64 ((i : Int) - 1) = ((i - 1 : Nat) : Int) := by rw [w64_id (by omega)]; omega
        rw [ew]
        refine .eq (ixs hK) (.iteP (fun h => by omega) fun _ => .eq (last_at (by omega) w2 w3) (.eq (ixs hK) (.eq (ixs hK) (.eq (last_at (by omega) u2 u3) (.ok ?_)))))
        rw [decide_eq_false_iff_not]; omega
      · subst hB
        exact .ite (fun h => by cases h) fun _ => .nx ⟨m - 1, by omega, i + 1, w64_succ (by omega), by omega⟩
    · refine .call (eArr_ok hb (change := change) (from_ := from_) (at_ := at_) ⟨⟨hT, hc⟩, hf, hat⟩) fun ⟨best, told⟩ ⟨b1, b2, b3, b4⟩ => ?_
      dsimp only at b1 b2 b3 b4 ⊢
      subst b1
      have hto := b4 to ht.1 ht.2 (Ne.symm hne)
      refine .call (P := fun b => b = false) (.ite (fun h => by cases h) fun _ => .ok (by rw [decide_eq_false_iff_not]; omega)) fun b hB => ?_
      subst hB
      refine .ite (fun h => by cases h) fun _ => ?_
      rcases q3 with ⟨rfl, e⟩ | ⟨p, L, j, rfl, j1, j2, hEl, e⟩
      · refine .ite (fun _ => .eq (gv_idx ht.1 (by omega)) (.ok ?_)) fun h => by simp at h
        rw [hto, if_pos e]; rfl
      · obtain ⟨v1, v2, _, g, v3, v4, _⟩ := el_journey hT hc hf ht (k := j) (by omega) hEl
        refine .ite (fun h => by simp at h; omega) fun _ => ?_
        have ew : w64 (((p ++ [L]).length : Int) - 1) = (p.length : Int) := by
          rw [List.length_append, List.length_singleton] at hlen ⊢
          rw [w64_id (by omega)]; omega
        rw [ew]
        refine .eq (ixs (x := L) (by rw [List.getElem?_append_right (by omega)]; simp)) (.eq (last_at (by omega) v2 v3) (.eq (gv_idx ht.1 (by omega)) (.ok ?_)))
        have hnv := hEl.1.1
        rw [hto, ← e, if_neg hnv, v4]
        simp
  · have e1 : i_ParetoJourneys t change from_ to at_ = some ([], false) := by
      unfold i_ParetoJourneys
      rw [isPair_eq hb]
      by_cases h1 : PairP t change from_ to
      · have h2 : ¬ (0 ≤ at_ ∧ at_ ≤ 1799) := fun h2 => h ⟨h1, h2⟩
        simp [h1, time_eq, h2]
      · simp [h1]
    have e2 : s_ParetoJourneys t change from_ to at_ = some ([], false) := by
      unfold s_ParetoJourneys
      rw [l8Pair_eq hb, decide_eq_false h]
      rfl
    rw [e1, e2]
    exact .eq rfl (.eq rfl (.call (P := fun b => b = false) (.ok rfl) fun b hB => (by subst hB; exact .ite (fun h => by cases h) fun _ => .ok rfl)))
end Go.Proofs.Ytdocbkbpjdjlpaa
