/- The plain law: what the models compute, no program in sight. -/
import Derived.Test.YtdkphcbllgnefaaCaM
import Derived.Test.YtdkphcbllgnefaaAbStb
namespace Go.Proofs.Ytdkphcbllgnefaa
open Go Go.Ab
set_option maxHeartbeats 4000000
set_option linter.unusedVariables false
set_option linter.unusedSimpArgs false
/-! The cursor of the draws: it always answers. -/
def Cur (k : Nat) (c : l1Cur) : Prop := 0 ≤ c.at_ ∧ c.at_ ≤ k
theorem Cur.mono {k k' : Nat} {c : l1Cur} (h : Cur k c) (hk : k ≤ k') : Cur k' c := ⟨h.1, by have := h.2; omega⟩
theorem next_ok {k : Nat} {c : l1Cur} (h : Cur k c) (hk : k ≤ 4000000000) : ∃ r, s_l1Cur_next c = some r ∧ Cur (k + 1) r.2 ∧ 0 ≤ r.1 ∧ r.1 ≤ 255 := by
  obtain ⟨h0, h1⟩ := h
  have hw : w64 (c.at_ + 1) = c.at_ + 1 := w64_id (by omega)
  have hcur : ∀ s, Cur (k + 1) ⟨c.code_, w64 (c.at_ + 1), s⟩ := fun s => by rw [hw]; exact ⟨by show 0 ≤ c.at_ + 1; omega, by show c.at_ + 1 ≤ _; omega⟩
  unfold s_l1Cur_next
  have hv : ∃ v, (if (decide (c.at_ < (c.code_.length : Int))) = true then (idx c.code_ c.at_).bind fun e1 => some (w64 ((e1.toNat : Int))) else some 0) = some v ∧ 0 ≤ v ∧ v ≤ 255 := by
    by_cases hlt : c.at_ < c.code_.length
    · obtain ⟨x, hx, _, _⟩ := idx_lt h0 hlt
      have := x.toNat_lt
      refine ⟨(x.toNat : Int), ?_, by omega, by omega⟩
      simp only [hlt, decide_true, if_true, hx, Option.bind_some]
      rw [w64_id (by omega)]
    · exact ⟨0, by simp [hlt], by omega, by omega⟩
  obtain ⟨v, hv, hv0, hv1⟩ := hv
  rw [hv]
  simp only [Option.bind_some]
  split
  · exact ⟨_, rfl, hcur _, hv0, hv1⟩
  · rw [chk_of (by omega)]
    exact ⟨_, rfl, hcur _, and255 _⟩
theorem pick_ok {k : Nat} {c : l1Cur} (n : Int) (h : Cur k c) (hk : k ≤ 3000000000) : ∃ r, s_l1Cur_pick c n = some r ∧ Cur (k + 2) r.2 ∧ 0 ≤ r.1 ∧ (r.1 < n ∨ r.1 = 0) := by
  unfold s_l1Cur_pick
  by_cases hn : n ≤ 1
  · exact ⟨(0, c), by simp [hn], h.mono (by omega), by simp, .inr rfl⟩
  · obtain ⟨r, hr, hc, h0, h1⟩ := next_ok h (by omega)
    have hn' : decide (n ≤ 1) = false := by simpa using hn
    simp only [hn', Bool.false_eq_true, if_false, hr, Option.bind_some]
    have hne : chk (n ≠ 0) = some () := chk_of (by omega)
    by_cases h2 : 200 < n
    · obtain ⟨r', hr', hc', h0', h1'⟩ := next_ok hc (by omega)
      have e1 : w64 (r.1 * 256) = r.1 * 256 := w64_id (by omega)
      have e2 : w64 (r.1 * 256 + r'.1) = r.1 * 256 + r'.1 := w64_id (by omega)
      have h3 := tmod_rng (a := r.1 * 256 + r'.1) (b := n) (by omega) (by omega)
      simp only [h2, decide_true, if_true, hr', Option.bind_some, hne, e1, e2]
      exact ⟨_, rfl, hc'.mono (by omega), h3.1, .inl h3.2⟩
    · have h2' : decide (200 < n) = false := by simpa using h2
      have h3 := tmod_rng (a := r.1) (b := n) (by omega) (by omega)
      simp only [h2', Bool.false_eq_true, if_false, Option.bind_some, hne]
      exact ⟨_, rfl, hc.mono (by omega), h3.1, .inl h3.2⟩
theorem amongw_ok {k : Nat} {c : l1Cur} (l : List Int) (hl : l ≠ []) (h : Cur k c) (hk : k ≤ 3000000000) : ∃ r, s_l1Cur_among_w c l = some r ∧ Cur (k + 2) r.2 ∧ r.1 ∈ l := by
  unfold s_l1Cur_among_w
  obtain ⟨r, hr, hc, h0, h1⟩ := pick_ok (l.length : Int) h hk
  have hpos : 0 < l.length := List.length_pos_iff.2 hl
  obtain ⟨x, hx, _, hm⟩ := idx_lt (l := l) h0 (by omega)
  simp only [hr, Option.bind_some, hx]
  exact ⟨_, rfl, hc, hm⟩
theorem among_ok {k : Nat} {c : l1Cur} (l : List Int) (hl : l ≠ []) (h : Cur k c) (hk : k ≤ 3000000000) : ∃ r, s_l1Cur_among c l = some r ∧ Cur (k + 2) r.2 ∧ r.1 ∈ l := by
  have : s_l1Cur_among c l = s_l1Cur_among_w c l := rfl
  rw [this]; exact amongw_ok l hl h hk
theorem one_ok {k : Nat} {c : l1Cur} (n : Int) (h : Cur k c) (hk : k ≤ 3000000000) : ∃ r, s_l1Cur_one c n = some r ∧ Cur (k + 2) r.2 := by
  unfold s_l1Cur_one
  obtain ⟨r, hr, hc, _, _⟩ := pick_ok n h hk
  simp only [hr, Option.bind_some]
  exact ⟨_, rfl, hc⟩
theorem of_ok {k : Nat} {c : l1Cur} (l : List ByteArray) (hl : l ≠ []) (h : Cur k c) (hk : k ≤ 3000000000) : ∃ r, s_l1Cur_of c l = some r ∧ Cur (k + 2) r.2 ∧ r.1 ∈ l := by
  unfold s_l1Cur_of
  obtain ⟨r, hr, hc, h0, h1⟩ := pick_ok (l.length : Int) h hk
  have hpos : 0 < l.length := List.length_pos_iff.2 hl
  obtain ⟨x, hx, _, hm⟩ := idx_lt (l := l) h0 (by omega)
  simp only [hr, Option.bind_some, hx]
  exact ⟨_, rfl, hc, hm⟩
theorem ofw_ok {k : Nat} {c : l1Cur} (l : List ByteArray) (hl : l ≠ []) (h : Cur k c) (hk : k ≤ 3000000000) : ∃ r, s_l1Cur_of_w c l = some r ∧ Cur (k + 2) r.2 ∧ r.1 ∈ l := by
  have : s_l1Cur_of_w c l = s_l1Cur_of c l := rfl
  rw [this]; exact of_ok l hl h hk
theorem cur0 (code : List UInt8) : Cur 0 ⟨code, 0, ⟨0⟩⟩ := ⟨by show (0 : Int) ≤ 0; omega, by show (0 : Int) ≤ _; omega⟩
/-! Networks: when they are valid, for the program and for the reference. -/
theorem within_eq (n lo hi : Int) : i_within n lo hi = some (decide (lo ≤ n ∧ n ≤ hi)) := by
  unfold i_within
  by_cases h : lo ≤ n <;> simp [h]
theorem l1In_eq (n lo hi : Int) : s_l1In n lo hi = some (decide (lo ≤ n ∧ n ≤ hi)) := by
  unfold s_l1In
  by_cases h : lo ≤ n <;> simp [h]
/-- Byte i of a name. -/
def ChOK (i : Nat) (c : UInt8) : Prop := (97 ≤ (c.toNat : Int) ∧ (c.toNat : Int) ≤ 122) ∨ (i ≠ 0 ∧ 48 ≤ (c.toNat : Int) ∧ (c.toNat : Int) ≤ 57)
def NameOK (s : ByteArray) : Prop := (1 ≤ s.size ∧ s.size ≤ 8) ∧ ∀ (i : Nat) c, s.data.toList[i]? = some c → ChOK i c
open Classical in
noncomputable instance (s : ByteArray) : Decidable (NameOK s) := Classical.propDecidable _
theorem size_list (s : ByteArray) : s.data.toList.length = s.size := by simp
theorem getD_of {α : Type} {l : List α} {i : Nat} {x d : α} (h : l[i]? = some x) : l.getD i d = x := by rw [List.getD_eq_getElem?_getD, h]; rfl

theorem isName_eq (s : ByteArray) : i_isName s = some (decide (NameOK s)) := by
  unfold i_isName
  by_cases h1 : 1 ≤ s.size ∧ s.size ≤ 8
  · have e1 : decide ((s.size : Int) < 1) = false := by simp; omega
    have e2 : decide (8 < (s.size : Int)) = false := by simp; omega
    simp only [e1, e2, Bool.false_eq_true, if_false, Option.bind_some]
    have hsz := size_list s
    have key := all_loop s.data.toList ChOK (step := i_isName_L1 s) ?_ ?_ 0 0 rfl (by omega)
    · rcases key with ⟨g1, g2⟩ | ⟨g1, g2⟩
      · rw [g1, flb_go]
        have : NameOK s := ⟨h1, fun i c hc => g2 i c (by omega) hc⟩
        simp [this]
      · rw [g1, flb_ret]
        have : ¬ NameOK s := fun hn => g2 fun i c _ hc => hn.2 i c hc
        simp [this]
    · intro i x hx
      have hi := (List.getElem?_eq_some_iff.1 hx).1
      have hg : s.data.toList.getD (i : Int).toNat 0 = x := by rw [Int.toNat_natCast]; exact getD_of hx
      have hc : chk ((0 : Int) ≤ (i : Int) ∧ (i : Int) < (s.size : Int)) = some () := chk_of (by omega)
      have hlt : decide ((i : Int) < (s.size : Int)) = true := by simp; omega
      unfold i_isName_L1
      simp only [hlt, if_true, hc, hg, Option.bind_some, w64_succ (n := i) (by omega)]
      unfold ChOK
      by_cases a1 : (97 : Int) ≤ (x.toNat : Int)
      · by_cases a2 : (x.toNat : Int) ≤ 122
        · left; refine ⟨by simp [a1, a2], .inl ⟨a1, a2⟩⟩
        · right
          refine ⟨?_, by omega⟩
          have b1 : decide ((x.toNat : Int) < 48) = false := by simp; omega
          have b2 : decide ((57 : Int) < (x.toNat : Int)) = true := by simp; omega
          have c1 : ¬ (x.toNat : Int) < 48 := by omega
          have c2 : (57 : Int) < (x.toNat : Int) := by omega
          by_cases hi0 : i = 0
          · simp [a1, a2, hi0]
          · have hi0' : ((i : Int) == 0) = false := by simp; omega
            simp [a1, a2, hi0', c1, c2]
      · by_cases hi0 : i = 0
        · right
          refine ⟨by simp [a1, hi0], by omega⟩
        · have hi0' : ((i : Int) == 0) = false := by simp; omega
          by_cases b1 : (x.toNat : Int) < 48
          · right
            refine ⟨by simp [a1, hi0', b1], by omega⟩
          · by_cases b2 : (57 : Int) < (x.toNat : Int)
            · right
              refine ⟨by simp [a1, hi0', b1, b2], by omega⟩
            · left
              refine ⟨by simp [a1, hi0', b1, b2], .inr ⟨hi0, by omega, by omega⟩⟩
    · unfold i_isName_L1
      rw [hsz]
      simp
  · have : ¬ NameOK s := fun h => h1 h.1
    have e : (if (decide ((s.size : Int) < 1)) = true then some true else some (decide (8 < (s.size : Int)))) = some true := by
      by_cases h2 : s.size < 1
      · have : decide ((s.size : Int) < 1) = true := by simp; omega
        simp [this]
      · have e1 : decide ((s.size : Int) < 1) = false := by simp; omega
        have e2 : decide (8 < (s.size : Int)) = true := by simp; omega
        simp [e1, e2]
    rw [e]
    simp [this]

theorem l2Name_eq (s : ByteArray) : s_l2Name s = some (decide (NameOK s)) := by
  unfold s_l2Name
  rw [l1In_eq]
  simp only [Option.bind_some]
  by_cases h1 : 1 ≤ s.size ∧ s.size ≤ 8
  · have e1 : decide ((1 : Int) ≤ (s.size : Int) ∧ (s.size : Int) ≤ 8) = true := by simp; omega
    have hsz := size_list s
    obtain ⟨x0, hx0⟩ := get_ex (l := s.data.toList) (i := 0) (by omega)
    have hg0 : s.data.toList.getD (0 : Int).toNat 0 = x0 := getD_of hx0
    have hc0 : chk ((0 : Int) ≤ 0 ∧ 0 < (s.size : Int)) = some () := chk_of (by omega)
    simp only [e1, Bool.not_true, Bool.false_eq_true, if_false, hc0, hg0, Option.bind_some]
    by_cases a0 : 97 ≤ (x0.toNat : Int) ∧ (x0.toNat : Int) ≤ 122
    · have b1 : decide ((x0.toNat : Int) < 97) = false := by simp; omega
      have b2 : decide ((122 : Int) < (x0.toNat : Int)) = false := by simp; omega
      simp only [b1, b2, Bool.false_eq_true, if_false, Option.bind_some]
      have key := all_loop s.data.toList ChOK (step := s_l2Name_L1 s) ?_ ?_ 0 0 rfl (by omega)
      · rcases key with ⟨g1, g2⟩ | ⟨g1, g2⟩
        · rw [g1, flb_go]
          have : NameOK s := ⟨h1, fun i c hc => g2 i c (by omega) hc⟩
          simp [this]
        · rw [g1, flb_ret]
          have : ¬ NameOK s := fun hn => g2 fun i c _ hc => hn.2 i c hc
          simp [this]
      · intro i x hx
        have hi := (List.getElem?_eq_some_iff.1 hx).1
        have hg : s.data.toList.getD (i : Int).toNat 0 = x := by rw [Int.toNat_natCast]; exact getD_of hx
        have hc : chk ((0 : Int) ≤ (i : Int) ∧ (i : Int) < (s.size : Int)) = some () := chk_of (by omega)
        have hlt : decide ((i : Int) < (s.size : Int)) = true := by simp; omega
        have h0 : i = 0 → x = x0 := fun h => by subst h; rw [hx0] at hx; cases hx; rfl
        unfold s_l2Name_L1
        simp only [hlt, if_true, hc, hg, Option.bind_some, w64_succ (n := i) (by omega)]
        unfold ChOK
        by_cases a1 : (x.toNat : Int) < 97
        · have hi0 : i ≠ 0 := fun h => by have := h0 h; subst this; omega
          by_cases c1 : (x.toNat : Int) < 48
          · right; refine ⟨by simp [a1, c1], by omega⟩
          · by_cases c2 : (57 : Int) < (x.toNat : Int)
            · right; refine ⟨by simp [a1, c1, c2], by omega⟩
            · left; refine ⟨by simp [a1, c1, c2], .inr ⟨hi0, by omega, by omega⟩⟩
        · by_cases a2 : (122 : Int) < (x.toNat : Int)
          · right
            have c1 : ¬ (x.toNat : Int) < 48 := by omega
            have c2 : (57 : Int) < (x.toNat : Int) := by omega
            refine ⟨by simp [a1, a2, c1, c2], by omega⟩
          · left; refine ⟨by simp [a1, a2], .inl ⟨by omega, by omega⟩⟩
      · unfold s_l2Name_L1
        rw [hsz]
        simp
    · have : ¬ NameOK s := fun hn => by
        have := hn.2 0 x0 hx0
        unfold ChOK at this
        omega
      have e : (if (decide ((x0.toNat : Int) < 97)) = true then some true else some (decide ((122 : Int) < (x0.toNat : Int)))) = some true := by
        by_cases h2 : (x0.toNat : Int) < 97
        · simp [h2]
        · have : (122 : Int) < (x0.toNat : Int) := by omega
          simp [h2, this]
      rw [e]
      simp [this]
  · have e1 : decide ((1 : Int) ≤ (s.size : Int) ∧ (s.size : Int) ≤ 8) = false := by simp; omega
    have : ¬ NameOK s := fun h => h1 h.1
    simp [e1, this]

/-! Searches -/
theorem index_str_eq (l : List ByteArray) (hl : l.length ≤ 4000000000) (v : ByteArray) : slices_Index_string l v = some (fixI (fun e => v.toList == e.toList) l) := by
  unfold slices_Index_string
  refine find_val l (fun e => v.toList == e.toList) (fun i x hx => ?_) (by unfold slices_Index_string_L1; simp)
  have hi := (List.getElem?_eq_some_iff.1 hx).1
  unfold slices_Index_string_L1
  have hlt : decide ((i : Int) < (l.length : Int)) = true := by simp; omega
  simp only [hlt, if_true, idx_nat, hx, Option.bind_some, w64_succ (n := i) (by omega)]
  split <;> rfl
theorem index_int_eq (l : List Int) (hl : l.length ≤ 4000000000) (v : Int) : slices_Index_int l v = some (fixI (fun e => v == e) l) := by
  unfold slices_Index_int
  refine find_val l (fun e => v == e) (fun i x hx => ?_) (by unfold slices_Index_int_L1; simp)
  have hi := (List.getElem?_eq_some_iff.1 hx).1
  unfold slices_Index_int_L1
  have hlt : decide ((i : Int) < (l.length : Int)) = true := by simp; omega
  simp only [hlt, if_true, idx_nat, hx, Option.bind_some, w64_succ (n := i) (by omega)]
  split <;> rfl
theorem l2Place_eq (x : Line) (hl : x.Stops.length ≤ 4000000000) (v : Int) : s_l2Place x v = some (fixI (fun e => v == e) x.Stops) := by
  have hc : fixI (fun e => v == e) x.Stops = fixI (fun e => e == v) x.Stops := fixI_congr _ fun e => BEq.comm
  rw [hc]
  unfold s_l2Place
  refine find_val x.Stops (fun e => e == v) (fun i y hx => ?_) (by unfold s_l2Place_L1; simp)
  have hi := (List.getElem?_eq_some_iff.1 hx).1
  unfold s_l2Place_L1
  have hlt : decide ((i : Int) < (x.Stops.length : Int)) = true := by simp; omega
  simp only [hlt, if_true, idx_nat, hx, Option.bind_some, w64_succ (n := i) (by omega)]
  split <;> rfl
theorem bl_comm (a b : List UInt8) : (a == b) = (b == a) := BEq.comm
theorem l2Find_eq (l : List ByteArray) (hl : l.length ≤ 4000000000) (v : ByteArray) : s_l2Find l v = some (fixI (fun e => v.toList == e.toList) l) := by
  rw [fixI_congr l (q := fun e => e.toList == v.toList) fun e => bl_comm _ _]
  unfold s_l2Find
  refine find_val l (fun e => e.toList == v.toList) (fun i x hx => ?_) (by unfold s_l2Find_L1; simp)
  have hi := (List.getElem?_eq_some_iff.1 hx).1
  unfold s_l2Find_L1
  have hlt : decide ((i : Int) < (l.length : Int)) = true := by simp; omega
  simp only [hlt, if_true, idx_nat, hx, Option.bind_some, w64_succ (n := i) (by omega)]
  split <;> rfl
theorem l2LineNamed_eq (n : Network) (hl : n.Lines.length ≤ 4000000000) (v : ByteArray) : s_l2LineNamed n v = some (fixI (fun e => v.toList == e.toList) (n.Lines.map (·.Name))) := by
  rw [fixI_map, fixI_congr n.Lines (q := fun e => e.Name.toList == v.toList) fun e => bl_comm _ _]
  unfold s_l2LineNamed
  refine find_val n.Lines (fun e => e.Name.toList == v.toList) (fun i x hx => ?_) (by unfold s_l2LineNamed_L1; simp)
  have hi := (List.getElem?_eq_some_iff.1 hx).1
  unfold s_l2LineNamed_L1
  have hlt : decide ((i : Int) < (n.Lines.length : Int)) = true := by simp; omega
  simp only [hlt, if_true, idx_nat, hx, Option.bind_some, w64_succ (n := i) (by omega)]
  split <;> rfl
def NamesP (l : List ByteArray) : Prop := ∀ (i : Nat) x, l[i]? = some x → NameOK x ∧ fixI (fun e => x.toList == e.toList) l = (i : Int)
def LineP (st : Nat) (x : Line) : Prop := (2 ≤ x.Stops.length ∧ x.Stops.length ≤ 6) ∧ (x.Runs.length : Int) = (x.Stops.length : Int) - 1 ∧
  (∀ (i : Nat) e, x.Stops[i]? = some e → (0 ≤ e ∧ e < (st : Int)) ∧ fixI (fun y => e == y) x.Stops = (i : Int)) ∧ ∀ (i : Nat) r, x.Runs[i]? = some r → 1 ≤ r ∧ r ≤ 60
def Good (n : Network) : Prop := (2 ≤ n.Stops.length ∧ n.Stops.length ≤ 8) ∧ (1 ≤ n.Lines.length ∧ n.Lines.length ≤ 5) ∧ NamesP n.Stops ∧ NamesP (n.Lines.map (·.Name)) ∧ ∀ (i : Nat) x, n.Lines[i]? = some x → LineP n.Stops.length x
noncomputable instance (l : List ByteArray) : Decidable (NamesP l) := Classical.propDecidable _
noncomputable instance (st : Nat) (x : Line) : Decidable (LineP st x) := Classical.propDecidable _
noncomputable instance (n : Network) : Decidable (Good n) := Classical.propDecidable _
/-- No list is too long. -/
def Bd (n : Network) : Prop := n.Stops.length ≤ 1000 ∧ n.Lines.length ≤ 1000 ∧ ∀ x ∈ n.Lines, x.Stops.length ≤ 1000 ∧ x.Runs.length ≤ 1000

theorem areNames_eq (l : List ByteArray) (hl : l.length ≤ 1000) : i_areNames l = some (decide (NamesP l)) := by
  unfold i_areNames
  rw [all_val (hd := Classical.propDecidable _) l (fun i x => NameOK x ∧ fixI (fun e => x.toList == e.toList) l = (i : Int)) (fun i x hx => ?_) (by unfold i_areNames_L1; simp)]
  · by_cases h : NamesP l
    · rw [if_pos (show ∀ (i : Nat) x, l[i]? = some x → NameOK x ∧ fixI (fun e => x.toList == e.toList) l = (i : Int) from h)]; simp [h]
    · rw [if_neg (show ¬ ∀ (i : Nat) x, l[i]? = some x → NameOK x ∧ fixI (fun e => x.toList == e.toList) l = (i : Int) from h)]; simp [h]
  · have hi := (List.getElem?_eq_some_iff.1 hx).1
    unfold i_areNames_L1
    have hlt : decide ((i : Int) < (l.length : Int)) = true := by simp; omega
    simp only [hlt, if_true, idx_nat, hx, Option.bind_some, isName_eq, index_str_eq l (by omega), w64_succ (n := i) (by omega)]
    by_cases h1 : NameOK x
    · by_cases h2 : fixI (fun e => x.toList == e.toList) l = (i : Int)
      · left; simp [h1, h2]
      · right; simp [h1, h2]
    · right; simp [h1]

theorem lineNames_eq (n : Network) (hl : n.Lines.length ≤ 1000) : i_lineNames n = some (n.Lines.map (·.Name)) := by
  unfold i_lineNames
  rw [chk_of (by omega)]
  simp only [Option.bind_some]
  rw [fill_loop (fun x : Line => x.Name) n.Lines _ (by simp) (fun i a x y ha hy hx => ?_) (fun a ha => ?_)]
  · rfl
  · have hi := (List.getElem?_eq_some_iff.1 hx).1
    unfold i_lineNames_L1
    have hlt : decide ((i : Int) < (n.Lines.length : Int)) = true := by simp; omega
    simp only [hlt, if_true, idx_nat, hx, hy, Option.bind_some, w64_succ (n := i) (by omega), Int.toNat_natCast]
  · unfold i_lineNames_L1; simp

theorem isStop_eq (n : Network) (e : Int) : i_isStop n e = some (decide (0 ≤ e ∧ e < (n.Stops.length : Int))) := by
  unfold i_isStop
  by_cases h : 0 ≤ e <;> simp [h]
theorem isLine_eq (n : Network) (e : Int) : i_isLine n e = some (decide (0 ≤ e ∧ e < (n.Lines.length : Int))) := by
  unfold i_isLine
  by_cases h : 0 ≤ e <;> simp [h]

theorem isValidLine_eq (n : Network) (l : Line) (h1 : l.Stops.length ≤ 1000) (h2 : l.Runs.length ≤ 1000) : i_isValidLine n l = some (decide (LineP n.Stops.length l)) := by
  unfold i_isValidLine
  rw [within_eq]
  have e0 : w64 ((l.Stops.length : Int) - 1) = (l.Stops.length : Int) - 1 := w64_id (by omega)
  simp only [Option.bind_some, e0]
  by_cases a1 : 2 ≤ l.Stops.length ∧ l.Stops.length ≤ 6
  · have d1 : decide ((2 : Int) ≤ (l.Stops.length : Int) ∧ (l.Stops.length : Int) ≤ 6) = true := by simp; omega
    simp only [d1, Bool.not_true, Bool.false_eq_true, if_false]
    by_cases a2 : (l.Runs.length : Int) = (l.Stops.length : Int) - 1
    · have d2 : ((l.Runs.length : Int) != (l.Stops.length : Int) - 1) = false := by simp [a2]
      simp only [d2, Option.bind_some, Bool.false_eq_true, if_false]
      rw [all_val (hd := Classical.propDecidable _) l.Stops (fun i e => (0 ≤ e ∧ e < (n.Stops.length : Int)) ∧ fixI (fun y => e == y) l.Stops = (i : Int)) (fun i x hx => ?_) (by unfold i_isValidLine_L1; simp)]
      · rw [all_val (hd := Classical.propDecidable _) l.Runs (fun i r => 1 ≤ r ∧ r ≤ 60) (fun i x hx => ?_) (by unfold i_isValidLine_L2; simp)]
        · by_cases b1 : ∀ (i : Nat) e, l.Stops[i]? = some e → (0 ≤ e ∧ e < (n.Stops.length : Int)) ∧ fixI (fun y => e == y) l.Stops = (i : Int)
          · rw [if_pos b1]
            by_cases b2 : ∀ (i : Nat) r, l.Runs[i]? = some r → 1 ≤ r ∧ r ≤ 60
            · rw [if_pos b2]
              have : LineP n.Stops.length l := ⟨a1, a2, b1, b2⟩
              simp [this]
            · rw [if_neg b2]
              have : ¬ LineP n.Stops.length l := fun h => b2 h.2.2.2
              simp [this]
          · rw [if_neg b1]
            have : ¬ LineP n.Stops.length l := fun h => b1 h.2.2.1
            simp [this]
        · have hi := (List.getElem?_eq_some_iff.1 hx).1
          unfold i_isValidLine_L2
          have hlt : decide ((i : Int) < (l.Runs.length : Int)) = true := by simp; omega
          simp only [hlt, if_true, idx_nat, hx, Option.bind_some, within_eq, w64_succ (n := i) (by omega)]
          by_cases b : 1 ≤ x ∧ x ≤ 60
          · left; simp [b]
          · right; simp [b]
      · have hi := (List.getElem?_eq_some_iff.1 hx).1
        unfold i_isValidLine_L1
        have hlt : decide ((i : Int) < (l.Stops.length : Int)) = true := by simp; omega
        simp only [hlt, if_true, idx_nat, hx, Option.bind_some, isStop_eq, index_int_eq l.Stops (by omega), w64_succ (n := i) (by omega)]
        by_cases b1 : 0 ≤ x ∧ x < (n.Stops.length : Int)
        · by_cases b2 : fixI (fun y => x == y) l.Stops = (i : Int)
          · left; simp [b1, b2]
          · right; simp [b1, b2]
        · right; simp [b1]
    · have d2 : ((l.Runs.length : Int) != (l.Stops.length : Int) - 1) = true := by simp [a2]
      have : ¬ LineP n.Stops.length l := fun h => a2 h.2.1
      simp [d2, this]
  · have d1 : decide ((2 : Int) ≤ (l.Stops.length : Int) ∧ (l.Stops.length : Int) ≤ 6) = false := by simp; omega
    have : ¬ LineP n.Stops.length l := fun h => a1 h.1
    simp [d1, this]

theorem l2Line_eq (l : Line) (st : Nat) (hst : st ≤ 1000) (h1 : l.Stops.length ≤ 1000) (h2 : l.Runs.length ≤ 1000) : s_l2Line l (st : Int) = some (decide (NameOK l.Name ∧ LineP st l)) := by
  unfold s_l2Line
  rw [l2Name_eq]
  have e0 : w64 ((l.Stops.length : Int) - 1) = (l.Stops.length : Int) - 1 := w64_id (by omega)
  have e1 : w64 ((st : Int) - 1) = (st : Int) - 1 := w64_id (by omega)
  simp only [Option.bind_some, e0, l1In_eq]
  by_cases a0 : NameOK l.Name
  · simp only [a0, decide_true, Bool.not_true, Bool.false_eq_true, if_false, true_and]
    by_cases a1 : 2 ≤ l.Stops.length ∧ l.Stops.length ≤ 6
    · have d1 : decide ((2 : Int) ≤ (l.Stops.length : Int) ∧ (l.Stops.length : Int) ≤ 6) = true := by simp; omega
      simp only [d1, Bool.not_true, Bool.false_eq_true, if_false]
      by_cases a2 : (l.Runs.length : Int) = (l.Stops.length : Int) - 1
      · have d2 : ((l.Runs.length : Int) != (l.Stops.length : Int) - 1) = false := by simp [a2]
        simp only [d2, Option.bind_some, Bool.false_eq_true, if_false]
        rw [all_val (hd := Classical.propDecidable _) l.Stops (fun i e => (0 ≤ e ∧ e < (st : Int)) ∧ fixI (fun y => e == y) l.Stops = (i : Int)) (fun i x hx => ?_) (by unfold s_l2Line_L1; simp)]
        · rw [all_val (hd := Classical.propDecidable _) l.Runs (fun i r => 1 ≤ r ∧ r ≤ 60) (fun i x hx => ?_) (by unfold s_l2Line_L2; simp)]
          · by_cases b1 : ∀ (i : Nat) e, l.Stops[i]? = some e → (0 ≤ e ∧ e < (st : Int)) ∧ fixI (fun y => e == y) l.Stops = (i : Int)
            · rw [if_pos b1]
              by_cases b2 : ∀ (i : Nat) r, l.Runs[i]? = some r → 1 ≤ r ∧ r ≤ 60
              · rw [if_pos b2]
                have : LineP st l := ⟨a1, a2, b1, b2⟩
                simp [this]
              · rw [if_neg b2]
                have : ¬ LineP st l := fun h => b2 h.2.2.2
                simp [this]
            · rw [if_neg b1]
              have : ¬ LineP st l := fun h => b1 h.2.2.1
              simp [this]
          · have hi := (List.getElem?_eq_some_iff.1 hx).1
            unfold s_l2Line_L2
            have hlt : decide ((i : Int) < (l.Runs.length : Int)) = true := by simp; omega
            simp only [hlt, if_true, idx_nat, hx, Option.bind_some, l1In_eq, w64_succ (n := i) (by omega)]
            by_cases b : 1 ≤ x ∧ x ≤ 60
            · left; simp [b]
            · right; simp [b]
        · have hi := (List.getElem?_eq_some_iff.1 hx).1
          unfold s_l2Line_L1
          have hlt : decide ((i : Int) < (l.Stops.length : Int)) = true := by simp; omega
          simp only [hlt, if_true, idx_nat, hx, Option.bind_some, l1In_eq, e1, l2Place_eq l (by omega), w64_succ (n := i) (by omega)]
          by_cases b1 : 0 ≤ x ∧ x < (st : Int)
          · have d3 : decide (0 ≤ x ∧ x ≤ (st : Int) - 1) = true := by simp; omega
            by_cases b2 : fixI (fun y => x == y) l.Stops = (i : Int)
            · left; simp only [d3]; simp [b1, b2]
            · right; simp only [d3]; simp [b1, b2]
          · have d3 : decide (0 ≤ x ∧ x ≤ (st : Int) - 1) = false := by simp; omega
            right; simp only [d3]; simp [b1]
      · have d2 : ((l.Runs.length : Int) != (l.Stops.length : Int) - 1) = true := by simp [a2]
        have : ¬ LineP st l := fun h => a2 h.2.1
        simp [d2, this]
    · have d1 : decide ((2 : Int) ≤ (l.Stops.length : Int) ∧ (l.Stops.length : Int) ≤ 6) = false := by simp; omega
      have : ¬ LineP st l := fun h => a1 h.1
      simp [d1, this]
  · simp [a0]

theorem valid_eq (n : Network) (h : Bd n) : i_IsValidNetwork n = some (decide (Good n)) := by
  obtain ⟨h1, h2, h3⟩ := h
  unfold i_IsValidNetwork
  simp only [within_eq, Option.bind_some, areNames_eq n.Stops h1, lineNames_eq n h2, areNames_eq (n.Lines.map (·.Name)) (by simpa using h2)]
  by_cases a1 : 2 ≤ n.Stops.length ∧ n.Stops.length ≤ 8
  · have d1 : decide ((2 : Int) ≤ (n.Stops.length : Int) ∧ (n.Stops.length : Int) ≤ 8) = true := by simp; omega
    simp only [d1, Bool.not_true, Bool.false_eq_true, if_false]
    by_cases a2 : 1 ≤ n.Lines.length ∧ n.Lines.length ≤ 5
    · have d2 : decide ((1 : Int) ≤ (n.Lines.length : Int) ∧ (n.Lines.length : Int) ≤ 5) = true := by simp; omega
      simp only [d2, Bool.not_true, Bool.false_eq_true, if_false]
      by_cases a3 : NamesP n.Stops
      · simp only [a3, decide_true, Bool.not_true, Bool.false_eq_true, if_false]
        by_cases a4 : NamesP (n.Lines.map (·.Name))
        · simp only [a4, decide_true, Bool.not_true, Option.bind_some, Bool.false_eq_true, if_false]
          rw [all_val (hd := Classical.propDecidable _) n.Lines (fun i x => LineP n.Stops.length x) (fun i x hx => ?_) (by unfold i_IsValidNetwork_L1; simp)]
          · by_cases b1 : ∀ (i : Nat) x, n.Lines[i]? = some x → LineP n.Stops.length x
            · rw [if_pos b1]
              have : Good n := ⟨a1, a2, a3, a4, b1⟩
              simp [this]
            · rw [if_neg b1]
              have : ¬ Good n := fun h => b1 h.2.2.2.2
              simp [this]
          · have hi := (List.getElem?_eq_some_iff.1 hx).1
            obtain ⟨g1, g2⟩ := h3 x (List.mem_of_getElem? hx)
            unfold i_IsValidNetwork_L1
            have hlt : decide ((i : Int) < (n.Lines.length : Int)) = true := by simp; omega
            simp only [hlt, if_true, idx_nat, hx, Option.bind_some, isValidLine_eq n x g1 g2, w64_succ (n := i) (by omega)]
            by_cases b : LineP n.Stops.length x
            · left; simp [b]
            · right; simp [b]
        · have : ¬ Good n := fun h => a4 h.2.2.2.1
          simp [a4, this]
      · have : ¬ Good n := fun h => a3 h.2.2.1
        simp [a3, this]
    · have d2 : decide ((1 : Int) ≤ (n.Lines.length : Int) ∧ (n.Lines.length : Int) ≤ 5) = false := by simp; omega
      have : ¬ Good n := fun h => a2 h.2.1
      simp [d2, this]
  · have d1 : decide ((2 : Int) ≤ (n.Stops.length : Int) ∧ (n.Stops.length : Int) ≤ 8) = false := by simp; omega
    have : ¬ Good n := fun h => a1 h.1
    simp [d1, this]

theorem good_eq (n : Network) (h : Bd n) : s_l2Good n = some (decide (Good n)) := by
  obtain ⟨h1, h2, h3⟩ := h
  unfold s_l2Good
  simp only [l1In_eq, Option.bind_some]
  by_cases a1 : 2 ≤ n.Stops.length ∧ n.Stops.length ≤ 8
  · have d1 : decide ((2 : Int) ≤ (n.Stops.length : Int) ∧ (n.Stops.length : Int) ≤ 8) = true := by simp; omega
    simp only [d1, Bool.not_true, Bool.false_eq_true, if_false]
    by_cases a2 : 1 ≤ n.Lines.length ∧ n.Lines.length ≤ 5
    · have d2 : decide ((1 : Int) ≤ (n.Lines.length : Int) ∧ (n.Lines.length : Int) ≤ 5) = true := by simp; omega
      simp only [d2, Bool.not_true, Option.bind_some, Bool.false_eq_true, if_false]
      rw [all_val (hd := Classical.propDecidable _) n.Stops (fun i x => NameOK x ∧ fixI (fun e => x.toList == e.toList) n.Stops = (i : Int)) (fun i x hx => ?_) (by unfold s_l2Good_L1; simp)]
      · rw [all_val (hd := Classical.propDecidable _) n.Lines (fun i x => (NameOK x.Name ∧ LineP n.Stops.length x) ∧ fixI (fun e => x.Name.toList == e.toList) (n.Lines.map (·.Name)) = (i : Int)) (fun i x hx => ?_) (by unfold s_l2Good_L2; simp)]
        · by_cases b1 : NamesP n.Stops
          · rw [if_pos (show ∀ (i : Nat) x, n.Stops[i]? = some x → NameOK x ∧ fixI (fun e => x.toList == e.toList) n.Stops = (i : Int) from b1)]
            by_cases b2 : ∀ (i : Nat) x, n.Lines[i]? = some x → (NameOK x.Name ∧ LineP n.Stops.length x) ∧ fixI (fun e => x.Name.toList == e.toList) (n.Lines.map (·.Name)) = (i : Int)
            · rw [if_pos b2]
              have : Good n := ⟨a1, a2, b1, fun i y hy => by
                rw [List.getElem?_map] at hy
                obtain ⟨x, hx, rfl⟩ := Option.map_eq_some_iff.1 hy
                exact ⟨(b2 i x hx).1.1, (b2 i x hx).2⟩, fun i x hx => (b2 i x hx).1.2⟩
              simp [this]
            · rw [if_neg b2]
              have : ¬ Good n := fun h => b2 fun i x hx => by
                have h4 := h.2.2.2.1 i x.Name (by rw [List.getElem?_map, hx]; rfl)
                exact ⟨⟨h4.1, h.2.2.2.2 i x hx⟩, h4.2⟩
              simp [this]
          · rw [if_neg (show ¬ ∀ (i : Nat) x, n.Stops[i]? = some x → NameOK x ∧ fixI (fun e => x.toList == e.toList) n.Stops = (i : Int) from b1)]
            have : ¬ Good n := fun h => b1 h.2.2.1
            simp [this]
        · have hi := (List.getElem?_eq_some_iff.1 hx).1
          obtain ⟨g1, g2⟩ := h3 x (List.mem_of_getElem? hx)
          unfold s_l2Good_L2
          have hlt : decide ((i : Int) < (n.Lines.length : Int)) = true := by simp; omega
          simp only [hlt, if_true, idx_nat, hx, Option.bind_some, l2Line_eq x n.Stops.length h1 g1 g2, l2LineNamed_eq n (by omega), w64_succ (n := i) (by omega)]
          by_cases b1 : NameOK x.Name ∧ LineP n.Stops.length x
          · by_cases b2 : fixI (fun e => x.Name.toList == e.toList) (n.Lines.map (·.Name)) = (i : Int)
            · left; simp [b1, b2]
            · right; simp [b1, b2]
          · right; simp [b1]
      · have hi := (List.getElem?_eq_some_iff.1 hx).1
        unfold s_l2Good_L1
        have hlt : decide ((i : Int) < (n.Stops.length : Int)) = true := by simp; omega
        simp only [hlt, if_true, idx_nat, hx, Option.bind_some, l2Name_eq, l2Find_eq n.Stops (by omega), w64_succ (n := i) (by omega)]
        by_cases b1 : NameOK x
        · by_cases b2 : fixI (fun e => x.toList == e.toList) n.Stops = (i : Int)
          · left; simp [b1, b2]
          · right; simp [b1, b2]
        · right; simp [b1]
    · have d2 : decide ((1 : Int) ≤ (n.Lines.length : Int) ∧ (n.Lines.length : Int) ≤ 5) = false := by simp; omega
      have : ¬ Good n := fun h => a2 h.2.1
      simp [d2, this]
  · have d1 : decide ((2 : Int) ≤ (n.Stops.length : Int) ∧ (n.Stops.length : Int) ≤ 8) = false := by simp; omega
    have : ¬ Good n := fun h => a1 h.1
    simp [d1, this]
/-! Copies, reversed lists, the reversed line. -/
theorem l1Own_eq (l : List Int) (h : l.length ≤ 1000) : s_l1Own_f l = some l := by
  unfold s_l1Own_f
  rw [chk_of (by simp; omega)]; rfl
theorem l2Own_eq (n : Network) (h : Bd n) : s_l2Own n = some n := by
  obtain ⟨h1, h2, h3⟩ := h
  unfold s_l2Own
  rw [chk_of (by simp; omega)]
  simp only [Option.bind_some]
  rw [app_loop (fun x : Line => x) n.Lines (fun i a x ha hx => ?_) (fun a ha => ?_)]
  · simp only [Option.bind_some, List.map_id', List.nil_append]
  · have hi := (List.getElem?_eq_some_iff.1 hx).1
    obtain ⟨g1, g2⟩ := h3 x (List.mem_of_getElem? hx)
    unfold s_l2Own_L1
    have hlt : decide ((i : Int) < (n.Lines.length : Int)) = true := by simp; omega
    have hch : ∀ y : Line, chk (a.length + ([y] : List Line).length ≤ 4294967296) = some () := fun y => chk_of (by simp; omega)
    simp only [hlt, if_true, idx_nat, hx, Option.bind_some, l1Own_eq _ g1, l1Own_eq _ g2, hch, w64_succ (n := i) (by omega)]
  · unfold s_l2Own_L1; simp
theorem l2Own_t_eq (n : Network) (h : Bd n) : s_l2Own_t n = some n := by
  have : s_l2Own_t n = s_l2Own n := rfl
  rw [this]; exact l2Own_eq n h

theorem l2Back_eq (s : List Int) (hs : s.length ≤ 1000) : s_l2Back s = some s.reverse := by
  unfold s_l2Back
  have e0 : w64 ((s.length : Int) - 1) = (s.length : Int) - 1 := w64_id (by omega)
  rw [e0]
  have h := iter_rule (step := s_l2Back_L1 s) (fun m a => ∃ j : Nat, a.1 = (s.length : Int) - 1 - j ∧ m + j = s.length ∧ a.2 = s.reverse.take j) (fun b => b = s.reverse) ?_ (k := s.length) (a := ((s.length : Int) - 1, [])) ⟨0, by simp, by omega, by simp⟩
  · obtain ⟨b, hb, rfl⟩ := h
    rw [hb]; rfl
  rintro m ⟨v, i⟩ ⟨j, hv, hm, hi⟩
  simp only at hv hi
  subst hv
  by_cases hlt : j < s.length
  · left
    have ev : (s.length : Int) - 1 - j = ((s.length - 1 - j : Nat) : Int) := by omega
    rw [ev]
    obtain ⟨e, he⟩ := get_ex (l := s) (i := s.length - 1 - j) (by omega)
    have hd : decide ((0 : Int) ≤ ((s.length - 1 - j : Nat) : Int)) = true := by simp
    have hlen : i.length = j := by rw [hi]; simp; omega
    have hch : chk (i.length + ([e] : List Int).length ≤ 4294967296) = some () := chk_of (by simp; omega)
    have ev2 : w64 (((s.length - 1 - j : Nat) : Int) - 1) = (s.length : Int) - 1 - ((j + 1 : Nat) : Int) := by rw [w64_id (by omega)]; omega
    refine ⟨((s.length : Int) - 1 - ((j + 1 : Nat) : Int), i ++ [e]), m - 1, ?_, by omega, j + 1, rfl, by omega, ?_⟩
    · unfold s_l2Back_L1
      simp only [hd, if_true, idx_nat, he, hch, Option.bind_some, ev2]
    · show i ++ [e] = _
      rw [take_succ (x := e) (by rw [List.getElem?_reverse hlt]; exact he), hi]
  · right
    have ej : j = s.length := by omega
    subst ej
    have hd : decide ((0 : Int) ≤ (s.length : Int) - 1 - (s.length : Int)) = false := by simp; omega
    refine ⟨i, by unfold s_l2Back_L1; simp only [hd, Bool.false_eq_true, if_false], ?_⟩
    rw [hi, List.take_of_length_le (by simp)]
theorem l2BackF_eq (s : List Int) (hs : s.length ≤ 1000) : s_l2Back_f s = some s.reverse := l2Back_eq s hs

/-- The network with the reversed line. -/
def Rev (n : Network) (e : Line) (name : ByteArray) : Network := ⟨n.Stops, n.Lines ++ [⟨name, e.Stops.reverse, e.Runs.reverse⟩]⟩
def Asked (n : Network) (line : Int) (name : ByteArray) : Prop := Good n ∧ 0 ≤ line ∧ ∃ e, n.Lines[line.toNat]? = some e ∧ Good (Rev n e name)
theorem good_lines {n : Network} (h : Good n) : n.Lines.length ≤ 5 := h.2.1.2
theorem rev_bd {n : Network} {e : Line} {name : ByteArray} (h : Bd n) (hg : Good n) (he : e ∈ n.Lines) : Bd (Rev n e name) := by
  obtain ⟨h1, h2, h3⟩ := h
  have := good_lines hg
  refine ⟨h1, by simp [Rev]; omega, fun x hx => ?_⟩
  rcases List.mem_append.1 hx with hx | hx
  · exact h3 x hx
  · simp at hx
    subst hx
    obtain ⟨g1, g2⟩ := h3 e he
    exact ⟨by simpa using g1, by simpa using g2⟩

/-! The draws: they answer, with bounds. -/
/-- A drawn line. -/
def LB (x : Line) : Prop := (2 ≤ x.Stops.length ∧ x.Stops.length ≤ 10) ∧ 1 ≤ x.Runs.length ∧ x.Runs.length ≤ 10
def NB (n : Network) : Prop := (2 ≤ n.Stops.length ∧ n.Stops.length ≤ 6) ∧ (1 ≤ n.Lines.length ∧ n.Lines.length ≤ 8) ∧ ∀ x ∈ n.Lines, LB x
theorem NB.bd {n : Network} (h : NB n) : Bd n := ⟨by have := h.1; omega, by have := h.2.1; omega, fun x hx => by have := h.2.2 x hx; unfold LB at this; omega⟩
theorem l1Num_ok (n : Int) (h0 : 0 ≤ n) (h1 : n < 10) : ∃ r, s_l1Num n = some r ∧ r.size ≤ 10 := by
  have e : s_l1Num n = s_l1Num_F (s_l1Num_k 4294967295) n := rfl
  rw [e]
  unfold s_l1Num_F
  have d1 : decide (n < 0) = false := by simp; omega
  have d2 : decide (n < 10) = true := by simp; omega
  have e1 : w64 (n + 1) = n + 1 := w64_id (by omega)
  have hs : (str [48, 49, 50, 51, 52, 53, 54, 55, 56, 57]).size = 10 := rfl
  simp only [d1, d2, Bool.false_eq_true, if_false, if_true, e1, hs]
  rw [chk_of (by omega)]
  refine ⟨_, rfl, ?_⟩
  rw [ByteArray.size_extract, hs]
  omega

theorem line_ok {k : Nat} {c : l1Cur} (name : ByteArray) (stops : Int) (hs : 2 ≤ stops ∧ stops ≤ 1000) (h : Cur k c) (hk : k ≤ 1000000000) : ∃ r, s_l1Cur_line c name stops = some r ∧ Cur (k + 40) r.2 ∧ LB r.1 := by
  unfold s_l1Cur_line
  obtain ⟨r, hr, hc, h0, h1⟩ := pick_ok stops h (by omega)
  obtain ⟨r1, hr1, hc1, h10, h11⟩ := pick_ok 3 hc (by omega)
  simp only [hr, hr1, Option.bind_some]
  have e1 : w64 (2 + r1.1) = ((2 + r1.1.toNat : Nat) : Int) := by rw [w64_id (by omega)]; omega
  rw [e1]
  have loop : ∃ b, iter (s_l1Cur_line_L1 name stops) (r.1, ((2 + r1.1.toNat : Nat) : Int), r1.2.code_, r1.2.at_, r1.2.seed_.v, []) = some b ∧ (Cur (k + 4 + 2 * 4) ⟨b.1, b.2.1, ⟨b.2.2.1⟩⟩ ∧ 1 ≤ b.2.2.2.length ∧ b.2.2.2.length ≤ 4) := by
    refine iter_rule (fun m a => (0 ≤ a.1 ∧ a.1 < stops) ∧ a.2.1 = (m : Int) ∧ m + a.2.2.2.2.2.length ≤ 4 ∧ (1 ≤ m ∨ 1 ≤ a.2.2.2.2.2.length) ∧ Cur (k + 4 + 2 * (4 - m)) ⟨a.2.2.1, a.2.2.2.1, ⟨a.2.2.2.2.1⟩⟩) _ ?_ (k := 2 + r1.1.toNat) ⟨⟨h0, by show r.1 < stops; omega⟩, rfl, by simp; omega, .inl (by omega), hc1.mono (by omega)⟩
    rintro m ⟨v, v1, v2, v3, v4, v5⟩ ⟨hv, hv1, hl, hne, hcur⟩
    simp only at hv hv1 hl hne hcur
    subst hv1
    unfold s_l1Cur_line_L1
    cases m with
    | zero => right; exact ⟨_, by simp; rfl, hcur, by show 1 ≤ v5.length; omega, by show v5.length ≤ 4; omega⟩
    | succ m =>
      left
      have hpos : decide ((0 : Int) < ((m + 1 : Nat) : Int)) = true := by simp
      obtain ⟨r3, hr3, hc3, h30, h31⟩ := pick_ok 2 hcur (by omega)
      have hpl := l2Place_eq (⟨name, v5, []⟩ : Line) (by show v5.length ≤ _; omega) v
      have hch : chk (v5.length + ([v] : List Int).length ≤ 4294967296) = some () := chk_of (by simp; omega)
      have hne0 : chk (stops ≠ 0) = some () := chk_of (by omega)
      have w1 : w64 (v + 1) = v + 1 := w64_id (by omega)
      have w2 : w64 (v + 1 + r3.1) = v + 1 + r3.1 := w64_id (by omega)
      have ht := tmod_rng (a := v + 1 + r3.1) (b := stops) (by omega) (by omega)
      simp only [hpos, if_true, hpl, hch, hr3, hne0, w1, w2, Option.bind_some]
      have w3 : w64 (((m + 1 : Nat) : Int) - 1) = (m : Int) := w64_pred (by omega)
      split
      · refine ⟨_, m, by simp only [Option.bind_some]; rfl, by omega, ht, w3, ?_, .inr ?_, ?_⟩
        · simp; omega
        · simp
        · exact hc3.mono (by omega)
      · rename_i hn
        refine ⟨_, m, by simp only [Option.bind_some]; rfl, by omega, ht, w3, ?_, .inr ?_, ?_⟩
        · show m + v5.length ≤ 4; omega
        · show 1 ≤ v5.length
          cases v5 with
          | nil => simp [fixI] at hn
          | cons a l => simp
        · exact hc3.mono (by omega)
  obtain ⟨⟨v7, v8, v9, v10⟩, hb, hcb, hlb⟩ := loop
  simp only at hcb hlb
  rw [hb]
  simp only [Option.bind_some]
  -- at least two stops
  have two : ∃ v11 : List Int, (if decide ((v10.length : Int) < 2) = true then (idx v10 0).bind fun e1 => (chk ((stops : Int) ≠ 0)).bind fun u4 => (chk (v10.length + ([((w64 (e1 + 1)).tmod stops)] : List Int).length ≤ 4294967296)).bind fun u5 => some (v10 ++ ([((w64 (e1 + 1)).tmod stops)] : List Int)) else some v10) = some v11 ∧ 2 ≤ v11.length ∧ v11.length ≤ 5 := by
    by_cases h2 : (v10.length : Int) < 2
    · obtain ⟨e, he, _⟩ := idx_lt (l := v10) (i := 0) (by omega) (by omega)
      have hch : ∀ y : Int, chk (v10.length + ([y] : List Int).length ≤ 4294967296) = some () := fun y => chk_of (by simp; omega)
      have hne0 : chk (stops ≠ 0) = some () := chk_of (by omega)
      refine ⟨v10 ++ [(w64 (e + 1)).tmod stops], by simp only [h2, decide_true, if_true, he, hne0, hch, Option.bind_some], ?_, ?_⟩
      · simp; omega
      · simp; omega
    · exact ⟨v10, by simp [h2], by omega, by omega⟩
  obtain ⟨v11, hv11, l1, l2⟩ := two
  rw [hv11]
  simp only [Option.bind_some]
  have loop2 : ∃ b, iter (s_l1Cur_line_L2 v11) (1, v7, v8, v9, []) = some b ∧ (Cur (k + 40) ⟨b.1, b.2.1, ⟨b.2.2.1⟩⟩ ∧ b.2.2.2.length + 1 = v11.length) := by
    refine iter_rule (fun m a => ∃ i : Nat, a.1 = (i : Int) ∧ m + i = v11.length ∧ a.2.2.2.2.length + 1 = i ∧ Cur (k + 12 + 2 * i) ⟨a.2.1, a.2.2.1, ⟨a.2.2.2.1⟩⟩) _ ?_ (k := v11.length - 1) ⟨1, rfl, by omega, rfl, hcb.mono (by omega)⟩
    rintro m ⟨v12, v13, v14, v15, v16⟩ ⟨i, hi, hm, hl, hcur⟩
    simp only at hi hl hcur
    subst hi
    unfold s_l1Cur_line_L2
    by_cases hlt : i < v11.length
    · left
      have hd : decide ((i : Int) < (v11.length : Int)) = true := by simp; omega
      obtain ⟨r5, hr5, hc5, _⟩ := pick_ok 12 hcur (by omega)
      have hch : ∀ y : Int, chk (v16.length + ([y] : List Int).length ≤ 4294967296) = some () := fun y => chk_of (by simp; omega)
      refine ⟨_, m - 1, by simp only [hd, if_true, hr5, hch, Option.bind_some, w64_succ (n := i) (by omega)]; rfl, by omega, i + 1, rfl, by omega, ?_, ?_⟩
      · simp; omega
      · exact hc5.mono (by omega)
    · right
      have hd : decide ((i : Int) < (v11.length : Int)) = false := by simp; omega
      refine ⟨_, by simp only [hd, Bool.false_eq_true, if_false]; rfl, ?_, ?_⟩
      · exact hcur.mono (by omega)
      · show v16.length + 1 = _; omega
  obtain ⟨⟨v17, v18, v19, v20⟩, hb2, hcb2, hl2⟩ := loop2
  simp only at hcb2 hl2
  rw [hb2]
  simp only [Option.bind_some]
  exact ⟨_, rfl, hcb2, ⟨l1, by show v11.length ≤ 10; omega⟩, by show 1 ≤ v20.length; omega, by show v20.length ≤ 10; omega⟩
theorem lineF_ok {k : Nat} {c : l1Cur} (name : ByteArray) (stops : Int) (hs : 2 ≤ stops ∧ stops ≤ 1000) (h : Cur k c) (hk : k ≤ 1000000000) : ∃ r, s_l1Cur_line_f c name stops = some r ∧ Cur (k + 40) r.2 ∧ LB r.1 := line_ok name stops hs h hk

theorem six_len (i : Nat) (h2 : 2 ≤ i) (h6 : i ≤ 6) (l : List ByteArray) (hl : l.length = 6) : 2 ≤ ((l.take i).drop (0 : Int).toNat).length ∧ ((l.take i).drop (0 : Int).toNat).length ≤ 6 := by
  simp; omega

theorem networkT_ok {k : Nat} {c : l1Cur} (h : Cur k c) (hk : k ≤ 500000000) : ∃ r, s_l1Cur_network_t c = some r ∧ Cur (k + 300) r.2 ∧ NB r.1 := by
  unfold s_l1Cur_network_t
  obtain ⟨r, hr, hc, h0, h1⟩ := pick_ok 5 h (by omega)
  have e1 : w64 (2 + r.1) = 2 + r.1 := w64_id (by omega)
  have hsix : ([(str [112, 111, 114, 116]), (str [109, 105, 108, 108]), (str [112, 97, 114, 107]), (str [104, 97, 108, 108]), (str [100, 111, 99, 107]), (str [102, 97, 105, 114])] : List ByteArray).length = 6 := rfl
  simp only [hr, Option.bind_some, e1, hsix]
  rw [chk_of (by omega)]
  obtain ⟨r1, hr1, hc1, h10, h11⟩ := pick_ok 3 hc (by omega)
  have e2 : w64 (1 + r1.1) = ((1 + r1.1.toNat : Nat) : Int) := by rw [w64_id (by omega)]; omega
  simp only [hr1, Option.bind_some, e2]
  have loop : ∃ b, iter (s_l1Cur_network_t_L1 r) (((1 + r1.1.toNat : Nat) : Int), r1.2.code_, r1.2.at_, r1.2.seed_.v, []) = some b ∧ (Cur (k + 4 + 40 * 3) ⟨b.1, b.2.1, ⟨b.2.2.1⟩⟩ ∧ (1 ≤ b.2.2.2.length ∧ b.2.2.2.length ≤ 3) ∧ ∀ x ∈ b.2.2.2, LB x) := by
    refine iter_rule (fun m a => a.1 = (m : Int) ∧ m + a.2.2.2.2.length ≤ 3 ∧ 1 ≤ m + a.2.2.2.2.length ∧ (∀ x ∈ a.2.2.2.2, LB x) ∧ Cur (k + 4 + 40 * (3 - m)) ⟨a.2.1, a.2.2.1, ⟨a.2.2.2.1⟩⟩) _ ?_ (k := 1 + r1.1.toNat) ⟨rfl, by simp; omega, by simp, by simp, hc1.mono (by omega)⟩
    rintro m ⟨x, v, v1, v2, v3⟩ ⟨hx, hl, hl1, hlb, hcur⟩
    simp only at hx hl hl1 hlb hcur
    subst hx
    unfold s_l1Cur_network_t_L1
    cases m with
    | zero => right; exact ⟨_, by simp; rfl, hcur, ⟨by show 1 ≤ v3.length; omega, by show v3.length ≤ 3; omega⟩, hlb⟩
    | succ m =>
      left
      have hpos : decide ((0 : Int) < ((m + 1 : Nat) : Int)) = true := by simp
      obtain ⟨r4, hr4, hs4⟩ := l1Num_ok ((m + 1 : Nat) : Int) (by omega) (by omega)
      have hs : (str [108]).size = 1 := rfl
      have hch : chk ((str [108]).size + r4.size ≤ 4294967296) = some () := chk_of (by omega)
      obtain ⟨r5, hr5, hc5, hb5⟩ := lineF_ok (str [108] ++ r4) (2 + r.1) (by omega) hcur (by omega)
      have hch2 : ∀ y : Line, chk (v3.length + ([y] : List Line).length ≤ 4294967296) = some () := fun y => chk_of (by simp; omega)
      refine ⟨_, m, by simp only [hpos, if_true, hr4, hch, e1, hr5, hch2, Option.bind_some]; rfl, by omega, ?_, ?_, ?_, ?_, ?_⟩
      · exact w64_pred (by omega)
      · simp; omega
      · simp; omega
      · intro y hy
        rcases List.mem_append.1 hy with hy | hy
        · exact hlb y hy
        · simp at hy; subst hy; exact hb5
      · exact hc5.mono (by omega)
  obtain ⟨⟨v4, v5, v6, v7⟩, hb, hcb, hlb, hall⟩ := loop
  simp only at hcb hlb hall
  rw [hb]
  simp only [Option.bind_some]
  obtain ⟨r6, hr6, hc6⟩ := one_ok 2 hcb (by omega)
  simp only [hr6, Option.bind_some]
  have fin : ∀ (v8 : List UInt8) (v9 v10 : Int) (v11 : List Line), Cur (k + 200) ⟨v8, v9, ⟨v10⟩⟩ → (1 ≤ v11.length ∧ v11.length ≤ 8) → (∀ x ∈ v11, LB x) →
      ∃ r', ((s_l2Own_t (⟨((([(str [112, 111, 114, 116]), (str [109, 105, 108, 108]), (str [112, 97, 114, 107]), (str [104, 97, 108, 108]), (str [100, 111, 99, 107]), (str [102, 97, 105, 114])] : List ByteArray).take (2 + r.1).toNat).drop (0 : Int).toNat), v11⟩ : Network)).bind fun r11 => some ((⟨r11.Stops, r11.Lines⟩ : Network), (⟨v8, v9, (⟨v10⟩ : IK .u64)⟩ : l1Cur))) = some r' ∧ Cur (k + 300) r'.2 ∧ NB r'.1 := by
    intro v8 v9 v10 v11 g1 g2 g3
    have hst := six_len (2 + r.1).toNat (by omega) (by omega) _ hsix
    have hnb : NB (⟨((([(str [112, 111, 114, 116]), (str [109, 105, 108, 108]), (str [112, 97, 114, 107]), (str [104, 97, 108, 108]), (str [100, 111, 99, 107]), (str [102, 97, 105, 114])] : List ByteArray).take (2 + r.1).toNat).drop (0 : Int).toNat), v11⟩ : Network) := ⟨hst, g2, g3⟩
    rw [l2Own_t_eq _ hnb.bd]
    exact ⟨_, rfl, g1.mono (by omega), hnb⟩
  split
  · obtain ⟨e, he, _, hem⟩ := idx_lt (l := v7) (i := 0) (by omega) (by omega)
    obtain ⟨g1, g2⟩ := hall e hem
    have hch2 : ∀ y : Line, chk (v7.length + ([y] : List Line).length ≤ 4294967296) = some () := fun y => chk_of (by simp; omega)
    simp only [he, l2BackF_eq e.Stops (by omega), l2BackF_eq e.Runs (by omega), hch2, Option.bind_some]
    refine fin _ _ _ _ (hc6.mono (by omega)) (by simp; omega) fun y hy => ?_
    rcases List.mem_append.1 hy with hy | hy
    · exact hall y hy
    · simp at hy; subst hy
      exact ⟨by simpa using g1, by simpa using g2⟩
  · simp only [Option.bind_some]
    exact fin _ _ _ _ (hc6.mono (by omega)) (by omega) hall

theorem anyNetwork_ok {k : Nat} {c : l1Cur} (h : Cur k c) (hk : k ≤ 200000000) : ∃ r, s_l1Cur_anyNetwork c = some r ∧ Cur (k + 1000) r.2 ∧ Bd r.1 := by
  unfold s_l1Cur_anyNetwork
  obtain ⟨r, hr, hc, hnb⟩ := networkT_ok h (by omega)
  obtain ⟨n1, n2, n3⟩ := hnb
  obtain ⟨r1, hr1, hc1, h10, h11⟩ := pick_ok (r.1.Lines.length : Int) hc (by omega)
  obtain ⟨e, he, he2, hem⟩ := idx_lt (l := r.1.Lines) (i := r1.1) h10 (by omega)
  obtain ⟨g1, g2⟩ := n3 e hem
  obtain ⟨r2, hr2, hc2, _⟩ := pick_ok 24 hc1 (by omega)
  simp only [hr, hr1, he, hr2, Option.bind_some]
  have fin : ∀ (v : List UInt8) (v1 v2 : Int) (v3 : ByteArray) (v4 : List ByteArray) (v5 : List Line) (v6 : List Int), Cur (k + 900) ⟨v, v1, ⟨v2⟩⟩ → v4.length ≤ 6 → v5.length = r.1.Lines.length → (∀ x ∈ v5, LB x) → v6.length ≤ 11 →
      ∃ r', ((idx v5 r1.1).bind fun e9 => some ((⟨v4, (v5.set r1.1.toNat (⟨v3, e9.Stops, v6⟩ : Line))⟩ : Network), (⟨v, v1, (⟨v2⟩ : IK .u64)⟩ : l1Cur))) = some r' ∧ Cur (k + 1000) r'.2 ∧ Bd r'.1 := by
    intro v v1 v2 v3 v4 v5 v6 q1 q2 q3 q4 q5
    obtain ⟨e9, he9, _, hm9⟩ := idx_lt (l := v5) (i := r1.1) h10 (by omega)
    rw [he9]
    refine ⟨_, rfl, q1.mono (by omega), by show v4.length ≤ _; omega, by simp; omega, fun x hx => ?_⟩
    rcases List.mem_or_eq_of_mem_set hx with hx | hx
    · have := q4 x hx
      unfold LB at this; omega
    · subst hx
      have := q4 e9 hm9
      unfold LB at this
      exact ⟨by show e9.Stops.length ≤ _; omega, by show v6.length ≤ _; omega⟩
  split
  · obtain ⟨r4, hr4, hc4, _⟩ := ofw_ok ([(str [109, 105, 108, 108]), (str []), (str [65]), (str [97, 98, 99, 100, 101, 102, 103, 104]), (str [97, 98, 99, 100, 101, 102, 103, 104, 105])] : List ByteArray) (by simp) hc2 (by omega)
    obtain ⟨e2, he2', _⟩ := idx_lt (l := r.1.Stops) (i := 0) (by omega) (by omega)
    simp only [hr4, he2', Option.bind_some, flb_go]
    exact fin _ _ _ _ _ _ _ (hc4.mono (by omega)) (by simp; omega) rfl n3 (by omega)
  split
  · obtain ⟨r5, hr5, hc5, _⟩ := ofw_ok ([(str [114, 49]), (str [108, 49]), (str []), (str [88])] : List ByteArray) (by simp) hc2 (by omega)
    simp only [hr5, Option.bind_some, flb_go]
    exact fin _ _ _ _ _ _ _ (hc5.mono (by omega)) (by omega) rfl n3 (by omega)
  split
  · obtain ⟨r8, hr8, hc8, h80, h81⟩ := pick_ok (e.Stops.length : Int) hc2 (by omega)
    obtain ⟨r9, hr9, hc9, _⟩ := pick_ok 10 hc8 (by omega)
    obtain ⟨e4, he4, _⟩ := idx_lt (l := e.Stops) (i := r8.1) h80 (by omega)
    simp only [hr8, hr9, he4, Option.bind_some, flb_go]
    refine fin _ _ _ _ _ _ _ (hc9.mono (by omega)) (by omega) (by simp) (fun x hx => ?_) (by show e.Runs.length ≤ 11; omega)
    rcases List.mem_or_eq_of_mem_set hx with hx | hx
    · exact n3 x hx
    · subst hx; exact ⟨by simpa using g1, g2⟩
  split
  · obtain ⟨r12, hr12, hc12, h120, h121⟩ := pick_ok (e.Runs.length : Int) hc2 (by omega)
    obtain ⟨r13, hr13, hc13, _⟩ := amongw_ok ([0, 60, 61, (-1)] : List Int) (by simp) hc12 (by omega)
    obtain ⟨e6, he6, _⟩ := idx_lt (l := e.Runs) (i := r12.1) h120 (by omega)
    simp only [hr12, hr13, he6, Option.bind_some, flb_go]
    refine fin _ _ _ _ _ _ _ (hc13.mono (by omega)) (by omega) (by simp) (fun x hx => ?_) (by simp; omega)
    rcases List.mem_or_eq_of_mem_set hx with hx | hx
    · exact n3 x hx
    · subst hx; exact ⟨g1, by simpa using g2⟩
  split
  · have hch : chk (e.Runs.length + ([3] : List Int).length ≤ 4294967296) = some () := chk_of (by simp; omega)
    simp only [hch, Option.bind_some, flb_go]
    exact fin _ _ _ _ _ _ _ (hc2.mono (by omega)) (by omega) rfl n3 (by simp; omega)
  split
  · simp only [flb_ret]
    exact ⟨_, rfl, hc2.mono (by omega), by show r.1.Stops.length ≤ _; omega, by simp, by simp⟩
  split
  · have loop : ∃ b, iter (s_l1Cur_anyNetwork_L1 r) (0, r2.2.code_, r2.2.at_, r2.2.seed_.v, r.1.Lines) = some b ∧ (Cur (k + 900) ⟨b.1, b.2.1, ⟨b.2.2.1⟩⟩ ∧ b.2.2.2.length ≤ 20 ∧ ∀ x ∈ b.2.2.2, LB x) := by
      refine iter_rule (fun m a => ∃ i : Nat, a.1 = (i : Int) ∧ m + i = 8 ∧ i ≤ 7 ∧ a.2.2.2.2.length ≤ 8 + i ∧ (∀ x ∈ a.2.2.2.2, LB x) ∧ Cur (k + 310 + 50 * i) ⟨a.2.1, a.2.2.1, ⟨a.2.2.2.1⟩⟩) _ ?_ (k := 8) ⟨0, rfl, rfl, by omega, by simpa using n2.2, n3, hc2.mono (by omega)⟩
      rintro m ⟨v7, v8, v9, v10, v11⟩ ⟨i, hi, hm, hi7, hl, hlb, hcur⟩
      simp only at hi hl hlb hcur
      subst hi
      unfold s_l1Cur_anyNetwork_L1
      obtain ⟨r16, hr16, hc16, h160, h161⟩ := pick_ok 2 hcur (by omega)
      have w1 : w64 (5 + r16.1) = 5 + r16.1 := w64_id (by omega)
      simp only [hr16, w1, Option.bind_some]
      by_cases a1 : (v11.length : Int) < 5 + r16.1 ∧ (i : Int) < 7
      · left
        have d1 : decide ((v11.length : Int) < 5 + r16.1) = true := by simp; omega
        have d2 : decide ((i : Int) < 7) = true := by simp; omega
        obtain ⟨r19, hr19, hs19⟩ := l1Num_ok (i : Int) (by omega) (by omega)
        have hs : (str [120]).size = 1 := rfl
        have hch : chk ((str [120]).size + r19.size ≤ 4294967296) = some () := chk_of (by omega)
        obtain ⟨r20, hr20, hc20, hb20⟩ := line_ok (str [120] ++ r19) (r.1.Stops.length : Int) (by omega) hc16 (by omega)
        have hch2 : ∀ y : Line, chk (v11.length + ([y] : List Line).length ≤ 4294967296) = some () := fun y => chk_of (by simp; omega)
        refine ⟨_, m - 1, by simp only [d1, d2, if_true, hr19, hch, hr20, hch2, Option.bind_some, w64_succ (n := i) (by omega)]; rfl, by omega, i + 1, rfl, by omega, by omega, ?_, fun x hx => ?_, ?_⟩
        · simp; omega
        · rcases List.mem_append.1 hx with hx | hx
          · exact hlb x hx
          · simp at hx; subst hx; exact hb20
        · exact hc20.mono (by omega)
      · right
        have hcond : (if decide ((v11.length : Int) < 5 + r16.1) = true then some (decide ((i : Int) < 7)) else some false) = some false := by
          by_cases b1 : (v11.length : Int) < 5 + r16.1
          · have : decide ((i : Int) < 7) = false := by simp; omega
            simp [b1, this]
          · simp [b1]
        refine ⟨_, by simp only [hcond, Option.bind_some, Bool.false_eq_true, if_false]; rfl, ?_, ?_, hlb⟩
        · exact hc16.mono (by omega)
        · show v11.length ≤ 20; omega
    obtain ⟨⟨v13, v14, v15, v16⟩, hb, hcb, hlb, hall⟩ := loop
    simp only at hcb hlb hall
    rw [hb]
    simp only [Option.bind_some, flb_ret]
    refine ⟨_, rfl, hcb.mono (by omega), by show r.1.Stops.length ≤ _; omega, by show v16.length ≤ _; omega, fun x hx => ?_⟩
    have := hall x hx
    unfold LB at this; omega
  · simp only [flb_go]
    exact fin _ _ _ _ _ _ _ (hc2.mono (by omega)) (by omega) rfl n3 (by omega)

/-! Timetables: when they are valid. -/
def TB (t : Timetable) : Prop := Bd t.Network ∧ t.Trips.length ≤ 1000
def TripP (n : Network) (x : Trip) : Prop := (1 ≤ x.Id ∧ x.Id ≤ 999) ∧ ∃ l, idx n.Lines x.Line = some l ∧ (0 ≤ x.Start ∧ x.Start ≤ 1799) ∧ 0 ≤ x.Start + l.Runs.sum ∧ x.Start + l.Runs.sum ≤ 1799
def GoodT (t : Timetable) : Prop := Good t.Network ∧ t.Trips.length ≤ 12 ∧ (∀ (i : Nat) x, t.Trips[i]? = some x → TripP t.Network x) ∧ ∀ (i : Nat) a b, t.Trips[i]? = some a → t.Trips[i + 1]? = some b → a.Id < b.Id
noncomputable instance (t : Timetable) : Decidable (GoodT t) := Classical.propDecidable _
noncomputable instance (n : Network) (x : Trip) : Decidable (TripP n x) := Classical.propDecidable _
theorem time_eq (t : Int) : i_IsValidTime t = some (decide (0 ≤ t ∧ t ≤ 1799)) := by
  unfold i_IsValidTime; rw [within_eq]; rfl
theorem l4Time_eq (t : Int) : s_l4Time t = some (decide (0 ≤ t ∧ t ≤ 1799)) := by
  unfold s_l4Time; rw [l1In_eq]; rfl
theorem total_eq (l : List Int) (h1 : l.length ≤ 1000000) (h2 : ∀ x ∈ l, 0 ≤ x ∧ x ≤ 1000000) : i_total l = some l.sum := by
  unfold i_total
  rw [sum_loop (fun x : Int => x) l h1 h2 (fun i s x hx => ?_) (fun s => ?_)]
  · simp
  · have := get_lt hx
    unfold i_total_L1
    simp (disch := omega) only [if_pos, if_neg, decide_eq_true_eq, decide_true, decide_false, Bool.not_true, Bool.not_false, Bool.false_eq_true, Bool.not_eq_true', decide_eq_false_iff_not, if_true, if_false, w64_id, chk_of, idx_nat, Option.bind_some, Option.map_some, Int.toNat_natCast, not_true_eq_false, not_false_eq_true, true_and, and_true, and_self, false_and, and_false, reduceIte, flb_go, flb_ret, beq_self_eq_true, ne_eq, bne_self_eq_false, Int.ofNat_lt.2 this, hx]
  · unfold i_total_L1; simp
theorem l2Run_eq (x : Line) (a b : Nat) (hab : a ≤ b) (hb : b ≤ x.Runs.length) (hl : x.Runs.length ≤ 1000) (h2 : ∀ r ∈ x.Runs, 0 ≤ r ∧ r ≤ 1000000) : s_l2Run x (a : Int) (b : Int) = some (((x.Runs.take b).drop a).sum) := by
  unfold s_l2Run
  refine Tot.val (.call (P := fun v => v = ((x.Runs.take b).drop a).sum) ?_ fun v h => .ok h)
  refine .iter (fun m s => ∃ k : Nat, s.2 = ((a + k : Nat) : Int) ∧ m + k = b - a ∧ s.1 = (((x.Runs.take b).drop a).take k).sum) (n := b - a) ⟨0, by simp, by omega, by simp⟩ ?_
  rintro m ⟨s, v⟩ ⟨k, hk, hm, hs⟩
  simp only at hk hs
  subst hk
  unfold s_l2Run_L1
  refine .iteP (fun hc => ?_) (fun hc => .dn ?_)
  · obtain ⟨r, hr⟩ := get_ex (l := x.Runs) (i := a + k) (by omega)
    have hr2 : ((x.Runs.take b).drop a)[k]? = some r := by
      rw [List.getElem?_drop, List.getElem?_take_of_lt (by omega)]; exact hr
    have hb1 := h2 r (List.mem_of_getElem? hr)
    have hb2 := sum_bd (l := ((x.Runs.take b).drop a).take k) (M := 1000000) fun y hy => h2 y (List.mem_of_mem_take (List.mem_of_mem_drop (List.mem_of_mem_take hy)))
    have hlen : ((((x.Runs.take b).drop a).take k).length : Int) ≤ 1000 := by simp; omega
    rw [← hs] at hb2
    refine .eq (by rw [idx_nat]; exact hr) (.nx ⟨m - 1, by omega, k + 1, ?_, by omega, ?_⟩)
    · show w64 (((a + k : Nat) : Int) + 1) = _
      rw [w64_id (by omega)]; omega
    · show w64 (s + r) = _
      rw [w64_id (by omega), sum_take_succ hr2, hs]
  · rw [hs, List.take_of_length_le (by rw [List.length_drop, List.length_take]; omega)]
theorem good_line {n : Network} (h : Good n) {k : Int} {l : Line} (hl : idx n.Lines k = some l) : LineP n.Stops.length l := h.2.2.2.2 _ l (idx_some hl).2.2
theorem line_stop {st : Nat} {l : Line} (h : LineP st l) {j : Nat} {s : Int} (hs : l.Stops[j]? = some s) : 0 ≤ s ∧ s < (st : Int) := (h.2.2.1 j s hs).1
theorem line_runs {st : Nat} {l : Line} (h : LineP st l) : (l.Runs.length + 1 = l.Stops.length ∧ 1 ≤ l.Runs.length ∧ l.Runs.length ≤ 5) ∧ ∀ r ∈ l.Runs, 1 ≤ r ∧ r ≤ 60 := by
  obtain ⟨h1, h2, h3, h4⟩ := h
  refine ⟨by omega, fun r hr => ?_⟩
  obtain ⟨i, hi⟩ := List.getElem?_of_mem hr
  exact h4 i r hi
theorem runs_sum {st : Nat} {l : Line} (h : LineP st l) (k : Nat) : 0 ≤ (l.Runs.take k).sum ∧ (l.Runs.take k).sum ≤ 300 := by
  obtain ⟨⟨h1, h2, h3⟩, h4⟩ := line_runs h
  have := sum_bd (l := l.Runs.take k) (M := 60) fun x hx => by have := h4 x (List.mem_of_mem_take hx); omega
  have hl : ((l.Runs.take k).length : Int) ≤ 5 := by simp; omega
  omega
theorem runs_sum' {st : Nat} {l : Line} (h : LineP st l) : 0 ≤ l.Runs.sum ∧ l.Runs.sum ≤ 300 := by
  have := runs_sum h l.Runs.length
  rwa [List.take_length] at this
theorem endOf_eq {t : Timetable} (hg : Good t.Network) {x : Trip} {l : Line} (hl : idx t.Network.Lines x.Line = some l) (hs : 0 ≤ x.Start ∧ x.Start ≤ 1799) : i_endOf t x = some (x.Start + l.Runs.sum) := by
  have h := good_line hg hl
  obtain ⟨⟨h1, h2, h3⟩, h4⟩ := line_runs h
  have h5 := runs_sum' h
  unfold i_endOf
  rw [hl]
  simp only [Option.bind_some]
  rw [total_eq l.Runs (by omega) (fun x hx => by have := h4 x hx; omega)]
  simp (disch := omega) only [if_pos, if_neg, decide_eq_true_eq, decide_true, decide_false, Bool.not_true, Bool.not_false, Bool.false_eq_true, Bool.not_eq_true', decide_eq_false_iff_not, if_true, if_false, w64_id, chk_of, idx_nat, Option.bind_some, Option.map_some, Int.toNat_natCast, not_true_eq_false, not_false_eq_true, true_and, and_true, and_self, false_and, and_false, reduceIte, flb_go, flb_ret, beq_self_eq_true, ne_eq, bne_self_eq_false]
theorem l5Line_eq {t : Timetable} {i : Nat} {x : Trip} {l : Line} (hx : t.Trips[i]? = some x) (hl : idx t.Network.Lines x.Line = some l) : s_l5Line t (i : Int) = some l := by
  unfold s_l5Line
  simp (disch := omega) only [if_pos, if_neg, decide_eq_true_eq, decide_true, decide_false, Bool.not_true, Bool.not_false, Bool.false_eq_true, Bool.not_eq_true', decide_eq_false_iff_not, if_true, if_false, w64_id, chk_of, idx_nat, Option.bind_some, Option.map_some, Int.toNat_natCast, not_true_eq_false, not_false_eq_true, true_and, and_true, and_self, false_and, and_false, reduceIte, flb_go, flb_ret, beq_self_eq_true, ne_eq, bne_self_eq_false, hx, hl]
theorem l5Stops_eq {t : Timetable} {i : Nat} {x : Trip} {l : Line} (hx : t.Trips[i]? = some x) (hl : idx t.Network.Lines x.Line = some l) : s_l5Stops t (i : Int) = some l.Stops := by
  unfold s_l5Stops
  rw [l5Line_eq hx hl]; rfl
theorem l5At_eq {t : Timetable} (hg : Good t.Network) {i : Nat} {x : Trip} {l : Line} (hx : t.Trips[i]? = some x) (hl : idx t.Network.Lines x.Line = some l) (hs : 0 ≤ x.Start ∧ x.Start ≤ 1799) {k : Nat} (hk : k ≤ l.Runs.length) : s_l5At t (i : Int) (k : Int) = some (x.Start + (l.Runs.take k).sum) := by
  have h := good_line hg hl
  obtain ⟨⟨h1, h2, h3⟩, h4⟩ := line_runs h
  have h5 := runs_sum h k
  have e := l2Run_eq l 0 k (by omega) hk (by omega) (fun x hx => by have := h4 x hx; omega)
  rw [List.drop_zero] at e
  have e' : s_l2Run l 0 (k : Int) = some (l.Runs.take k).sum := e
  unfold s_l5At
  simp (disch := omega) only [if_pos, if_neg, decide_eq_true_eq, decide_true, decide_false, Bool.not_true, Bool.not_false, Bool.false_eq_true, Bool.not_eq_true', decide_eq_false_iff_not, if_true, if_false, w64_id, chk_of, idx_nat, Option.bind_some, Option.map_some, Int.toNat_natCast, not_true_eq_false, not_false_eq_true, true_and, and_true, and_self, false_and, and_false, reduceIte, flb_go, flb_ret, beq_self_eq_true, ne_eq, bne_self_eq_false, hx, l5Line_eq hx hl, e']
theorem l5End_eq {t : Timetable} (hg : Good t.Network) {i : Nat} {x : Trip} {l : Line} (hx : t.Trips[i]? = some x) (hl : idx t.Network.Lines x.Line = some l) (hs : 0 ≤ x.Start ∧ x.Start ≤ 1799) : s_l5End t (i : Int) = some (x.Start + l.Runs.sum) := by
  have h := good_line hg hl
  obtain ⟨⟨h1, h2, h3⟩, h4⟩ := line_runs h
  have e : w64 ((l.Stops.length : Int) - 1) = (l.Runs.length : Int) := by rw [w64_id (by omega)]; omega
  unfold s_l5End
  rw [l5Stops_eq hx hl]
  simp only [Option.bind_some, e, l5At_eq hg hx hl hs (Nat.le_refl _), List.take_length]
def TripsP (t : Timetable) : Prop := (∀ (i : Nat) x, t.Trips[i]? = some x → TripP t.Network x) ∧ ∀ (i : Nat) a b, t.Trips[i]? = some a → t.Trips[i + 1]? = some b → a.Id < b.Id
noncomputable instance (t : Timetable) : Decidable (TripsP t) := Classical.propDecidable _
/-- One trip's check in the program. -/
theorem trip_i {t : Timetable} (hb : TB t) (hg : Good t.Network) (x : Trip) (last : Int) (hlast : 0 ≤ last) : ((if (decide (x.Id ≤ last)) = true then some true else if (decide (999 < x.Id)) = true then some true else (i_isLine t.Network x.Line).bind fun r =>
      if (!r) = true then some true else (i_IsValidTime x.Start).bind fun r1 =>
      if (!r1) = true then some true else (i_endOf t x).bind fun r2 =>
      (i_IsValidTime r2).bind fun r3 =>
      some (!r3))) = some (!decide (last < x.Id ∧ TripP t.Network x)) := by
  by_cases c1 : x.Id ≤ last
  · have : ¬ (last < x.Id ∧ TripP t.Network x) := fun h => by omega
    simp [c1, this]
  · by_cases c2 : 999 < x.Id
    · have : ¬ (last < x.Id ∧ TripP t.Network x) := fun h => by have := h.2.1; omega
      simp [c1, c2, this]
    · simp only [isLine_eq, time_eq, Option.bind_some, c1, c2, decide_false, Bool.false_eq_true, if_false]
      by_cases c3 : 0 ≤ x.Line ∧ x.Line < (t.Network.Lines.length : Int)
      · obtain ⟨l, hl, _⟩ := idx_lt (l := t.Network.Lines) c3.1 c3.2
        by_cases c4 : 0 ≤ x.Start ∧ x.Start ≤ 1799
        · have hT : (last < x.Id ∧ TripP t.Network x) ↔ (0 ≤ x.Start + l.Runs.sum ∧ x.Start + l.Runs.sum ≤ 1799) := by
            constructor
            · rintro ⟨_, _, l', hl', _, h⟩
              rw [hl] at hl'; cases hl'; exact h
            · intro h; exact ⟨by omega, ⟨by omega, by omega⟩, l, hl, c4, h⟩
          simp only [c3, c4, and_self, decide_true, Bool.not_true, Bool.false_eq_true, if_false, endOf_eq hg hl c4, time_eq, Option.bind_some, hT]
        · have : ¬ (last < x.Id ∧ TripP t.Network x) := fun h => by
            obtain ⟨_, _, l', _, h4, _⟩ := h
            exact c4 h4
          simp only [c3, c4, this, and_self, decide_true, decide_false, Bool.not_true, Bool.not_false, Bool.false_eq_true, if_false, if_true]
      · have : ¬ (last < x.Id ∧ TripP t.Network x) := fun h => by
          obtain ⟨_, _, l', hl', _⟩ := h
          have := idx_some hl'
          exact c3 ⟨this.1, this.2.1⟩
        simp only [c3, this, decide_false, Bool.not_false, if_true]
theorem areTrips_eq {t : Timetable} (hb : TB t) (hg : Good t.Network) : i_areTrips t = some (decide (t.Trips.length ≤ 12 ∧ TripsP t)) := by
  unfold i_areTrips
  by_cases h12 : t.Trips.length ≤ 12
  · have d : decide ((12 : Int) < (t.Trips.length : Int)) = false := by simp; omega
    have e : decide (t.Trips.length ≤ 12 ∧ TripsP t) = decide (TripsP t) := by simp [h12]
    rw [d, e]
    simp only [Bool.false_eq_true, if_false]
    refine flb_dec (.iter (fun m a => ∃ i : Nat, a.2 = (i : Int) ∧ m + i = t.Trips.length ∧ 0 ≤ a.1 ∧ (∀ y, 0 < i → t.Trips[i - 1]? = some y → a.1 = y.Id) ∧ (i = 0 → a.1 = 0) ∧ (∀ (j : Nat) x, j < i → t.Trips[j]? = some x → TripP t.Network x) ∧ ∀ (j : Nat) a b, j + 1 < i → t.Trips[j]? = some a → t.Trips[j + 1]? = some b → a.Id < b.Id)
      (n := t.Trips.length) ⟨0, rfl, rfl, by simp, by simp, by simp, fun j x h => by omega, fun j a b h => by omega⟩ ?_)
    rintro m ⟨last, v⟩ ⟨i, hv, hm, h0, h1, h2, h3, h4⟩
    simp only at hv h0 h1 h2
    subst hv
    unfold i_areTrips_L1
    refine .iteP (fun hc => ?_) (fun hc => .dn (.inl ⟨rfl, fun j x hx => h3 j x (by have := get_lt hx; omega) hx, fun j a b ha hb' => h4 j a b (by have := get_lt hb'; omega) ha hb'⟩))
    obtain ⟨x, hx⟩ := get_ex (l := t.Trips) (i := i) (by omega)
    refine .eq (by rw [idx_nat]; exact hx) (.eq (trip_i hb hg x last h0) (.iteN (fun hn => .dn (.inr ⟨rfl, fun hp => hn ⟨?_, hp.1 i x hx⟩⟩)) (fun hp => .nx ⟨m - 1, by omega, i + 1, w64_succ (by omega), by omega, ?_, ?_, by simp, ?_, ?_⟩)))
    · by_cases hi : i = 0
      · rw [h2 hi]; have := (hp.1 i x hx).1; omega
      · obtain ⟨y, hy⟩ := get_ex (l := t.Trips) (i := i - 1) (by omega)
        rw [h1 y (by omega) hy]
        exact hp.2 (i - 1) y x hy (by rw [show i - 1 + 1 = i by omega]; exact hx)
    · show 0 ≤ x.Id
      have := hp.2.1; omega
    · intro y _ hy
      rw [show i + 1 - 1 = i by omega, hx] at hy; cases hy; rfl
    · intro j y hj hy
      by_cases hji : j = i
      · subst hji; rw [hx] at hy; cases hy; exact hp.2
      · exact h3 j y (by omega) hy
    · intro j a b hj ha hb'
      by_cases hji : j + 1 = i
      · subst hji; rw [hx] at hb'; cases hb'
        have := h1 a (by omega) (by simpa using ha)
        omega
      · exact h4 j a b (by omega) ha hb'
  · have d : decide ((12 : Int) < (t.Trips.length : Int)) = true := by simp; omega
    simp [d, h12]
/-- A trip is as it should be, and behind the one before it. -/
def TripQ (t : Timetable) (i : Nat) (x : Trip) : Prop := TripP t.Network x ∧ ∀ y, 0 < i → t.Trips[i - 1]? = some y → y.Id < x.Id
noncomputable instance (t : Timetable) (i : Nat) (x : Trip) : Decidable (TripQ t i x) := Classical.propDecidable _
theorem goodT_iff (t : Timetable) : GoodT t ↔ Good t.Network ∧ t.Trips.length ≤ 12 ∧ TripsP t := Iff.rfl
theorem validT_eq {t : Timetable} (hb : TB t) : i_IsValidTimetable t = some (decide (GoodT t)) := by
  unfold i_IsValidTimetable
  rw [valid_eq _ hb.1]
  by_cases hg : Good t.Network
  · simp only [hg, decide_true, if_true, Option.bind_some, areTrips_eq hb hg, goodT_iff, true_and]
  · have : ¬ GoodT t := fun h => hg h.1
    simp [hg, this]
theorem goodT_eq {t : Timetable} (hb : TB t) : s_l5Good t = some (decide (GoodT t)) := by
  unfold s_l5Good
  rw [good_eq _ hb.1]
  by_cases hg : Good t.Network
  · by_cases h12 : t.Trips.length ≤ 12
    · have d : decide ((12 : Int) < (t.Trips.length : Int)) = false := by simp; omega
      have e : decide (GoodT t) = decide (TripsP t) := by rw [decide_eq_decide, goodT_iff]; simp [hg, h12]
      simp only [hg, decide_true, Bool.not_true, Bool.false_eq_true, if_false, Option.bind_some, d, e]
      refine flb_dec (.iter (fun m a => ∃ i : Nat, a = (i : Int) ∧ m + i = t.Trips.length ∧ (∀ (j : Nat) x, j < i → t.Trips[j]? = some x → TripP t.Network x) ∧ ∀ (j : Nat) a b, j + 1 < i → t.Trips[j]? = some a → t.Trips[j + 1]? = some b → a.Id < b.Id)
        (n := t.Trips.length) ⟨0, rfl, rfl, fun j x h => by omega, fun j a b h => by omega⟩ ?_)
      rintro m v ⟨i, hv, hm, h3, h4⟩
      subst hv
      unfold s_l5Good_L1
      refine .iteP (fun hc => ?_) (fun hc => .dn (.inl ⟨rfl, fun j x hx => h3 j x (by have := get_lt hx; omega) hx, fun j a b ha hb' => h4 j a b (by have := get_lt hb'; omega) ha hb'⟩))
      obtain ⟨x, hx⟩ := get_ex (l := t.Trips) (i := i) (by omega)
      refine .eq (by rw [idx_nat]; exact hx) ?_
      have hll := hg.2.1
      have ew : w64 ((t.Network.Lines.length : Int) - 1) = (t.Network.Lines.length : Int) - 1 := w64_id (by omega)
      have key : ((s_l1In x.Id 1 999).bind fun r6 =>
      (if (!r6) = true then some true else (s_l1In x.Line 0 (w64 ((t.Network.Lines.length : Int) - 1))).bind fun r7 =>
      if (!r7) = true then some true else (s_l4Time x.Start).bind fun r8 =>
      if (!r8) = true then some true else (s_l5End t (i : Int)).bind fun r9 =>
      (s_l4Time r9).bind fun r10 =>
      if (!r10) = true then some true else if (decide (0 < (i : Int))) = true then (idx t.Trips (w64 ((i : Int) - 1))).bind fun e2 =>
      some (decide (x.Id ≤ e2.Id)) else some false)) = some (!decide (TripQ t i x)) := by
        have no : ¬ TripP t.Network x → (!decide (TripQ t i x)) = true := fun h => (by simp [show ¬ TripQ t i x from fun q => h q.1])
        simp only [l1In_eq, l4Time_eq, ew, Option.bind_some]
        by_cases c1 : 1 ≤ x.Id ∧ x.Id ≤ 999
        · by_cases c3 : 0 ≤ x.Line ∧ x.Line ≤ (t.Network.Lines.length : Int) - 1
          · obtain ⟨l, hl, _⟩ := idx_lt (l := t.Network.Lines) c3.1 (by omega)
            by_cases c4 : 0 ≤ x.Start ∧ x.Start ≤ 1799
            · simp only [c1, c3, c4, and_self, decide_true, Bool.not_true, Bool.false_eq_true, if_false, l5End_eq hg hx hl c4, l4Time_eq, Option.bind_some]
              by_cases c5 : 0 ≤ x.Start + l.Runs.sum ∧ x.Start + l.Runs.sum ≤ 1799
              · have hT : TripP t.Network x := ⟨c1, l, hl, c4, c5⟩
                simp only [c5, and_self, decide_true, Bool.not_true, Bool.false_eq_true, if_false, ]
                by_cases c6 : 0 < i
                · obtain ⟨y, hy⟩ := get_ex (l := t.Trips) (i := i - 1) (by omega)
                  have e1 : w64 ((i : Int) - 1) = ((i - 1 : Nat) : Int) := by rw [w64_id (by omega)]; omega
                  have c6' : (0 : Int) < (i : Int) := by omega
                  simp only [c6', decide_true, if_true, e1, idx_nat, hy, Option.bind_some, Option.some.injEq]
                  by_cases c7 : x.Id ≤ y.Id
                  · have : ¬ TripQ t i x := fun h => by have := h.2 y c6 hy; omega
                    simp only [c7, decide_true, this, decide_false, Bool.not_false]
                  · have : TripQ t i x := ⟨hT, fun z _ hz => by rw [hy] at hz; cases hz; omega⟩
                    simp only [c7, decide_false, this, decide_true, Bool.not_true]
                · have c6' : ¬ (0 : Int) < (i : Int) := by omega
                  have : TripQ t i x := ⟨hT, fun z h0 _ => absurd h0 c6⟩
                  simp only [c6', decide_false, Bool.false_eq_true, if_false, this, decide_true, Bool.not_true]
              · rw [no (fun hT => by
                  obtain ⟨_, l', hl', _, h⟩ := hT
                  rw [hl] at hl'; cases hl'; exact c5 h)]
                simp only [c5, decide_false, Bool.not_false, if_true]
            · rw [no (fun hT => by obtain ⟨_, l', _, h, _⟩ := hT; exact c4 h)]
              simp only [c1, c3, c4, and_self, decide_true, decide_false, Bool.not_true, Bool.not_false, Bool.false_eq_true, if_false, if_true]
          · rw [no (fun hT => by
              obtain ⟨_, l', hl', _⟩ := hT
              have := idx_some hl'
              exact c3 ⟨this.1, by omega⟩)]
            simp only [c1, c3, and_self, decide_true, decide_false, Bool.not_true, Bool.not_false, Bool.false_eq_true, if_false, if_true]
        · rw [no (fun hT => c1 hT.1)]
          simp only [c1, decide_false, Bool.not_false, if_true]
      rw [bind_assoc', key]
      refine .iteN (fun hn => .dn (.inr ⟨rfl, fun hp => hn ⟨hp.1 i x hx, fun y hi hy => hp.2 (i - 1) y x hy (by rw [show i - 1 + 1 = i by omega]; exact hx)⟩⟩)) (fun hp => .nx ⟨m - 1, by omega, i + 1, w64_succ (by omega), by omega, ?_, ?_⟩)
      · intro j y hj hy
        by_cases hji : j = i
        · subst hji; rw [hx] at hy; cases hy; exact hp.1
        · exact h3 j y (by omega) hy
      · intro j a b hj ha hb'
        by_cases hji : j + 1 = i
        · subst hji; rw [hx] at hb'; cases hb'
          exact hp.2 a (by omega) (by simpa using ha)
        · exact h4 j a b (by omega) ha hb'
    · have d : decide ((12 : Int) < (t.Trips.length : Int)) = true := by simp; omega
      have : ¬ GoodT t := fun h => h12 h.2.1
      simp [hg, d, this]
  · have : ¬ GoodT t := fun h => hg h.1
    simp [hg, this]
/-! Timetables: what is looked up; stop times; draws. -/
theorem tripIndex_eq (t : Timetable) (h : t.Trips.length ≤ 1000) (id : Int) : i_tripIndex t id = some (fixI (fun x => x.Id == id) t.Trips) := by
  unfold i_tripIndex slices_IndexFunc_Trip__i_tripIndex_1 slices_IndexFunc_Trip
  rw [find_val t.Trips (fun x => x.Id == id) (fun i x hx => ?_) (by unfold slices_IndexFunc_Trip_L1; simp)]
  · rfl
  · have := get_lt hx
    unfold slices_IndexFunc_Trip_L1 i_tripIndex_1
    simp (disch := omega) only [if_pos, if_neg, decide_eq_true_eq, decide_true, decide_false, Bool.not_true, Bool.not_false, Bool.false_eq_true, Bool.not_eq_true', decide_eq_false_iff_not, if_true, if_false, w64_id, chk_of, idx_nat, Option.bind_some, Option.map_some, Int.toNat_natCast, not_true_eq_false, not_false_eq_true, true_and, and_true, and_self, false_and, and_false, reduceIte, flb_go, flb_ret, beq_self_eq_true, ne_eq, bne_self_eq_false, hx, Int.ofNat_lt.2 this]
    split <;> simp [*] <;> omega
theorem l5Find_eq (t : Timetable) (h : t.Trips.length ≤ 1000) (id : Int) : s_l5Find t id = some (fixI (fun x => x.Id == id) t.Trips) := by
  unfold s_l5Find
  rw [find_val t.Trips (fun x => x.Id == id) (fun i x hx => ?_) (by unfold s_l5Find_L1; simp)]
  have := get_lt hx
  unfold s_l5Find_L1
  simp (disch := omega) only [if_pos, if_neg, decide_eq_true_eq, decide_true, decide_false, Bool.not_true, Bool.not_false, Bool.false_eq_true, Bool.not_eq_true', decide_eq_false_iff_not, if_true, if_false, w64_id, chk_of, idx_nat, Option.bind_some, Option.map_some, Int.toNat_natCast, not_true_eq_false, not_false_eq_true, true_and, and_true, and_self, false_and, and_false, reduceIte, flb_go, flb_ret, beq_self_eq_true, ne_eq, bne_self_eq_false, hx, Int.ofNat_lt.2 this]
  split <;> simp [*] <;> omega
theorem lineOf_eq {t : Timetable} {x : Trip} {l : Line} (hl : idx t.Network.Lines x.Line = some l) : i_lineOf t x = some l := by
  unfold i_lineOf; rw [hl]; rfl
/-- A valid timetable's trip, with its line. -/
theorem trip_line {t : Timetable} (h : GoodT t) {i : Nat} {x : Trip} (hx : t.Trips[i]? = some x) : ∃ l, idx t.Network.Lines x.Line = some l ∧ LineP t.Network.Stops.length l ∧ (1 ≤ x.Id ∧ x.Id ≤ 999) ∧ (0 ≤ x.Start ∧ x.Start ≤ 1799) ∧ 0 ≤ x.Start + l.Runs.sum ∧ x.Start + l.Runs.sum ≤ 1799 := by
  obtain ⟨h1, l, hl, h2, h3⟩ := h.2.2.1 i x hx
  exact ⟨l, hl, good_line h.1 hl, h1, h2, h3⟩
theorem ids_lt {t : Timetable} (h : GoodT t) {i j : Nat} {a b : Trip} (hij : i < j) (ha : t.Trips[i]? = some a) (hb : t.Trips[j]? = some b) : a.Id < b.Id := by
  induction j generalizing b with
  | zero => omega
  | succ j ih =>
    obtain ⟨c, hc⟩ := get_ex (l := t.Trips) (i := j) (by have := get_lt hb; omega)
    have h1 := h.2.2.2 j c b hc hb
    by_cases hji : i = j
    · subst hji; rw [ha] at hc; cases hc; exact h1
    · have := ih (by omega) hc; omega
/-- A trip is found by its Id. -/
theorem trip_fix {t : Timetable} (h : GoodT t) {i : Nat} {x : Trip} (hx : t.Trips[i]? = some x) : fixI (fun y => y.Id == x.Id) t.Trips = (i : Int) := by
  refine fixI_of hx (by simp) fun j y hj hy => ?_
  have := ids_lt h hj hy hx
  simp; omega
/-- The stop times. -/
def ST (l : Line) (s : Int) : List Int := (List.range (l.Runs.length + 1)).map fun k => s + (l.Runs.take k).sum
theorem ST_len (l : Line) (s : Int) : (ST l s).length = l.Runs.length + 1 := by simp [ST]
theorem ST_at {l : Line} {s : Int} {k : Nat} (hk : k ≤ l.Runs.length) : (ST l s)[k]? = some (s + (l.Runs.take k).sum) := by
  unfold ST; rw [List.getElem?_map, List.getElem?_range (by omega)]; rfl
theorem stopTimes_eq {t : Timetable} {x : Trip} {l : Line} {st : Nat} (hl : idx t.Network.Lines x.Line = some l) (hp : LineP st l) (hs : 0 ≤ x.Start ∧ x.Start ≤ 1799) : i_stopTimes t x = some (ST l x.Start) := by
  obtain ⟨⟨h1, h2, h3⟩, h4⟩ := line_runs hp
  unfold i_stopTimes
  rw [lineOf_eq hl]
  simp only [Option.bind_some]
  refine Tot.val (.call (P := fun v => v = ST l x.Start) ?_ fun v h => .ok h)
  refine .iter (fun m s => ∃ k : Nat, s.1 = (k : Int) ∧ m + k = l.Runs.length ∧ s.2 = (ST l x.Start).take (k + 1)) (n := l.Runs.length) ⟨0, rfl, rfl, ?_⟩ ?_
  · rw [take_succ (x := x.Start) (by have := ST_at (l := l) (s := x.Start) (k := 0) (by omega); simpa using this)]; rfl
  · rintro m ⟨v, r⟩ ⟨k, hk, hm, hr⟩
    simp only at hk hr
    subst hk
    unfold i_stopTimes_L1
    have hlen := ST_len l x.Start
    refine .iteP (fun hc => ?_) (fun hc => .dn (by rw [hr, List.take_of_length_le (by omega)]))
    obtain ⟨e, he⟩ := get_ex (l := l.Runs) (i := k) (by omega)
    have hk1 := ST_at (l := l) (s := x.Start) (k := k) (by omega)
    have hk2 := ST_at (l := l) (s := x.Start) (k := k + 1) (by omega)
    have b1 := runs_sum hp k
    have b2 := h4 e (List.mem_of_getElem? he)
    refine .eq (by rw [idx_nat]; exact he) (.eq (by rw [idx_nat, hr, List.getElem?_take_of_lt (by omega)]; exact hk1) (.chk (by rw [hr]; simp; omega) (.nx ⟨m - 1, by omega, k + 1, w64_succ (by omega), by omega, ?_⟩)))
    show r ++ [w64 (x.Start + (l.Runs.take k).sum + e)] = _
    rw [take_succ hk2, hr, w64_id (by omega), sum_take_succ he, Int.add_assoc]

/-- A trip that is there, found by its Id. -/
theorem find_trip {t : Timetable} (hb : TB t) (hT : GoodT t) {k : Nat} {y : Trip} (hy : t.Trips[k]? = some y) : i_tripIndex t y.Id = some (k : Int) ∧ s_l5Find t y.Id = some (k : Int) := by
  rw [tripIndex_eq t hb.2, l5Find_eq t hb.2, trip_fix hT hy]
  exact ⟨rfl, rfl⟩
theorem found_or {t : Timetable} (id : Int) : (fixI (fun x => x.Id == id) t.Trips < 0 ∧ ∀ (k : Nat) y, t.Trips[k]? = some y → y.Id ≠ id) ∨ ∃ (k : Nat) (y : Trip), t.Trips[k]? = some y ∧ y.Id = id := by
  by_cases h : fixI (fun x => x.Id == id) t.Trips < 0
  · refine .inl ⟨h, fun k y hy => ?_⟩
    have := fixI_neg h y (List.mem_of_getElem? hy)
    simpa using this
  · obtain ⟨k, y, _, h2, h3, _⟩ := idx_fix h
    exact .inr ⟨k, y, h2, by simpa using h3⟩
/-! Draws -/
theorem network_ok {k : Nat} {c : l1Cur} (h : Cur k c) (hk : k ≤ 500000000) : ∃ r, s_l1Cur_network c = some r ∧ Cur (k + 300) r.2 ∧ NB r.1 := networkT_ok h hk
theorem network_t_ok {k : Nat} {c : l1Cur} (h : Cur k c) (hk : k ≤ 500000000) : ∃ r, s_l1Cur_network_t c = some r ∧ Cur (k + 300) r.2 ∧ NB r.1 := networkT_ok h hk
theorem anyNet_ok {k : Nat} {c : l1Cur} (h : Cur k c) (hk : k ≤ 200000000) : Tot (s_l1Cur_anyNetwork c) fun r => Cur (k + 1000) r.2 ∧ Bd r.1 := anyNetwork_ok h hk
def DT (t : Timetable) : Prop := Bd t.Network ∧ t.Trips.length ≤ 30
theorem DT.tb {t : Timetable} (h : DT t) : TB t := ⟨h.1, by have := h.2; omega⟩
theorem timetable_ok {k : Nat} {c : l1Cur} (h : Cur k c) (hk : k ≤ 100000000) : Tot (s_l1Cur_timetable c) fun r => Cur (k + 400) r.2 ∧ DT r.1 ∧ NB r.1.Network ∧ r.1.Trips.length ≤ 8 := by
  unfold s_l1Cur_timetable
  refine .call (networkT_ok h (by omega)) fun r ⟨hc, hn⟩ => .call (pick_ok 8 hc (by omega)) fun r1 ⟨hc1, h0, h1⟩ => ?_
  refine .call (P := fun o => Cur (k + 400) ⟨o.1, o.2.1, ⟨o.2.2.1⟩⟩ ∧ o.2.2.2.length ≤ 8) ?_ fun o ⟨ho1, ho2⟩ => .ok ⟨ho1, ⟨hn.bd, by show o.2.2.2.length ≤ 30; omega⟩, hn, ho2⟩
  refine .iter (fun m s => s.2.1 = (m : Int) ∧ m + s.2.2.2.2.2.length ≤ 8 ∧ Cur (k + 302 + 6 * (8 - m)) ⟨s.2.2.1, s.2.2.2.1, ⟨s.2.2.2.2.1⟩⟩) (n := r1.1.toNat) ⟨by show r1.1 = _; omega, by show r1.1.toNat + 0 ≤ 8; omega, hc1.mono (by omega)⟩ ?_
  rintro m ⟨n, v, v1, v2, v3, v4⟩ ⟨hv, hl, hcur⟩
  simp only at hv hl hcur
  subst hv
  unfold s_l1Cur_timetable_L1
  refine .iteP (fun hc => ?_) (fun hc => .dn ⟨hcur.mono (by omega), by show v4.length ≤ 8; omega⟩)
  refine .call (pick_ok 3 hcur (by omega)) fun r2 ⟨hc2, _⟩ => .call (pick_ok _ hc2 (by omega)) fun r5 ⟨hc5, _⟩ => .call (pick_ok 24 hc5 (by omega)) fun r6 ⟨hc6, _⟩ => .chk (by simp; omega) (.nx ⟨m - 1, by omega, ?_, ?_, ?_⟩)
  · show w64 ((m : Int) - 1) = _; rw [w64_id (by omega)]; omega
  · show m - 1 + (v4 ++ [_]).length ≤ 8; simp; omega
  · exact hc6.mono (by omega)
theorem anyTimetable_ok {k : Nat} {c : l1Cur} (h : Cur k c) (hk : k ≤ 50000000) : Tot (s_l1Cur_anyTimetable c) fun r => Cur (k + 2000) r.2 ∧ DT r.1 := by
  unfold s_l1Cur_anyTimetable
  refine .call (timetable_ok h (by omega)) fun r ⟨hc, hd, hn, hl⟩ => ?_
  refine .ite (fun _ => .ok ⟨hc.mono (by omega), hd⟩) fun he => ?_
  have hpos : 0 < r.1.Trips.length := by
    have : (r.1.Trips.length : Int) ≠ 0 := by simpa using he
    omega
  refine .call (pick_ok _ hc (by omega)) fun r1 ⟨hc1, h10, h11⟩ => ?_
  have h12 : r1.1 < (r.1.Trips.length : Int) := by omega
  refine .idx h10 h12 fun e _ => ?_
  have fin : ∀ (v : List UInt8) (v1 v2 : Int) (v3 : List Line) (v4 v5 v6 : Int) (v7 : List ByteArray), Cur (k + 2000) ⟨v, v1, ⟨v2⟩⟩ → Bd ⟨v7, v3⟩ → Tot ((idx r.1.Trips r1.1).bind fun e2 => some ((⟨(⟨v7, v3⟩ : Network), (r.1.Trips.set r1.1.toNat (⟨v4, v5, v6⟩ : Trip))⟩ : Timetable), (⟨v, v1, (⟨v2⟩ : IK .u64)⟩ : l1Cur))) fun r => Cur (k + 2000) r.2 ∧ DT r.1 := fun v v1 v2 v3 v4 v5 v6 v7 q1 q2 =>
    .idx h10 h12 fun e2 _ => .ok ⟨q1, q2, by show (r.1.Trips.set _ _).length ≤ 30; rw [List.length_set]; omega⟩
  refine .flb (.call (pick_ok 24 hc1 (by omega)) fun r2 ⟨hc2, _⟩ => ?_)
  refine .ite (fun _ => .call (among_ok _ (by simp) hc2 (by omega)) fun r3 ⟨hc3, _⟩ => .go (fin _ _ _ _ _ _ _ _ (hc3.mono (by omega)) hd.1)) fun _ => ?_
  refine .ite (fun _ => .call (pick_ok 7 hc2 (by omega)) fun r3 ⟨hc3, _⟩ => .go (fin _ _ _ _ _ _ _ _ (hc3.mono (by omega)) hd.1)) fun _ => ?_
  refine .ite (fun _ => .call (among_ok _ (by simp) hc2 (by omega)) fun r3 ⟨hc3, _⟩ => .go (fin _ _ _ _ _ _ _ _ (hc3.mono (by omega)) hd.1)) fun _ => ?_
  refine .ite (fun _ => .call (anyNet_ok hc2 (by omega)) fun r3 ⟨hc3, hb⟩ => .go (fin _ _ _ _ _ _ _ _ (hc3.mono (by omega)) hb)) fun _ => ?_
  refine .ite (fun _ => ?_) fun _ => .go (fin _ _ _ _ _ _ _ _ (hc2.mono (by omega)) hd.1)
  refine .call (P := fun o => Cur (k + 2000) ⟨o.1, o.2.1, ⟨o.2.2.1⟩⟩ ∧ o.2.2.2.length ≤ 30) ?_ fun o ⟨ho1, ho2⟩ => .ret ⟨ho1, hd.1, ho2⟩
  refine .iter (fun m s => ∃ i : Nat, s.1 = (i : Int) ∧ m + i = 14 ∧ s.2.2.2.2.length ≤ 8 + i ∧ Cur (k + 500 + 2 * i) ⟨s.2.1, s.2.2.1, ⟨s.2.2.2.1⟩⟩) (n := 14) ⟨0, rfl, rfl, by simpa using hl, hc2.mono (by omega)⟩ ?_
  rintro m ⟨v8, v9, v10, v11, v12⟩ ⟨i, hv, hm, hl12, hcur⟩
  simp only at hv hl12 hcur
  subst hv
  unfold s_l1Cur_anyTimetable_L1
  refine .call (pick_ok 2 hcur (by omega)) fun r8 ⟨hc8, _⟩ => ?_
  refine .call (P := fun b => b = true → i < 14) (.ite (fun _ => .ok fun hb => by simp at hb; omega) fun _ => .ok fun hb => by cases hb) fun b hb => ?_
  refine .ite (fun ht => .chk (by simp; omega) (.nx ⟨m - 1, by have := hb ht; omega, i + 1, w64_succ (by omega), by have := hb ht; omega, ?_, hc8.mono (by omega)⟩)) (fun _ => .dn ⟨hc8.mono (by omega), by show v12.length ≤ 30; omega⟩)
  show (v12 ++ [_]).length ≤ 8 + (i + 1); simp; omega
theorem idOf_ok {k : Nat} {c : l1Cur} (t : Timetable) (h : Cur k c) (hk : k ≤ 1000000000) : Tot (s_l1Cur_idOf c t) fun r => Cur (k + 4) r.2 := by
  unfold s_l1Cur_idOf
  refine .call (P := fun o => Cur (k + 2) ⟨o.2.1, o.2.2.1, ⟨o.2.2.2⟩⟩ ∧ (o.1 = false → 0 < t.Trips.length)) (.ite (fun _ => .ok ⟨h.mono (by omega), fun h => by cases h⟩) fun he => .call (one_ok 8 h (by omega)) fun r hc => .ok ⟨hc, fun _ => ?_⟩) fun o ⟨ho, hz⟩ => ?_
  · have : (t.Trips.length : Int) ≠ 0 := by simpa using he
    omega
  · refine .ite (fun _ => .call (pick_ok 30 ho (by omega)) fun r1 ⟨hc1, _⟩ => .ok (hc1.mono (by omega))) fun hf => ?_
    have := hz hf
    refine .call (pick_ok _ ho (by omega)) fun r3 ⟨hc3, h0, h1⟩ => .idx h0 (by omega) fun e _ => .ok (hc3.mono (by omega))
/-! What many laws lean on: draws in the style of Tot, lists held against themselves, comparisons. -/
theorem t_pick {k : Nat} {c : l1Cur} (n : Int) (h : Cur k c) (hk : k ≤ 3000000000) : Tot (s_l1Cur_pick c n) fun r => Cur (k + 2) r.2 ∧ 0 ≤ r.1 ∧ (r.1 < n ∨ r.1 = 0) := pick_ok n h hk
theorem t_one {k : Nat} {c : l1Cur} (n : Int) (h : Cur k c) (hk : k ≤ 3000000000) : Tot (s_l1Cur_one c n) fun r => Cur (k + 2) r.2 := one_ok n h hk
theorem t_among {k : Nat} {c : l1Cur} (l : List Int) (hl : l ≠ []) (h : Cur k c) (hk : k ≤ 3000000000) : Tot (s_l1Cur_among c l) fun r => Cur (k + 2) r.2 ∧ r.1 ∈ l := among_ok l hl h hk
theorem t_amongw {k : Nat} {c : l1Cur} (l : List Int) (hl : l ≠ []) (h : Cur k c) (hk : k ≤ 3000000000) : Tot (s_l1Cur_among_w c l) fun r => Cur (k + 2) r.2 ∧ r.1 ∈ l := amongw_ok l hl h hk
theorem t_time {k : Nat} {c : l1Cur} (h : Cur k c) (hk : k ≤ 2000000000) : Tot (s_l1Cur_time c) fun r => Cur (k + 4) r.2 := by
  unfold s_l1Cur_time
  refine Tot.call (t_one 16 h (by omega)) fun r hr => .ite (fun _ => ?_) (fun _ => ?_)
  · exact Tot.call (t_among _ (by simp) hr (by omega)) fun r hr => .ok hr.1
  · exact Tot.call (t_pick 240 hr (by omega)) fun r hr => .ok hr.1
theorem rBig_eq (code : List UInt8) : v_rBig code = some (decide (65536 < (code.length : Int))) := rfl
theorem compare_int (x y : Int) : cmp_Compare_int x y = some (if x < y then -1 else if y < x then 1 else 0) := by
  unfold cmp_Compare_int cmp_isNaN_int
  by_cases h : x < y
  · simp [h]
  · by_cases h2 : y < x <;> simp [h, h2]
theorem idx0 {α : Type} (l : List α) : idx l 0 = l[0]? := idx_nat l 0
/-! Sums over lists. -/
theorem sum_swap {α β : Type} (f : α → β → Int) (M : List β) : ∀ L : List α, (L.map fun x => (M.map fun r => f x r).sum).sum = (M.map fun r => (L.map fun x => f x r).sum).sum
  | [] => by
    simp only [List.map_nil, List.sum_nil]
    induction M with
    | nil => rfl
    | cons a M ih => simp only [List.map_cons, List.sum_cons, ← ih]; rfl
  | x :: L => by
    simp only [List.map_cons, List.sum_cons, sum_swap f M L]
    induction M with
    | nil => rfl
    | cons a M ih => simp only [List.map_cons, List.sum_cons]; omega
theorem sum_none {α : Type} (p : α → Bool) (g : α → Int) : ∀ l : List α, (∀ y ∈ l, p y = false) → (l.map fun r => if p r = true then g r else 0).sum = 0
  | [], _ => rfl
  | y :: l, h => by
    simp only [List.map_cons, List.sum_cons, h y (List.mem_cons_self ..), Bool.false_eq_true, if_false, sum_none p g l fun z hz => h z (List.mem_cons_of_mem _ hz)]
    rfl
theorem sum_one {α : Type} (p : α → Bool) (g : α → Int) : ∀ (l : List α) (j : Nat) (x : α), l[j]? = some x → p x = true → (∀ (i : Nat) y, l[i]? = some y → p y = true → i = j) → (l.map fun r => if p r = true then g r else 0).sum = g x
  | [], j, x, h, _, _ => by simp at h
  | y :: l, 0, x, h, hp, hu => by
    obtain rfl : y = x := by simpa using h
    have hn := sum_none p g l fun z hz => by
      obtain ⟨i, hi⟩ := List.getElem?_of_mem hz
      cases hz2 : p z with
      | false => rfl
      | true => have := hu (i + 1) z (by simpa using hi) hz2; omega
    simp only [List.map_cons, List.sum_cons, hp, if_true, hn]
    omega
  | y :: l, j + 1, x, h, hp, hu => by
    have h' : l[j]? = some x := by simpa using h
    have hy : p y = false := by
      cases hy : p y with
      | false => rfl
      | true => have := hu 0 y (by simp) hy; omega
    have ih := sum_one p g l j x h' hp fun i z hi hz => by have := hu (i + 1) z (by simpa using hi) hz; omega
    simp only [List.map_cons, List.sum_cons, hy, Bool.false_eq_true, if_false, ih]
    omega
theorem sum_congr {α : Type} {f g : α → Int} {l : List α} (h : ∀ x ∈ l, f x = g x) : (l.map f).sum = (l.map g).sum := by rw [List.map_congr_left h]
theorem sum_sub {α : Type} (f g : α → Int) : ∀ l : List α, (l.map fun x => f x - g x).sum = (l.map f).sum - (l.map g).sum
  | [] => rfl
  | x :: l => by simp only [List.map_cons, List.sum_cons, sum_sub f g l]; omega
theorem sum_tk {α : Type} (f : α → Int) {l : List α} {i : Nat} {x : α} (h : l[i]? = some x) : ((l.take (i + 1)).map f).sum = ((l.take i).map f).sum + f x := by rw [take_succ h]; simp
theorem sum_mrng {α : Type} {f : α → Int} {M : Int} : ∀ {l : List α}, (∀ x ∈ l, 0 ≤ f x ∧ f x ≤ M) → 0 ≤ (l.map f).sum ∧ (l.map f).sum ≤ M * l.length
  | [], _ => by simp
  | x :: l, h => by
    have h1 := h x (List.mem_cons_self ..)
    have h2 := sum_mrng (l := l) fun y hy => h y (List.mem_cons_of_mem _ hy)
    simp only [List.map_cons, List.sum_cons, List.length_cons, Int.natCast_add, Int.mul_add]
    omega
/-! Walks: when they are valid; ways and their lengths. -/
def WalkP (st : Nat) (e : Walk) : Prop := 0 ≤ e.A ∧ e.A < e.B ∧ e.B < (st : Int) ∧ 1 ≤ e.Minutes ∧ e.Minutes ≤ 120
def WLt (a b : Walk) : Prop := a.A < b.A ∨ (a.A = b.A ∧ a.B < b.B)
def WalksP (st : Nat) (list : List Walk) : Prop := list.length ≤ 12 ∧ ∀ (i : Nat) e, list[i]? = some e → WalkP st e ∧ ∀ z, 0 < i → list[i - 1]? = some z → WLt z e
noncomputable instance (st : Nat) (list : List Walk) : Decidable (WalksP st list) := Classical.propDecidable _
theorem or2_eq (a b : Int) : cmp_Or_int [a, b] = some (if a = 0 then b else a) := by
  have i0 : idx [a, b] 0 = some a := rfl
  have i1 : idx [a, b] 1 = some b := rfl
  have w1 : w64 1 = 1 := rfl
  have w2 : w64 2 = 2 := rfl
  unfold cmp_Or_int
  by_cases h : a = 0
  · subst h
    have s1 : cmp_Or_int_L1 [0, b] 0 = some (.nx 1) := by unfold cmp_Or_int_L1; simp [i0, w1]
    by_cases h2 : b = 0
    · subst h2
      have s2 : cmp_Or_int_L1 [0, 0] 1 = some (.nx 2) := by unfold cmp_Or_int_L1; simp [i1, w2]
      have s3 : cmp_Or_int_L1 [0, 0] 2 = some (.dn (.go ())) := by unfold cmp_Or_int_L1; simp
      rw [iter_nx s1, iter_nx s2, iter_dn s3]; simp
    · have s2 : cmp_Or_int_L1 [0, b] 1 = some (.dn (.ret b)) := by unfold cmp_Or_int_L1; simp [i1, h2]
      rw [iter_nx s1, iter_dn s2]; simp
  · have s1 : cmp_Or_int_L1 [a, b] 0 = some (.dn (.ret a)) := by unfold cmp_Or_int_L1; simp [i0, h]
    rw [iter_dn s1]; simp [h]
theorem areWalks_eq (n : Network) (list : List Walk) : i_areWalks n list = some (decide (WalksP n.Stops.length list)) := by
  unfold i_areWalks
  by_cases h12 : (12 : Int) < (list.length : Int)
  · have : ¬ WalksP n.Stops.length list := fun h => by have := h.1; omega
    simp [h12, this]
  simp only [h12, decide_false, Bool.false_eq_true, if_false]
  rw [all_val (hd := Classical.propDecidable _) list (fun i e => WalkP n.Stops.length e ∧ ∀ z, 0 < i → list[i - 1]? = some z → WLt z e) (fun i e he => ?_) (by unfold i_areWalks_L1; simp)]
  · by_cases hp : WalksP n.Stops.length list
    · rw [if_pos hp.2]; simp [hp]
    · rw [if_neg (fun h => hp ⟨by omega, h⟩)]; simp [hp]
  have hi := get_lt he
  unfold i_areWalks_L1
  simp only [Int.ofNat_lt.2 hi, decide_true, if_true, idx_nat, he, Option.bind_some, isStop_eq, within_eq]
  by_cases hw : WalkP n.Stops.length e
  · obtain ⟨h1, h2, h3, h4, h5⟩ := hw
    have c1 : 0 ≤ e.A ∧ e.A < (n.Stops.length : Int) := by omega
    have c2 : 0 ≤ e.B ∧ e.B < (n.Stops.length : Int) := by omega
    have c3 : ¬ e.B ≤ e.A := by omega
    simp only [c1, c2, c3, h4, h5, and_self, decide_true, decide_false, Bool.not_true, Bool.false_eq_true, if_false, Option.bind_some]
    by_cases h0 : 0 < (i : Int)
    · obtain ⟨z, hz⟩ := get_ex (l := list) (i := i - 1) (by omega)
      have ew : w64 ((i : Int) - 1) = ((i - 1 : Nat) : Int) := by rw [w64_id (by omega)]; omega
      simp only [h0, decide_true, if_true, ew, idx_nat, hz, Option.bind_some, compare_int, or2_eq]
      by_cases hl : WLt z e
      · left
        have : ¬ (0 : Int) ≤ (if (if z.A < e.A then -1 else if e.A < z.A then 1 else (0 : Int)) = 0 then (if z.B < e.B then -1 else if e.B < z.B then 1 else 0) else (if z.A < e.A then -1 else if e.A < z.A then 1 else 0)) := by
          unfold WLt at hl
          rcases hl with h | ⟨h, h'⟩
          · simp [h]
          · have e1 : ¬ z.A < e.A := by omega
            have e2 : ¬ e.A < z.A := by omega
            simp [e1, e2, h']
        simp only [this, decide_false, Bool.false_eq_true, if_false]
        refine ⟨by rw [w64_succ (by omega)], ⟨h1, h2, h3, h4, h5⟩, fun z' _ hz' => ?_⟩
        cases hz'; exact hl
      · right
        have : (0 : Int) ≤ (if (if z.A < e.A then -1 else if e.A < z.A then 1 else (0 : Int)) = 0 then (if z.B < e.B then -1 else if e.B < z.B then 1 else 0) else (if z.A < e.A then -1 else if e.A < z.A then 1 else 0)) := by
          unfold WLt at hl
          have e1 : ¬ z.A < e.A := by omega
          by_cases e2 : e.A < z.A
          · simp [e1, e2]
          · have e3 : ¬ z.B < e.B := by omega
            by_cases e4 : e.B < z.B <;> simp [e1, e2, e3, e4]
        simp only [this, decide_true, if_true]
        refine ⟨trivial, fun hc => hl (hc.2 z (by omega) rfl)⟩
    · simp only [h0, decide_false, Bool.false_eq_true, if_false, Option.bind_some]
      left
      exact ⟨by rw [w64_succ (by omega)], ⟨h1, h2, h3, h4, h5⟩, fun z hz => by omega⟩
  · right
    refine ⟨?_, fun hc => hw hc.1⟩
    have key : ((if (!decide (0 ≤ e.A ∧ e.A < (n.Stops.length : Int))) = true then some true else if (!decide (0 ≤ e.B ∧ e.B < (n.Stops.length : Int))) = true then some true else if decide (e.B ≤ e.A) = true then some true else some (!decide (1 ≤ e.Minutes ∧ e.Minutes ≤ 120)))) = some true := by
      by_cases c1 : 0 ≤ e.A ∧ e.A < (n.Stops.length : Int)
      · by_cases c2 : 0 ≤ e.B ∧ e.B < (n.Stops.length : Int)
        · by_cases c3 : e.B ≤ e.A
          · simp [c1, c2, c3]
          · have c4 : ¬ (1 ≤ e.Minutes ∧ e.Minutes ≤ 120) := fun h => hw ⟨c1.1, by omega, c2.2, h.1, h.2⟩
            simp only [c1, c2, c3, c4, and_self, decide_true, decide_false, Bool.not_true, Bool.not_false, Bool.false_eq_true, if_false]
        · simp only [c1, c2, and_self, decide_true, decide_false, Bool.not_true, Bool.not_false, Bool.false_eq_true, if_false, if_true]
      · simp only [c1, decide_false, Bool.not_false, if_true]
    rw [key]; simp
theorem l7Good_eq {n : Network} (hb : Bd n) (list : List Walk) : s_l7Good n list = some (decide (Good n ∧ WalksP n.Stops.length list)) := by
  unfold s_l7Good
  rw [good_eq n hb]
  by_cases hg : Good n
  · by_cases h12 : (12 : Int) < (list.length : Int)
    · have : ¬ WalksP n.Stops.length list := fun h => by have := h.1; omega
      simp [hg, h12, this]
    simp only [hg, h12, true_and, decide_true, decide_false, Bool.not_true, Bool.false_eq_true, if_false, Option.bind_some]
    have h8 := hg.1
    rw [all_val (hd := Classical.propDecidable _) list (fun i e => WalkP n.Stops.length e ∧ ∀ z, 0 < i → list[i - 1]? = some z → WLt z e) (fun i e he => ?_) (by unfold s_l7Good_L1; simp)]
    · by_cases hp : WalksP n.Stops.length list
      · rw [if_pos hp.2]; simp [hp]
      · rw [if_neg (fun h => hp ⟨by omega, h⟩)]; simp [hp]
    have hi := get_lt he
    unfold s_l7Good_L1
    simp only [Int.ofNat_lt.2 hi, decide_true, if_true, idx_nat, he, Option.bind_some, l1In_eq]
    by_cases hw : WalkP n.Stops.length e
    · obtain ⟨h1, h2, h3, h4, h5⟩ := hw
      have c1 : 1 ≤ e.B ∧ e.B ≤ w64 ((n.Stops.length : Int) - 1) := by rw [w64_id (by omega)]; omega
      have c2 : 0 ≤ e.A ∧ e.A ≤ w64 (e.B - 1) := by rw [w64_id (by omega)]; omega
      simp only [c1, c2, h4, h5, and_self, decide_true, Bool.not_true, Bool.false_eq_true, if_false, Option.bind_some]
      by_cases h0 : 0 < (i : Int)
      · obtain ⟨z, hz⟩ := get_ex (l := list) (i := i - 1) (by omega)
        have ew : w64 ((i : Int) - 1) = ((i - 1 : Nat) : Int) := by rw [w64_id (by omega)]; omega
        simp only [h0, decide_true, if_true, ew, idx_nat, hz, Option.bind_some]
        by_cases hl : WLt z e
        · left
          refine ⟨?_, ⟨h1, h2, h3, h4, h5⟩, fun z' _ hz' => by cases hz'; exact hl⟩
          unfold WLt at hl
          have e1 : ¬ e.A < z.A := by omega
          rw [w64_succ (by omega)]
          by_cases e2 : z.A = e.A
          · have e3 : ¬ e.B ≤ z.B := by omega
            simp [e1, e2, e3]
          · simp [e1, e2]
        · right
          refine ⟨?_, fun hc => hl (hc.2 z (by omega) rfl)⟩
          unfold WLt at hl
          by_cases e1 : e.A < z.A
          · simp [e1]
          · have e2 : z.A = e.A := by omega
            have e3 : e.B ≤ z.B := by omega
            simp [e1, e2, e3]
      · simp only [h0, decide_false, Bool.false_eq_true, if_false, Option.bind_some]
        left
        exact ⟨by rw [w64_succ (by omega)], ⟨h1, h2, h3, h4, h5⟩, fun z hz => by omega⟩
    · right
      refine ⟨?_, fun hc => hw hc.1⟩
      have key : ((if (!decide (1 ≤ e.B ∧ e.B ≤ w64 ((n.Stops.length : Int) - 1))) = true then some true else if (!decide (0 ≤ e.A ∧ e.A ≤ w64 (e.B - 1))) = true then some true else some (!decide (1 ≤ e.Minutes ∧ e.Minutes ≤ 120)))) = some true := by
        by_cases c1 : 1 ≤ e.B ∧ e.B ≤ w64 ((n.Stops.length : Int) - 1)
        · have c1' := c1
          rw [w64_id (x := (n.Stops.length : Int) - 1) (by omega)] at c1'
          by_cases c2 : 0 ≤ e.A ∧ e.A ≤ w64 (e.B - 1)
          · have c2' := c2
            rw [w64_id (x := e.B - 1) (by omega)] at c2'
            have c4 : ¬ (1 ≤ e.Minutes ∧ e.Minutes ≤ 120) := fun h => hw ⟨c2.1, by omega, by omega, h.1, h.2⟩
            simp only [c1, c2, c4, and_self, decide_true, decide_false, Bool.not_true, Bool.not_false, Bool.false_eq_true, if_false]
          · simp only [c1, c2, and_self, decide_true, decide_false, Bool.not_true, Bool.not_false, Bool.false_eq_true, if_false, if_true]
        · simp only [c1, decide_false, Bool.not_false, if_true]
      rw [key]; simp
  · simp [hg]
theorem validW_eq {n : Network} (hb : Bd n) (list : List Walk) : i_IsValidWalks n list = some (decide (Good n ∧ WalksP n.Stops.length list)) := by
  unfold i_IsValidWalks
  rw [valid_eq n hb, areWalks_eq]
  by_cases hg : Good n <;> simp [hg]
theorem walk_at {st : Nat} {list : List Walk} (h : WalksP st list) {e : Walk} (he : e ∈ list) : WalkP st e := by
  obtain ⟨i, hi⟩ := List.getElem?_of_mem he
  exact (h.2 i e hi).1
theorem walk_lt {st : Nat} {list : List Walk} (h : WalksP st list) {i j : Nat} {a b : Walk} (hij : i < j) (ha : list[i]? = some a) (hb : list[j]? = some b) : WLt a b := by
  induction j generalizing b with
  | zero => omega
  | succ j ih =>
    obtain ⟨c, hc⟩ := get_ex (l := list) (i := j) (by have := get_lt hb; omega)
    have h1 := (h.2 (j + 1) b hb).2 c (by omega) (by simpa using hc)
    by_cases hji : i = j
    · subst hji; rw [ha] at hc; cases hc; exact h1
    · have := ih (by omega) hc
      unfold WLt at *; omega
/-- A walk between two stops, in either direction. -/
def Edge (list : List Walk) (b c : Nat) (w : Int) : Prop := ∃ e ∈ list, ((e.A = (b : Int) ∧ e.B = (c : Int)) ∨ (e.A = (c : Int) ∧ e.B = (b : Int))) ∧ e.Minutes = w
theorem Edge.symm {list : List Walk} {b c : Nat} {w : Int} (h : Edge list b c w) : Edge list c b w := by
  obtain ⟨e, h1, h2, h3⟩ := h
  exact ⟨e, h1, h2.symm, h3⟩
theorem Edge.rng {st : Nat} {list : List Walk} (hl : WalksP st list) {b c : Nat} {w : Int} (h : Edge list b c w) : b < st ∧ c < st ∧ b ≠ c ∧ 1 ≤ w ∧ w ≤ 120 := by
  obtain ⟨e, h1, h2, h3⟩ := h
  obtain ⟨g1, g2, g3, g4, g5⟩ := walk_at hl h1
  rcases h2 with h2 | h2
  · refine ⟨by omega, by omega, fun h => by subst h; omega, by omega, by omega⟩
  · refine ⟨by omega, by omega, fun h => by subst h; omega, by omega, by omega⟩
/-- There is a way of a length. -/
def Way (list : List Walk) (a b : Nat) (L : Int) : Prop := ∀ R : Nat → Nat → Int → Prop, (∀ x, R x x 0) → (∀ x y z l w, R x y l → Edge list y z w → R x z (l + w)) → R a b L
theorem Way.refl {list : List Walk} (a : Nat) : Way list a a 0 := fun _ h _ => h a
theorem Way.step {list : List Walk} {a b c : Nat} {L w : Int} (h : Way list a b L) (he : Edge list b c w) : Way list a c (L + w) := fun R h1 h2 => h2 a b c L w (h R h1 h2) he
theorem Way.one {list : List Walk} {a b : Nat} {w : Int} (he : Edge list a b w) : Way list a b w := by
  have := (Way.refl (list := list) a).step he
  rwa [Int.zero_add] at this
theorem Way.trans {list : List Walk} {a b c : Nat} {L M : Int} (h : Way list a b L) (h' : Way list b c M) : Way list a c (L + M) := by
  refine h' (fun x y l => ∀ a L, Way list a x L → Way list a y (L + l)) (fun x a L h => by rw [Int.add_zero]; exact h) (fun x y z l w ih he a L h => ?_) a L h
  rw [← Int.add_assoc]
  exact (ih a L h).step he
theorem Way.symm {list : List Walk} {a b : Nat} {L : Int} (h : Way list a b L) : Way list b a L := by
  refine h (fun x y l => Way list y x l) (fun x => .refl x) (fun x y z l w ih he => ?_)
  rw [Int.add_comm]
  exact (Way.one he.symm).trans ih
theorem Way.rng {st : Nat} {list : List Walk} (hl : WalksP st list) {a b : Nat} {L : Int} (h : Way list a b L) : (a < st → b < st) ∧ 0 ≤ L ∧ (a ≠ b → 1 ≤ L) := by
  refine h (fun x y l => (x < st → y < st) ∧ 0 ≤ l ∧ (x ≠ y → 1 ≤ l)) (fun x => ⟨fun h => h, by omega, fun h => absurd rfl h⟩) (fun x y z l w ih he => ?_)
  have := he.rng hl
  exact ⟨fun _ => this.2.1, by omega, fun _ => by omega⟩
/-- What is as short as can be: -1 where there is no way. -/
def IsDist (list : List Walk) (a b : Nat) (x : Int) : Prop := -1 ≤ x ∧ (0 ≤ x → Way list a b x) ∧ ∀ L, Way list a b L → 0 ≤ x ∧ x ≤ L
theorem IsDist.uniq {list : List Walk} {a b : Nat} {x y : Int} (h : IsDist list a b x) (h' : IsDist list a b y) : x = y := by
  by_cases hx : 0 ≤ x
  · have h1 := h'.2.2 x (h.2.1 hx)
    have h2 := h.2.2 y (h'.2.1 h1.1)
    omega
  · by_cases hy : 0 ≤ y
    · have h2 := h.2.2 y (h'.2.1 hy); omega
    · have := h.1; have := h'.1; omega
theorem IsDist.symm {list : List Walk} {a b : Nat} {x : Int} (h : IsDist list a b x) : IsDist list b a x := ⟨h.1, fun hx => (h.2.1 hx).symm, fun L hL => h.2.2 L hL.symm⟩
theorem IsDist.self {st : Nat} {list : List Walk} (hl : WalksP st list) {a : Nat} {x : Int} (h : IsDist list a a x) : x = 0 := by
  have := h.2.2 0 (.refl a); omega
theorem IsDist.pos {st : Nat} {list : List Walk} (hl : WalksP st list) {a b : Nat} {x : Int} (h : IsDist list a b x) (hab : a ≠ b) (hx : 0 ≤ x) : 1 ≤ x := ((h.2.1 hx).rng hl).2.2 hab
/-! Walks: the table of the program holds the shortest ways. -/
def tat (T : List (List Int)) (i j : Nat) : Int := (T.getD i []).getD j (-1)
def Sq (K : Nat) (T : List (List Int)) : Prop := T.length = K ∧ ∀ (i : Nat) r, T[i]? = some r → r.length = K
theorem sq_row {K : Nat} {T : List (List Int)} (h : Sq K T) {i : Nat} (hi : i < K) : ∃ r, T[i]? = some r ∧ r.length = K ∧ ∀ j, j < K → r[j]? = some (tat T i j) := by
  obtain ⟨r, hr⟩ := get_ex (l := T) (i := i) (by have := h.1; omega)
  have hl := h.2 i r hr
  refine ⟨r, hr, hl, fun j hj => ?_⟩
  obtain ⟨x, hx⟩ := get_ex (l := r) (i := j) (by omega)
  rw [hx]
  unfold tat
  rw [List.getD_eq_getElem?_getD, List.getD_eq_getElem?_getD, hr, Option.getD_some, hx]; rfl
theorem tat_of {T : List (List Int)} {i j : Nat} {r : List Int} {x : Int} (hr : T[i]? = some r) (hx : r[j]? = some x) : tat T i j = x := by
  unfold tat
  rw [List.getD_eq_getElem?_getD, List.getD_eq_getElem?_getD, hr, Option.getD_some, hx]; rfl
theorem sq_set {K : Nat} {T : List (List Int)} (h : Sq K T) {i j : Nat} {r : List Int} (x : Int) (hr : T[i]? = some r) (hj : j < K) : Sq K (T.set i (r.set j x)) ∧ ∀ a b, a < K → b < K → tat (T.set i (r.set j x)) a b = if a = i ∧ b = j then x else tat T a b := by
  have hi := get_lt hr
  have hl := h.2 i r hr
  have hs : Sq K (T.set i (r.set j x)) := by
    refine ⟨by rw [List.length_set]; exact h.1, fun a q hq => ?_⟩
    by_cases hai : a = i
    · subst hai
      rw [List.getElem?_set_self hi] at hq; cases hq
      rw [List.length_set]; exact hl
    · rw [List.getElem?_set_ne (Ne.symm hai)] at hq
      exact h.2 a q hq
  refine ⟨hs, fun a b ha hb => ?_⟩
  by_cases hai : a = i
  · subst hai
    by_cases hbj : b = j
    · subst hbj
      rw [if_pos ⟨rfl, rfl⟩]
      exact tat_of (List.getElem?_set_self hi) (List.getElem?_set_self (by omega))
    · rw [if_neg (fun h => hbj h.2)]
      obtain ⟨r', hr', _, h2⟩ := sq_row h ha
      rw [hr] at hr'; cases hr'
      exact tat_of (List.getElem?_set_self hi) (by rw [List.getElem?_set_ne (Ne.symm hbj)]; exact h2 b hb)
  · rw [if_neg (fun h => hai h.1)]
    obtain ⟨r', hr', _, h2⟩ := sq_row h ha
    exact tat_of (by rw [List.getElem?_set_ne (Ne.symm hai)]; exact hr') (h2 b hb)
/-- The table as it is made. -/
def D0 (K i : Nat) : List Int := (List.range K).map fun b => if b = i then 0 else -1
theorem D0_at {K i b : Nat} (hb : b < K) : (D0 K i)[b]? = some (if b = i then 0 else -1) := by
  unfold D0; rw [List.getElem?_map, List.getElem?_range hb]; rfl
theorem wt1_ok (n : Network) (h8 : n.Stops.length ≤ 1000) {v : Nat} (hv : v < n.Stops.length) (T : List (List Int)) (hT : T.length = n.Stops.length) (hr : T[v]? = some (List.replicate n.Stops.length (0 : Int))) :
    Tot (iter (i_walkTable_L1 n (v : Int)) ((0 : Int), T)) fun o => o = T.set v (D0 n.Stops.length v) := by
  refine Tot.iter (fun m s => ∃ k : Nat, s.1 = (k : Int) ∧ m + k = n.Stops.length ∧ s.2 = T.set v ((List.range n.Stops.length).map fun b => if b = v ∨ k ≤ b then 0 else -1)) (n := n.Stops.length) ⟨0, rfl, by omega, ?_⟩ ?_
  · have e : ((List.range n.Stops.length).map fun b => if b = v ∨ 0 ≤ b then (0 : Int) else -1) = List.replicate n.Stops.length (0 : Int) := by
      apply List.ext_getElem?
      intro b
      rw [List.getElem?_map, List.getElem?_replicate]
      by_cases hb : b < n.Stops.length
      · rw [List.getElem?_range hb, if_pos hb]; simp
      · rw [List.getElem?_eq_none (by simpa using hb), if_neg hb]; rfl
    rw [e, set_same hr]
  · rintro m ⟨w, o⟩ ⟨k, hw, hm, ho⟩
    simp only at hw ho
    subst hw; subst ho
    unfold i_walkTable_L1
    rw [List.length_replicate, Int.toNat_natCast]
    refine .iteP (fun hc => ?_) (fun hc => .dn ?_)
    · refine .call (P := fun o => o = T.set v ((List.range n.Stops.length).map fun b => if b = v ∨ k + 1 ≤ b then 0 else -1)) ?_ fun o ho => .nx ⟨m - 1, by omega, k + 1, w64_succ (by omega), by omega, ho⟩
      have hset : (T.set v ((List.range n.Stops.length).map fun b => if b = v ∨ k ≤ b then (0 : Int) else -1))[v]? = some ((List.range n.Stops.length).map fun b => if b = v ∨ k ≤ b then (0 : Int) else -1) := List.getElem?_set_self (by omega)
      refine .ite (fun hne => ?_) (fun heq => .ok ?_)
      · have hne : k ≠ v := by
          intro e; subst e; simp at hne
        obtain ⟨x, hx⟩ := get_ex (l := (List.range n.Stops.length).map fun b => if b = v ∨ k ≤ b then (0 : Int) else -1) (i := k) (by simp; omega)
        refine .eq (ixs hset) (.eq (ixs hx) (.ok ?_))
        rw [Int.toNat_natCast, Int.toNat_natCast, List.set_set]
        congr 1
        apply List.ext_getElem?
        intro b
        by_cases hb : b < n.Stops.length
        · rw [List.getElem?_map, List.getElem?_range hb]
          by_cases hbk : k = b
          · subst hbk
            rw [List.getElem?_set_self (by simp; omega)]
            have c : ¬ (k = v ∨ k + 1 ≤ k) := by omega
            simp [c]
          · rw [List.getElem?_set_ne hbk, List.getElem?_map, List.getElem?_range hb]
            simp only [Option.map_some]
            congr 1
            by_cases h1 : b = v ∨ k ≤ b
            · rw [if_pos h1, if_pos (by omega)]
            · rw [if_neg h1, if_neg (by omega)]
        · rw [List.getElem?_eq_none (by simp; omega), List.getElem?_eq_none (by simp; omega)]
      · have heq : k = v := by
          have : ¬ ((v : Int) ≠ (k : Int)) := by simpa using heq
          omega
        subst heq
        congr 1
        apply List.map_congr_left
        intro b _
        by_cases h1 : b = k ∨ k ≤ b
        · rw [if_pos h1, if_pos (by omega)]
        · rw [if_neg h1, if_neg (by omega)]
    · congr 1
      unfold D0
      apply List.map_congr_left
      intro b hb
      have := List.mem_range.1 hb
      by_cases h1 : b = v
      · rw [if_pos (.inl h1), if_pos h1]
      · rw [if_neg (by omega), if_neg h1]
theorem wt2_ok (n : Network) (h8 : n.Stops.length ≤ 1000) : Tot (iter (i_walkTable_L2 n) ((0 : Int), List.replicate (n.Stops.length : Int).toNat (([] : List Int) : List Int))) fun T => Sq n.Stops.length T ∧ ∀ a b, a < n.Stops.length → b < n.Stops.length → tat T a b = if b = a then 0 else -1 := by
  have fin : ∀ T : List (List Int), T.length = n.Stops.length → (∀ i, i < n.Stops.length → T[i]? = some (D0 n.Stops.length i)) → Sq n.Stops.length T ∧ ∀ a b, a < n.Stops.length → b < n.Stops.length → tat T a b = if b = a then 0 else -1 := by
    intro T h1 h2
    refine ⟨⟨h1, fun i r hr => ?_⟩, fun a b ha hb => tat_of (h2 a ha) (D0_at hb)⟩
    have := get_lt hr
    rw [h2 i (by omega)] at hr; cases hr
    simp [D0]
  refine Tot.iter (fun m s => ∃ k : Nat, s.1 = (k : Int) ∧ m + k = n.Stops.length ∧ s.2.length = n.Stops.length ∧ ∀ i, i < k → s.2[i]? = some (D0 n.Stops.length i)) (n := n.Stops.length) ⟨0, rfl, by omega, by simp, fun i hi => by omega⟩ ?_
  rintro m ⟨w, T⟩ ⟨k, hw, hm, hl, hT⟩
  simp only at hw hl hT
  subst hw
  unfold i_walkTable_L2
  rw [List.length_replicate, Int.toNat_natCast]
  refine .iteP (fun hc => ?_) (fun hc => .dn (fin T hl fun i hi => hT i (by omega)))
  obtain ⟨r, hr⟩ := get_ex (l := T) (i := k) (by omega)
  have hs : (T.set k (List.replicate n.Stops.length (0 : Int)))[k]? = some (List.replicate n.Stops.length (0 : Int)) := List.getElem?_set_self (by omega)
  refine .chk (by omega) (.eq (ixs hr) ?_)
  rw [Int.toNat_natCast]
  refine .eq (ixs hs) (.call (wt1_ok n h8 (by omega) _ (by rw [List.length_set]; exact hl) hs) fun o ho => .nx ⟨m - 1, by omega, k + 1, w64_succ (by omega), by omega, ?_, fun i hi => ?_⟩)
  · dsimp only; rw [ho, List.length_set, List.length_set]; exact hl
  · dsimp only
    rw [ho, List.set_set]
    by_cases hik : i = k
    · subst hik; exact List.getElem?_set_self (by omega)
    · rw [List.getElem?_set_ne (Ne.symm hik)]; exact hT i (by omega)
/-- The walks are put in. -/
def FW0 (list : List Walk) (K : Nat) (T : List (List Int)) (k : Nat) : Prop := Sq K T ∧ (∀ a, a < K → tat T a a = 0) ∧ (∀ a b, a < K → b < K → -1 ≤ tat T a b ∧ tat T a b ≤ 120 ∧ (0 ≤ tat T a b → Way list a b (tat T a b))) ∧
  ∀ i e, i < k → list[i]? = some e → tat T e.A.toNat e.B.toNat = e.Minutes ∧ tat T e.B.toNat e.A.toNat = e.Minutes
theorem wt3_ok {K : Nat} {list : List Walk} (hl : WalksP K list) {T0 : List (List Int)} (h0 : FW0 list K T0 0) : Tot (iter (i_walkTable_L3 list) ((0 : Int), T0)) fun T => FW0 list K T list.length := by
  have h12 := hl.1
  refine Tot.iter (fun m s => ∃ k : Nat, s.1 = (k : Int) ∧ m + k = list.length ∧ FW0 list K s.2 k) (n := list.length) ⟨0, rfl, by omega, h0⟩ ?_
  rintro m ⟨w, T⟩ ⟨k, hw, hm, hs, hd, hv, he⟩
  simp only at hw hs hd hv he
  subst hw
  unfold i_walkTable_L3
  refine .iteP (fun hc => ?_) (fun hc => .dn ⟨hs, hd, hv, fun i e hi => he i e (by omega)⟩)
  obtain ⟨e, hx⟩ := get_ex (l := list) (i := k) (by omega)
  obtain ⟨g1, g2, g3, g4, g5⟩ := (hl.2 k e hx).1
  obtain ⟨a, ha⟩ : ∃ a : Nat, e.A = a := ⟨e.A.toNat, by omega⟩
  obtain ⟨b, hb⟩ : ∃ b : Nat, e.B = b := ⟨e.B.toNat, by omega⟩
  rw [ha, hb] at g2; rw [hb] at g3
  obtain ⟨ra, hra, hla, hra2⟩ := sq_row hs (i := a) (by omega)
  obtain ⟨rb, hrb, hlb, hrb2⟩ := sq_row hs (i := b) (by omega)
  obtain ⟨s1, t1⟩ := sq_set hs (j := b) e.Minutes hra (by omega)
  obtain ⟨rb', hrb', _, hrb2'⟩ := sq_row s1 (i := b) (by omega)
  obtain ⟨s2, t2⟩ := sq_set s1 (j := a) e.Minutes hrb' (by omega)
  have edge : Edge list a b e.Minutes := ⟨e, List.mem_of_getElem? hx, .inl ⟨ha, hb⟩, rfl⟩
  have val : ∀ x y, x < K → y < K → tat ((T.set a (ra.set b e.Minutes)).set b (rb'.set a e.Minutes)) x y = if (x = b ∧ y = a) ∨ (x = a ∧ y = b) then e.Minutes else tat T x y := by
    intro x y hx' hy'
    rw [t2 x y hx' hy', t1 x y hx' hy']
    by_cases c1 : x = b ∧ y = a
    · rw [if_pos c1, if_pos (.inl c1)]
    · by_cases c2 : x = a ∧ y = b
      · rw [if_neg c1, if_pos c2, if_pos (.inr c2)]
      · rw [if_neg c1, if_neg c2, if_neg (by omega)]
  refine .eq (ixs hx) ?_
  rw [ha, hb]
  simp only [Int.toNat_natCast]
  refine .eq (ixs hra) (.eq (ixs hrb) (.eq (ixs (hra2 b (by omega))) (.eq (ixs hrb') (.eq (ixs (hrb2' a (by omega))) (.nx ⟨m - 1, by omega, k + 1, w64_succ (by omega), by omega, s2, fun x hx' => ?_, fun x y hx' hy' => ?_, fun i e' hi hi' => ?_⟩)))))
  · dsimp only
    rw [val x x hx' hx', if_neg (by omega)]; exact hd x hx'
  · dsimp only
    rw [val x y hx' hy']
    by_cases c : (x = b ∧ y = a) ∨ (x = a ∧ y = b)
    · rw [if_pos c]
      refine ⟨by omega, by omega, fun _ => ?_⟩
      rcases c with ⟨rfl, rfl⟩ | ⟨rfl, rfl⟩
      · exact .one edge.symm
      · exact .one edge
    · rw [if_neg c]; exact hv x y hx' hy'
  · dsimp only
    by_cases hik : i = k
    · subst hik
      rw [hx] at hi'; cases hi'
      rw [ha, hb, Int.toNat_natCast, Int.toNat_natCast, val a b (by omega) (by omega), val b a (by omega) (by omega), if_pos (.inr ⟨rfl, rfl⟩), if_pos (.inl ⟨rfl, rfl⟩)]
      exact ⟨rfl, rfl⟩
    · have hlt := walk_lt hl (show i < k by omega) hi' hx
      obtain ⟨q1, q2, q3, _⟩ := (hl.2 i e' hi').1
      unfold WLt at hlt
      have hne : ¬ ((e'.A.toNat = b ∧ e'.B.toNat = a) ∨ (e'.A.toNat = a ∧ e'.B.toNat = b)) := by omega
      have hne2 : ¬ ((e'.B.toNat = b ∧ e'.A.toNat = a) ∨ (e'.B.toNat = a ∧ e'.A.toNat = b)) := by omega
      rw [val _ _ (by omega) (by omega), val _ _ (by omega) (by omega), if_neg hne, if_neg hne2]
      exact he i e' (by omega) hi'
/-! The ways over the stops below k. -/
structure FW (list : List Walk) (K : Nat) (f : Nat → Nat → Int) (k : Nat) : Prop where
  d : ∀ a, a < K → f a a = 0
  v : ∀ a b, a < K → b < K → -1 ≤ f a b ∧ f a b ≤ 120 * 2 ^ k ∧ (0 ≤ f a b → Way list a b (f a b))
  e : ∀ a b w, Edge list a b w → 0 ≤ f a b ∧ f a b ≤ w
  t : ∀ m i j, m < k → i < K → j < K → m < K → 0 ≤ f i m → 0 ≤ f m j → 0 ≤ f i j ∧ f i j ≤ f i m + f m j
/-- One stop more. -/
def rel (m : Nat) (f : Nat → Nat → Int) (a b : Nat) : Int := if f a m < 0 ∨ f m b < 0 then f a b else if f a b < 0 ∨ f a m + f m b < f a b then f a m + f m b else f a b
theorem rel_le {m : Nat} {f : Nat → Nat → Int} {a b : Nat} (h : 0 ≤ f a b) : 0 ≤ rel m f a b ∧ rel m f a b ≤ f a b := by
  unfold rel
  split
  · omega
  · split <;> omega
theorem rel_via {m : Nat} {f : Nat → Nat → Int} {a b : Nat} (h1 : 0 ≤ f a m) (h2 : 0 ≤ f m b) : 0 ≤ rel m f a b ∧ rel m f a b ≤ f a m + f m b := by
  unfold rel
  rw [if_neg (by omega)]
  split <;> omega
theorem rel_or (m : Nat) (f : Nat → Nat → Int) (a b : Nat) : rel m f a b = f a b ∨ (0 ≤ f a m ∧ 0 ≤ f m b ∧ rel m f a b = f a m + f m b) := by
  unfold rel
  split
  · exact .inl rfl
  · split
    · exact .inr ⟨by omega, by omega, rfl⟩
    · exact .inl rfl
theorem rel_row {m : Nat} {f : Nat → Nat → Int} (hd : f m m = 0) (a : Nat) : rel m f a m = f a m := by
  rcases rel_or m f a m with h | ⟨_, _, h⟩
  · exact h
  · rw [h, hd]; omega
theorem rel_col {m : Nat} {f : Nat → Nat → Int} (hd : f m m = 0) (b : Nat) : rel m f m b = f m b := by
  rcases rel_or m f m b with h | ⟨_, _, h⟩
  · exact h
  · rw [h, hd]; omega
theorem FW.rel {list : List Walk} {K : Nat} {f : Nat → Nat → Int} {k : Nat} (h : FW list K f k) (hk : k < K) : FW list K (rel k f) (k + 1) := by
  have hd := h.d k hk
  have hp : (120 * 2 ^ (k + 1) : Int) = 120 * 2 ^ k + 120 * 2 ^ k := by rw [Int.pow_succ]; omega
  refine ⟨fun a ha => ?_, fun a b ha hb => ?_, fun a b w he => ?_, fun m i j hm hi hj hmK h1 h2 => ?_⟩
  · have h0 := h.d a ha
    rcases rel_or k f a a with h1 | ⟨h1, h2, h3⟩
    · rw [h1]; exact h0
    · have h4 := rel_le (m := k) (f := f) (a := a) (b := a) (by omega)
      omega
  · have h0 := h.v a b ha hb
    rcases rel_or k f a b with h1 | ⟨h1, h2, h3⟩
    · rw [h1]; exact ⟨h0.1, by omega, h0.2.2⟩
    · have g1 := h.v a k ha hk
      have g2 := h.v k b hk hb
      rw [h3]
      exact ⟨by omega, by omega, fun _ => (g1.2.2 h1).trans (g2.2.2 h2)⟩
  · have h0 := h.e a b w he
    have h1 := rel_le (m := k) (f := f) h0.1
    omega
  · by_cases hmk : m = k
    · subst hmk
      rw [rel_row hd] at h1 ⊢
      rw [rel_col hd] at h2 ⊢
      exact rel_via h1 h2
    · have hm' : m < k := by omega
      rcases rel_or k f i m with q1 | ⟨a1, a2, q1⟩
      · rcases rel_or k f m j with q2 | ⟨b1, b2, q2⟩
        · rw [q1] at h1 ⊢; rw [q2] at h2 ⊢
          have := h.t m i j hm' hi hj hmK h1 h2
          have := rel_le (m := k) (f := f) this.1
          omega
        · rw [q1] at h1 ⊢; rw [q2] at h2 ⊢
          have c1 := h.t m i k hm' hi hk hmK h1 b1
          have := rel_via (m := k) (f := f) c1.1 b2
          omega
      · rcases rel_or k f m j with q2 | ⟨b1, b2, q2⟩
        · rw [q1] at h1 ⊢; rw [q2] at h2 ⊢
          have c1 := h.t m k j hm' hk hj hmK a2 h2
          have := rel_via (m := k) (f := f) a1 c1.1
          omega
        · rw [q1] at h1 ⊢; rw [q2] at h2 ⊢
          have := rel_via (m := k) (f := f) a1 b2
          omega
theorem FW.dist {list : List Walk} {K : Nat} (hl : WalksP K list) {f : Nat → Nat → Int} (h : FW list K f K) {a b : Nat} (ha : a < K) (hb : b < K) : IsDist list a b (f a b) := by
  have hv := h.v a b ha hb
  refine ⟨hv.1, hv.2.2, fun L hL => ?_⟩
  have key := hL (fun x y l => x < K → y < K ∧ 0 ≤ f x y ∧ f x y ≤ l) (fun x hx => ⟨hx, by rw [h.d x hx]; omega, by rw [h.d x hx]; omega⟩) (fun x y z l w ih he hx => by
    obtain ⟨i1, i2, i3⟩ := ih hx
    have he1 := h.e y z w he
    have hr := he.rng hl
    have := h.t y x z i1 hx hr.2.1 i1 i2 he1.1
    exact ⟨hr.2.1, by omega, by omega⟩)
  exact (key ha).2
/-! Walks: the program's table; the reference's times. -/
def stg (m : Nat) (f : Nat → Nat → Int) (i j a b : Nat) : Int := if a < i ∨ (a = i ∧ b < j) then rel m f a b else f a b
theorem stg_row {m : Nat} {f : Nat → Nat → Int} (hd : f m m = 0) (i j a : Nat) : stg m f i j a m = f a m := by
  unfold stg; rw [rel_row hd]; split <;> rfl
theorem stg_col {m : Nat} {f : Nat → Nat → Int} (hd : f m m = 0) (i j b : Nat) : stg m f i j m b = f m b := by
  unfold stg; rw [rel_col hd]; split <;> rfl
def Stg (K m : Nat) (f : Nat → Nat → Int) (i j : Nat) (T : List (List Int)) : Prop := Sq K T ∧ ∀ a b, a < K → b < K → tat T a b = stg m f i j a b
theorem wt4_ok (n : Network) {list : List Walk} {f : Nat → Nat → Int} {m i : Nat} (hK : n.Stops.length ≤ 8) (hf : FW list n.Stops.length f m) (hm : m < n.Stops.length) (hi : i < n.Stops.length) {T0 : List (List Int)} (h0 : Stg n.Stops.length m f i 0 T0) :
    Tot (iter (i_walkTable_L4 n (m : Int) (i : Int)) ((0 : Int), T0)) fun T => Stg n.Stops.length m f (i + 1) 0 T := by
  have hd := hf.d m hm
  have hpow : (2 : Int) ^ m ≤ 256 := by
    have h1 : (2 : Nat) ^ m ≤ 2 ^ 8 := Nat.pow_le_pow_right (by omega) (by omega)
    have h2 : ((2 ^ m : Nat) : Int) ≤ ((2 ^ 8 : Nat) : Int) := by exact_mod_cast h1
    rw [Int.natCast_pow] at h2
    simpa using h2
  refine Tot.iter (fun q s => ∃ j : Nat, s.1 = (j : Int) ∧ q + j = n.Stops.length ∧ Stg n.Stops.length m f i j s.2) (n := n.Stops.length) ⟨0, rfl, by omega, h0⟩ ?_
  rintro q ⟨w, T⟩ ⟨j, hw, hq, hs, hT⟩
  simp only at hw hs hT
  subst hw
  unfold i_walkTable_L4
  refine .iteP (fun hc => ?_) (fun hc => .dn ⟨hs, fun a b ha hb => ?_⟩)
  · have hj : j < n.Stops.length := by omega
    obtain ⟨ri, hri, hli, hri2⟩ := sq_row hs hi
    obtain ⟨rm, hrm, hlm, hrm2⟩ := sq_row hs hm
    have eim : tat T i m = f i m := by rw [hT i m hi hm, stg_row hd]
    have emj : tat T m j = f m j := by rw [hT m j hm hj, stg_col hd]
    have eij : tat T i j = f i j := by rw [hT i j hi hj]; unfold stg; rw [if_neg (by omega)]
    have v1 := hf.v i m hi hm
    have v2 := hf.v m j hm hj
    have ew : w64 (f i m + f m j) = f i m + f m j := w64_id (by omega)
    have next : ∀ T', Sq n.Stops.length T' → (∀ a b, a < n.Stops.length → b < n.Stops.length → tat T' a b = if a = i ∧ b = j then rel m f i j else tat T a b) → Stg n.Stops.length m f i (j + 1) T' := by
      intro T' s' h'
      refine ⟨s', fun a b ha hb => ?_⟩
      rw [h' a b ha hb]
      unfold stg
      by_cases c : a = i ∧ b = j
      · rw [if_pos c, if_pos (by omega), c.1, c.2]
      · rw [if_neg c, hT a b ha hb]
        unfold stg
        by_cases c2 : a < i ∨ (a = i ∧ b < j)
        · rw [if_pos c2, if_pos (by omega)]
        · rw [if_neg c2, if_neg (by omega)]
    have same : rel m f i j = f i j → Stg n.Stops.length m f i (j + 1) T := fun h => next T hs fun a b ha hb => by
      by_cases c : a = i ∧ b = j
      · rw [if_pos c, c.1, c.2, eij, h]
      · rw [if_neg c]
    refine .call (P := fun T' => Stg n.Stops.length m f i (j + 1) T') ?_ fun T' hT' => .nx ⟨q - 1, by omega, j + 1, w64_succ (by omega), by omega, hT'⟩
    refine .eq (ixs hri) (.eq (ixs (hri2 m hm)) ?_)
    rw [eim]
    refine .call (P := fun b => b = decide (f i m < 0 ∨ f m j < 0)) (.iteP (fun h => .ok (by simp [h])) (fun h => .eq (ixs hrm) (.eq (ixs (hrm2 j hj)) (.ok (by rw [emj]; simp [h]))))) fun b hb => ?_
    subst hb
    refine .iteP (fun h => .ok (same (by unfold rel; rw [if_pos h]))) (fun h => ?_)
    refine .eq (ixs hri) (.eq (ixs (hri2 m hm)) (.eq (ixs hrm) (.eq (ixs (hrm2 j hj)) (.eq (ixs hri) (.eq (ixs (hri2 j hj)) ?_)))))
    rw [eim, emj, eij, ew]
    refine .call (P := fun b => b = decide (f i j < 0 ∨ f i m + f m j < f i j)) (.iteP (fun h => .ok (by simp [h])) (fun h => .eq (ixs hri) (.eq (ixs (hri2 j hj)) (.ok (by rw [eij]; simp [h]))))) fun b hb => ?_
    subst hb
    refine .iteP (fun h2 => .eq (ixs hri) (.eq (ixs (hri2 j hj)) (.ok ?_))) (fun h2 => .ok (same (by unfold rel; rw [if_neg h, if_neg h2])))
    rw [Int.toNat_natCast, Int.toNat_natCast]
    obtain ⟨s1, t1⟩ := sq_set hs (j := j) (f i m + f m j) hri hj
    exact next _ s1 fun a b ha hb => by
      rw [t1 a b ha hb]
      by_cases c : a = i ∧ b = j
      · rw [if_pos c, if_pos c]; unfold rel; rw [if_neg h, if_pos h2]
      · rw [if_neg c, if_neg c]
  · rw [hT a b ha hb]
    unfold stg
    by_cases c : a < i ∨ (a = i ∧ b < j)
    · rw [if_pos c, if_pos (by omega)]
    · rw [if_neg c, if_neg (by omega)]
theorem wt5_ok (n : Network) {list : List Walk} {f : Nat → Nat → Int} {m : Nat} (hK : n.Stops.length ≤ 8) (hf : FW list n.Stops.length f m) (hm : m < n.Stops.length) {T0 : List (List Int)} (h0 : Sq n.Stops.length T0) (h1 : ∀ a b, a < n.Stops.length → b < n.Stops.length → tat T0 a b = f a b) :
    Tot (iter (i_walkTable_L5 n (m : Int)) ((0 : Int), T0)) fun T => Sq n.Stops.length T ∧ ∀ a b, a < n.Stops.length → b < n.Stops.length → tat T a b = rel m f a b := by
  refine Tot.iter (fun q s => ∃ i : Nat, s.1 = (i : Int) ∧ q + i = n.Stops.length ∧ Stg n.Stops.length m f i 0 s.2) (n := n.Stops.length) ⟨0, rfl, by omega, h0, fun a b ha hb => ?_⟩ ?_
  · rw [h1 a b ha hb]; unfold stg; rw [if_neg (by omega)]
  rintro q ⟨w, T⟩ ⟨i, hw, hq, hs, hT⟩
  simp only at hw hs hT
  subst hw
  unfold i_walkTable_L5
  refine .iteP (fun hc => .call (wt4_ok n hK hf hm (by omega) ⟨hs, hT⟩) fun T' hT' => .nx ⟨q - 1, by omega, i + 1, w64_succ (by omega), by omega, hT'⟩) (fun hc => .dn ⟨hs, fun a b ha hb => ?_⟩)
  rw [hT a b ha hb]; unfold stg; rw [if_pos (by omega)]
theorem walkTable_ok {n : Network} (hn : 2 ≤ n.Stops.length ∧ n.Stops.length ≤ 8) {list : List Walk} (hl : WalksP n.Stops.length list) :
    Tot (i_walkTable n list) fun T => Sq n.Stops.length T ∧ ∀ a b, a < n.Stops.length → b < n.Stops.length → IsDist list a b (tat T a b) ∧ tat T a b ≤ 100000 := by
  have hpow : (2 : Int) ^ n.Stops.length ≤ 256 := by
    have h1 : (2 : Nat) ^ n.Stops.length ≤ 2 ^ 8 := Nat.pow_le_pow_right (by omega) (by omega)
    have h2 : ((2 ^ n.Stops.length : Nat) : Int) ≤ ((2 ^ 8 : Nat) : Int) := by exact_mod_cast h1
    rw [Int.natCast_pow] at h2
    simpa using h2
  unfold i_walkTable
  refine .chk (by omega) (.call (wt2_ok n (by omega)) fun T1 ⟨s1, t1⟩ => .call (wt3_ok hl (T0 := T1) ⟨s1, fun a ha => by rw [t1 a a ha ha, if_pos rfl], fun a b ha hb => ?_, fun i e hi => by omega⟩) fun T2 ⟨s2, d2, v2, e2⟩ => ?_)
  · rw [t1 a b ha hb]
    by_cases c : b = a
    · subst c; rw [if_pos rfl]; exact ⟨by omega, by omega, fun _ => .refl b⟩
    · rw [if_neg c]; exact ⟨by omega, by omega, fun h => by omega⟩
  · have f0 : FW list n.Stops.length (tat T2) 0 := by
      refine ⟨d2, fun a b ha hb => by have := v2 a b ha hb; exact ⟨this.1, by omega, this.2.2⟩, fun a b w he => ?_, fun m i j hm => by omega⟩
      obtain ⟨e, h1, h2, h3⟩ := he
      obtain ⟨i, hi⟩ := List.getElem?_of_mem h1
      obtain ⟨q1, q2⟩ := e2 i e (get_lt hi) hi
      have hw := walk_at hl h1
      rcases h2 with ⟨ha, hb⟩ | ⟨ha, hb⟩
      · rw [ha, hb, Int.toNat_natCast, Int.toNat_natCast] at q1
        rw [q1, h3]; have := hw.2.2.2; omega
      · rw [ha, hb, Int.toNat_natCast, Int.toNat_natCast] at q2
        rw [q2, h3]; have := hw.2.2.2; omega
    refine .call (P := fun T => Sq n.Stops.length T ∧ FW list n.Stops.length (tat T) n.Stops.length) ?_ fun T3 ⟨s3, h3⟩ => .ok ⟨s3, fun a b ha hb => ⟨h3.dist hl ha hb, by have := (h3.v a b ha hb).2.1; omega⟩⟩
    refine Tot.iter (fun q s => ∃ m : Nat, s.1 = (m : Int) ∧ q + m = n.Stops.length ∧ Sq n.Stops.length s.2 ∧ FW list n.Stops.length (tat s.2) m) (n := n.Stops.length) ⟨0, rfl, by omega, s2, f0⟩ ?_
    rintro q ⟨w, T⟩ ⟨m, hw, hq, hs, hT⟩
    simp only at hw hs hT
    subst hw
    unfold i_walkTable_L6
    refine .iteP (fun hc => ?_) (fun hc => .dn ⟨hs, by rwa [show n.Stops.length = m by omega] at hT ⊢⟩)
    refine .call (wt5_ok n hn.2 hT (by omega) hs fun a b _ _ => rfl) fun T' ⟨g1, g2⟩ => .nx ⟨q - 1, by omega, m + 1, w64_succ (by omega), by omega, g1, ?_⟩
    have hr := hT.rel (k := m) (by omega)
    refine ⟨fun a ha => by rw [g2 a a ha ha]; exact hr.d a ha, fun a b ha hb => by rw [g2 a b ha hb]; exact hr.v a b ha hb, fun a b w he => ?_, fun k i j hk hi hj hkK => ?_⟩
    · have := he.rng hl
      rw [g2 a b this.1 this.2.1]; exact hr.e a b w he
    · dsimp only
      rw [g2 i k hi hkK, g2 k j hkK hj, g2 i j hi hj]; exact hr.t k i j hk hi hj hkK
/-! The reference: times that are bettered until they stay. -/
def wt (x : Int) : Int := if x < 0 then 1000 else x
def nI (x : Int) : Int := if x < 0 then 1 else 0
def mu (l : List Int) : Int := (l.map wt).sum
def ninf (l : List Int) : Int := (l.map nI).sum
theorem sum_set {α : Type} (f : α → Int) : ∀ {l : List α} {i : Nat} {x : α} (y : α), l[i]? = some x → ((l.set i y).map f).sum = (l.map f).sum - f x + f y
  | [], i, x, y, h => by simp at h
  | a :: l, 0, x, y, h => by
    have : a = x := by simpa using h
    subst this
    simp only [List.set_cons_zero, List.map_cons, List.sum_cons]; omega
  | a :: l, i + 1, x, y, h => by
    have := sum_set f (l := l) (i := i) y (by simpa using h)
    simp only [List.set_cons_succ, List.map_cons, List.sum_cons, this]; omega
theorem mu_nonneg (l : List Int) : 0 ≤ mu l := sum_nonneg fun x hx => by
  obtain ⟨y, _, rfl⟩ := List.mem_map.1 hx
  unfold wt; split <;> omega
theorem ninf_nonneg (l : List Int) : 0 ≤ ninf l := sum_nonneg fun x hx => by
  obtain ⟨y, _, rfl⟩ := List.mem_map.1 hx
  unfold nI; split <;> omega
def BI (list : List Walk) (K s : Nat) (out : List Int) : Prop := out.length = K ∧ (∀ (b : Nat) x, out[b]? = some x → -1 ≤ x ∧ x ≤ 960 - 120 * ninf out ∧ (0 ≤ x → Way list s b x)) ∧ out[s]? = some 0
def Rlx (out : List Int) (a b : Nat) (w : Int) : Prop := ∀ x y, out[a]? = some x → out[b]? = some y → 0 ≤ x → 0 ≤ y ∧ y ≤ x + w
/-- A time is bettered. -/
theorem BI.put {list : List Walk} {K s : Nat} {out : List Int} (h : BI list K s out) {a b : Nat} {x y w : Int} (hl : WalksP K list) (he : Edge list a b w) (hx : out[a]? = some x) (hy : out[b]? = some y) (h0 : 0 ≤ x) (hlt : y < 0 ∨ x + w < y) : BI list K s (out.set b (x + w)) ∧ mu (out.set b (x + w)) < mu out ∧ 0 ≤ x + w ∧ x + w ≤ 1000 := by
  obtain ⟨h1, h2, h3⟩ := h
  have hr := he.rng hl
  have gx := h2 a x hx
  have gy := h2 b y hy
  have hn := sum_set nI (x + w) hy
  have hm := sum_set wt (x + w) hy
  have e1 : nI (x + w) = 0 := by unfold nI; rw [if_neg (by omega)]
  have e2 : wt (x + w) = x + w := by unfold wt; rw [if_neg (by omega)]
  have hb := get_lt hy
  have hni : ninf (out.set b (x + w)) = ninf out - nI y := by unfold ninf; rw [hn, e1]; omega
  have hny := ninf_nonneg (out.set b (x + w))
  have e3 : nI y = 0 ∨ (nI y = 1 ∧ y < 0) := by unfold nI; split <;> omega
  have e4 : (y < 0 ∧ wt y = 1000 ∧ nI y = 1) ∨ (0 ≤ y ∧ wt y = y ∧ nI y = 0) := by unfold wt nI; by_cases c : y < 0 <;> simp [c] <;> omega
  refine ⟨⟨by rw [List.length_set]; exact h1, fun c z hz => ?_, ?_⟩, ?_, by omega, ?_⟩
  · rw [hni]
    by_cases hcb : c = b
    · subst hcb
      rw [List.getElem?_set_self hb] at hz; cases hz
      exact ⟨by omega, by omega, fun _ => (gx.2.2 h0).step he⟩
    · rw [List.getElem?_set_ne (Ne.symm hcb)] at hz
      have := h2 c z hz
      exact ⟨this.1, by omega, this.2.2⟩
  · by_cases hsb : b = s
    · subst hsb
      rw [h3] at hy; cases hy
      omega
    · rw [List.getElem?_set_ne hsb]; exact h3
  · show mu (out.set b (x + w)) < mu out
    unfold mu; rw [hm, e2]
    have := ninf_nonneg out
    omega
  · have := ninf_nonneg out
    omega
theorem bf2_ok {list : List Walk} {K s : Nat} (hl : WalksP K list) {k : Nat} {e : Walk} (he : list[k]? = some e) {o0 i0 : List Int} {b0 : Bool} {P : Prop} (h0 : BI list K s i0) (hb : (b0 = true ∧ mu i0 < mu o0) ∨ (b0 = false ∧ i0 = o0 ∧ P)) :
    Tot (iter (s_l7Times_L2 list (k : Int)) (b0, e.A, e.B, (0 : Int), i0)) fun r => BI list K s r.2 ∧ ((r.1 = true ∧ mu r.2 < mu o0) ∨ (r.1 = false ∧ r.2 = o0 ∧ P ∧ Rlx o0 e.A.toNat e.B.toNat e.Minutes ∧ Rlx o0 e.B.toNat e.A.toNat e.Minutes)) := by
  obtain ⟨g1, g2, g3, g4, g5⟩ := (hl.2 k e he).1
  have hem := List.mem_of_getElem? he
  refine Tot.iter (fun m s' => ∃ t : Nat, t ≤ 2 ∧ s'.2.2.2.1 = (t : Int) ∧ m + t = 2 ∧ BI list K s s'.2.2.2.2 ∧ (t = 0 → s'.2.1 = e.A ∧ s'.2.2.1 = e.B) ∧ (t = 1 → s'.2.1 = e.B ∧ s'.2.2.1 = e.A) ∧
    ((s'.1 = true ∧ mu s'.2.2.2.2 < mu o0) ∨ (s'.1 = false ∧ s'.2.2.2.2 = o0 ∧ P ∧ (1 ≤ t → Rlx o0 e.A.toNat e.B.toNat e.Minutes) ∧ (2 ≤ t → Rlx o0 e.B.toNat e.A.toNat e.Minutes)))) (n := 2)
    ⟨0, by omega, rfl, rfl, h0, fun _ => ⟨rfl, rfl⟩, fun h => by omega, hb.imp_right fun h => ⟨h.1, h.2.1, h.2.2, fun h => by omega, fun h => by omega⟩⟩ ?_
  rintro m ⟨b2, v, v1, v2, i4⟩ ⟨t, ht, hv2, hm, hB, hA0, hA1, hR⟩
  simp only at hv2 hB hA0 hA1 hR
  subst hv2
  unfold s_l7Times_L2
  refine .iteP (fun hc => ?_) (fun hc => .dn ⟨hB, ?_⟩)
  · -- from v to v1
    obtain ⟨a, b, hva, hvb, ha, hb', hedge⟩ : ∃ a b : Nat, v = a ∧ v1 = b ∧ a < K ∧ b < K ∧ Edge list a b e.Minutes := by
      have ht' : t = 0 ∨ t = 1 := by omega
      rcases ht' with ht' | ht'
      · obtain ⟨q1, q2⟩ := hA0 ht'
        exact ⟨e.A.toNat, e.B.toNat, by omega, by omega, by omega, by omega, e, hem, .inl ⟨by omega, by omega⟩, rfl⟩
      · obtain ⟨q1, q2⟩ := hA1 ht'
        exact ⟨e.B.toNat, e.A.toNat, by omega, by omega, by omega, by omega, e, hem, .inr ⟨by omega, by omega⟩, rfl⟩
    obtain ⟨x, hx⟩ := get_ex (l := i4) (i := a) (by rw [hB.1]; omega)
    obtain ⟨y, hy⟩ := get_ex (l := i4) (i := b) (by rw [hB.1]; omega)
    have gx := hB.2.1 a x hx
    have hnn := ninf_nonneg i4
    have ew : w64 (x + e.Minutes) = x + e.Minutes := w64_id (by omega)
    subst hva; subst hvb
    refine .call (P := fun r => BI list K s r.2 ∧ ((r.1 = true ∧ mu r.2 < mu o0) ∨ (r.1 = false ∧ r.2 = o0 ∧ P ∧ (1 ≤ t → Rlx o0 e.A.toNat e.B.toNat e.Minutes) ∧ (2 ≤ t → Rlx o0 e.B.toNat e.A.toNat e.Minutes) ∧ Rlx o0 a b e.Minutes))) ?_ fun ⟨b3, i5⟩ ⟨r1, r2⟩ => ?_
    · refine .eq (ixs hx) ?_
      refine .call (P := fun c => c = decide (0 ≤ x ∧ (y < 0 ∨ x + e.Minutes < y))) (.iteP (fun h1 => .eq (ixs hy) (.iteP (fun h2 => .ok (by simp [h1, h2])) (fun h2 => .eq (ixs hx) (.eq (ixs he) (.eq (ixs hy) (.ok (by rw [ew]; simp [h1, h2]))))))) (fun h1 => .ok (by simp [h1]))) fun c hcc => ?_
      subst hcc
      refine .iteP (fun h1 => .eq (ixs hx) (.eq (ixs he) (.eq (ixs hy) ?_))) (fun h1 => .ok ⟨hB, ?_⟩)
      · obtain ⟨p1, p2, p3, p4⟩ := hB.put hl hedge hx hy h1.1 h1.2
        rw [ew, Int.toNat_natCast]
        refine .ok ⟨p1, .inl ⟨rfl, ?_⟩⟩
        rcases hR with hR | hR
        · have := hR.2; dsimp only; omega
        · rw [← hR.2.1]; exact p2
      · refine hR.imp_right fun hR => ⟨hR.1, hR.2.1, hR.2.2.1, hR.2.2.2.1, hR.2.2.2.2, fun x' y' hx' hy' h => ?_⟩
        rw [← hR.2.1] at hx' hy'
        rw [hx] at hx'; rw [hy] at hy'
        cases hx'; cases hy'
        omega
    · refine .eq (ixs he) (.eq (ixs he) (.nx ⟨m - 1, by omega, t + 1, by omega, w64_succ (by omega), by omega, r1, fun h => by omega, fun _ => ⟨rfl, rfl⟩, ?_⟩))
      refine r2.imp_right fun r2 => ⟨r2.1, r2.2.1, r2.2.2.1, fun _ => ?_, fun h2 => ?_⟩
      · by_cases ht0 : t = 0
        · obtain ⟨q1, q2⟩ := hA0 ht0
          have := r2.2.2.2.2.2
          rwa [← q1, ← q2, Int.toNat_natCast, Int.toNat_natCast]
        · exact r2.2.2.2.1 (by omega)
      · obtain ⟨q1, q2⟩ := hA1 (by omega)
        have := r2.2.2.2.2.2
        rwa [← q1, ← q2, Int.toNat_natCast, Int.toNat_natCast]
  · have ht2 : t = 2 := by omega
    exact hR.imp_right fun hR => ⟨hR.1, hR.2.1, hR.2.2.1, hR.2.2.2.1 (by omega), hR.2.2.2.2 (by omega)⟩
def RlxTo (list : List Walk) (o : List Int) (k : Nat) : Prop := ∀ i e, i < k → list[i]? = some e → Rlx o e.A.toNat e.B.toNat e.Minutes ∧ Rlx o e.B.toNat e.A.toNat e.Minutes
theorem bf3_ok {list : List Walk} {K s : Nat} (hl : WalksP K list) {o0 : List Int} (h0 : BI list K s o0) :
    Tot (iter (s_l7Times_L3 list) (false, (0 : Int), o0)) fun r => BI list K s r.2 ∧ ((r.1 = true ∧ mu r.2 < mu o0) ∨ (r.1 = false ∧ r.2 = o0 ∧ RlxTo list o0 list.length)) := by
  have h12 := hl.1
  refine Tot.iter (fun m s' => ∃ k : Nat, s'.2.1 = (k : Int) ∧ m + k = list.length ∧ BI list K s s'.2.2 ∧ ((s'.1 = true ∧ mu s'.2.2 < mu o0) ∨ (s'.1 = false ∧ s'.2.2 = o0 ∧ RlxTo list o0 k))) (n := list.length) ⟨0, rfl, by omega, h0, .inr ⟨rfl, rfl, fun i e hi => by omega⟩⟩ ?_
  rintro m ⟨b1, v, i3⟩ ⟨k, hv, hm, hB, hR⟩
  simp only at hv hB hR
  subst hv
  unfold s_l7Times_L3
  refine .iteP (fun hc => ?_) (fun hc => .dn ⟨hB, hR.imp_right fun h => by rwa [show list.length = k by omega]⟩)
  obtain ⟨e, he⟩ := get_ex (l := list) (i := k) (by omega)
  refine .eq (ixs he) (.eq (ixs he) (.call (bf2_ok hl he hB hR) fun ⟨b4, i6⟩ ⟨r1, r2⟩ => .nx ⟨m - 1, by omega, k + 1, w64_succ (by omega), by omega, r1, ?_⟩))
  refine r2.imp_right fun r2 => ⟨r2.1, r2.2.1, fun i e' hi he' => ?_⟩
  by_cases hik : i = k
  · subst hik; rw [he] at he'; cases he'; exact r2.2.2.2
  · exact r2.2.2.1 i e' (by omega) he'
theorem l7Times_ok {K : Nat} (hK : 2 ≤ K ∧ K ≤ 8) {list : List Walk} (hl : WalksP K list) {s : Nat} (hs : s < K) : Tot (s_l7Times (K : Int) list (s : Int)) fun r => r.length = K ∧ ∀ (b : Nat) x, r[b]? = some x → IsDist list s b x := by
  unfold s_l7Times
  refine .call (P := fun r => r = List.replicate K (-1 : Int)) ?_ fun r hr => ?_
  · refine Tot.iter (fun m s' => ∃ k : Nat, s'.1 = (k : Int) ∧ m + k = K ∧ s'.2 = List.replicate k (-1 : Int)) (n := K) ⟨0, rfl, by omega, rfl⟩ ?_
    rintro m ⟨v, o⟩ ⟨k, hv, hm, ho⟩
    simp only at hv ho
    subst hv; subst ho
    unfold s_l7Times_L1
    refine .iteP (fun hc => .chk (by simp; omega) (.nx ⟨m - 1, by omega, k + 1, w64_succ (by omega), by omega, ?_⟩)) (fun hc => .dn (by rw [show k = K by omega]))
    show List.replicate k (-1 : Int) ++ [-1] = _
    rw [List.replicate_succ']
  · subst hr
    have hsr : (List.replicate K (-1 : Int))[s]? = some (-1) := by rw [List.getElem?_replicate, if_pos hs]
    have hn := sum_set nI 0 hsr
    have hrep : ((List.replicate K (-1 : Int)).map nI).sum = (K : Int) := by
      rw [List.map_replicate]
      show (List.replicate K (1 : Int)).sum = _
      generalize K = q
      induction q with
      | zero => rfl
      | succ q ih => rw [List.replicate_succ, List.sum_cons, ih]; omega
    have hni : ninf ((List.replicate K (-1 : Int)).set s 0) = (K : Int) - 1 := by
      unfold ninf; rw [hn, hrep]
      have e1 : nI (-1) = 1 := rfl
      have e2 : nI 0 = 0 := rfl
      omega
    have hB : BI list K s ((List.replicate K (-1 : Int)).set s 0) := by
      refine ⟨by simp, fun b x hx => ?_, List.getElem?_set_self (by simpa using hs)⟩
      rw [hni]
      by_cases hbs : b = s
      · subst hbs
        rw [List.getElem?_set_self (by simpa using hs)] at hx; cases hx
        exact ⟨by omega, by omega, fun _ => .refl b⟩
      · rw [List.getElem?_set_ne (Ne.symm hbs), List.getElem?_replicate] at hx
        split at hx
        · cases hx; exact ⟨by omega, by omega, fun h => by omega⟩
        · cases hx
    refine .eq (ixs hsr) ?_
    rw [Int.toNat_natCast]
    refine .call (P := fun o => BI list K s o ∧ RlxTo list o list.length) ?_ fun o ⟨h1, h2⟩ => .ok ⟨h1.1, fun b x hx => ?_⟩
    · refine Tot.iter (fun m s' => BI list K s s'.2 ∧ (s'.1 = false → RlxTo list s'.2 list.length) ∧ (2 * (mu s'.2).toNat + if s'.1 = true then 1 else 0) = m) (n := 2 * (mu ((List.replicate K (-1 : Int)).set s 0)).toNat + 1) ⟨hB, fun h => (by cases h), rfl⟩ ?_
      rintro m ⟨b, o⟩ ⟨h1, h2, h3⟩
      simp only at h1 h2 h3
      unfold s_l7Times_L4
      refine .ite (fun hb => .call (bf3_ok hl h1) fun ⟨b5, i7⟩ ⟨r1, r2⟩ => .nx ⟨2 * (mu i7).toNat + (if b5 = true then 1 else 0), ?_, r1, fun hf => ?_, rfl⟩) (fun hb => .dn ⟨h1, h2 hb⟩)
      · have n1 := mu_nonneg i7
        have n2 := mu_nonneg o
        rw [hb, if_pos rfl] at h3
        rcases r2 with ⟨q1, q2⟩ | ⟨q1, q2, q3⟩
        · simp only at q1 q2; rw [if_pos q1]; omega
        · simp only at q1 q2; rw [q1, q2]; simp; omega
      · rcases r2 with ⟨q1, q2⟩ | ⟨q1, q2, q3⟩
        · simp only at q1 hf; rw [q1] at hf; cases hf
        · simp only at q2 ⊢; rw [q2]; exact q3
    · have hb := h1.2.1 b x hx
      refine ⟨hb.1, hb.2.2, fun L hL => ?_⟩
      have key := hL (fun y z l => y = s → ∃ w, o[z]? = some w ∧ 0 ≤ w ∧ w ≤ l) (fun y hy => by subst hy; exact ⟨0, h1.2.2, by omega, by omega⟩) (fun y z u l w ih he hy => by
        obtain ⟨q, hq, q1, q2⟩ := ih hy
        have hr := he.rng hl
        obtain ⟨p, hp⟩ := get_ex (l := o) (i := u) (by rw [h1.1]; omega)
        obtain ⟨e, m1, m2, m3⟩ := he
        obtain ⟨i, hi⟩ := List.getElem?_of_mem m1
        obtain ⟨r1, r2⟩ := h2 i e (get_lt hi) hi
        have : 0 ≤ p ∧ p ≤ q + e.Minutes := by
          rcases m2 with ⟨ha, hb⟩ | ⟨ha, hb⟩
          · rw [ha, hb, Int.toNat_natCast, Int.toNat_natCast] at r1
            exact r1 q p hq hp q1
          · rw [ha, hb, Int.toNat_natCast, Int.toNat_natCast] at r2
            exact r2 q p hq hp q1
        exact ⟨p, hp, this.1, by omega⟩)
      obtain ⟨w, hw, k1, k2⟩ := key rfl
      rw [hx] at hw; cases hw
      exact ⟨k1, k2⟩
/-- A row of the table is what the reference reckons. -/
theorem walk_rows {n : Network} (hn : 2 ≤ n.Stops.length ∧ n.Stops.length ≤ 8) {list : List Walk} (hl : WalksP n.Stops.length list) :
    ∃ T, i_walkTable n list = some T ∧ Sq n.Stops.length T ∧ (∀ a b, a < n.Stops.length → b < n.Stops.length → IsDist list a b (tat T a b)) ∧ ∀ s : Nat, s < n.Stops.length → ∃ r, T[s]? = some r ∧ r.length = n.Stops.length ∧ (∀ j, j < n.Stops.length → r[j]? = some (tat T s j)) ∧ (∀ x ∈ r, -1 ≤ x ∧ x ≤ 100000) ∧ s_l7Times (n.Stops.length : Int) list (s : Int) = some r := by
  obtain ⟨T, h1, h2, h3⟩ := walkTable_ok hn hl
  refine ⟨T, h1, h2, fun a b ha hb => (h3 a b ha hb).1, fun s hs => ?_⟩
  obtain ⟨r, hr, hrl, hr2⟩ := sq_row h2 hs
  obtain ⟨q, hq, hql, hq2⟩ := l7Times_ok hn hl hs
  refine ⟨r, hr, hrl, hr2, fun x hx => ?_, ?_⟩
  · obtain ⟨j, hj⟩ := List.getElem?_of_mem hx
    have hjl := get_lt hj
    have hx2 := hr2 j (by omega)
    rw [hj] at hx2; cases hx2
    exact ⟨(h3 s j hs (by omega)).1.1, (h3 s j hs (by omega)).2⟩
  rw [hq]
  congr 1
  apply List.ext_getElem?
  intro j
  by_cases hj : j < n.Stops.length
  · obtain ⟨x, hx⟩ := get_ex (l := q) (i := j) (by omega)
    rw [hr2 j hj, hx, (hq2 j x hx).uniq (h3 s j hs hj).1]
  · rw [List.getElem?_eq_none (by omega), List.getElem?_eq_none (by omega)]
/-! Walks: draws; walking times. -/
theorem walks_ok {k : Nat} {c : l1Cur} {n : Network} (h : Cur k c) (hk : k ≤ 100000000) (hn : n.Stops.length ≤ 1000) : Tot (s_l1Cur_walks c n) fun r => Cur (k + 5000000) r.2 ∧ r.1.length ≤ 13 := by
  unfold s_l1Cur_walks
  refine .call (P := fun o => Cur (k + 4001000) ⟨o.1, o.2.1, ⟨o.2.2.1⟩⟩ ∧ o.2.2.2.length ≤ 12) ?_ fun ⟨v15, v16, v17, b4⟩ ⟨hc, hb⟩ => ?_
  · refine Tot.iter (fun m s => ∃ i : Nat, s.1 = (i : Int) ∧ m + i = n.Stops.length ∧ Cur (k + 4001 * i) ⟨s.2.1, s.2.2.1, ⟨s.2.2.2.1⟩⟩ ∧ s.2.2.2.2.length ≤ 12) (n := n.Stops.length) ⟨0, rfl, by omega, h, by simp⟩ ?_
    rintro m ⟨v, v1, v2, v3, b⟩ ⟨i, hv, hm, hc, hb⟩
    simp only at hv hc hb
    subst hv
    unfold s_l1Cur_walks_L2
    refine .iteP (fun hi => ?_) (fun hi => .dn ⟨hc.mono (by omega), hb⟩)
    refine .call (P := fun o => Cur (k + 4001 * (i + 1)) ⟨o.1, o.2.1, ⟨o.2.2.1⟩⟩ ∧ o.2.2.2.length ≤ 12) ?_ fun ⟨w1, w2, w3, b3⟩ ⟨q1, q2⟩ => .nx ⟨m - 1, by omega, i + 1, w64_succ (by omega), by omega, q1, q2⟩
    refine Tot.iter (fun q s => ∃ j : Nat, s.1 = (j : Int) ∧ q + j = n.Stops.length ∧ Cur (k + 4001 * i + 4 * j) ⟨s.2.1, s.2.2.1, ⟨s.2.2.2.1⟩⟩ ∧ s.2.2.2.2.length ≤ 12) (n := n.Stops.length - (i + 1)) ⟨i + 1, w64_succ (by omega), by omega, hc.mono (by omega), hb⟩ ?_
    rintro q ⟨w, w1, w2, w3, b1⟩ ⟨j, hw, hq, hc1, hb1⟩
    simp only at hw hc1 hb1
    subst hw
    unfold s_l1Cur_walks_L1
    refine .iteP (fun hj => ?_) (fun hj => .dn ⟨hc1.mono (by omega), hb1⟩)
    refine .call (P := fun o => Cur (k + 4001 * i + 4 * (j + 1)) ⟨o.1, o.2.1, ⟨o.2.2.1⟩⟩ ∧ o.2.2.2.length ≤ 12) ?_ fun ⟨u1, u2, u3, u4⟩ ⟨p1, p2⟩ => .nx ⟨q - 1, by omega, j + 1, w64_succ (by omega), by omega, p1, p2⟩
    refine .call (t_one 3 hc1 (by omega)) fun r hr => ?_
    refine .call (P := fun b => b = true → b1.length < 12) (.ite (fun _ => .ok fun h => by have := of_decide_eq_true h; omega) (fun _ => .ok fun h => by cases h)) fun b hb2 => ?_
    exact .ite (fun ht => .call (t_amongw _ (by simp) hr (by omega)) fun r1 ⟨hr1, _⟩ => .chk (by have := hb2 ht; simp; omega) (.ok ⟨hr1.mono (by omega), by have := hb2 ht; simp; omega⟩)) (fun _ => .ok ⟨hr.mono (by omega), hb1⟩)
  · dsimp only at hc hb
    refine .call (P := fun o => Cur (k + 5000000) ⟨o.1, o.2.1, ⟨o.2.2.1⟩⟩ ∧ o.2.2.2.length ≤ 13) ?_ fun ⟨u1, u2, u3, u4⟩ ⟨p1, p2⟩ => .ok ⟨p1, p2⟩
    refine .call (t_pick 40 hc (by omega)) fun r2 ⟨hr2, _⟩ => ?_
    refine .ite (fun _ => .call (t_amongw _ (by simp) hr2 (by omega)) fun r3 ⟨hr3, _⟩ => .chk (by simp; omega) (.ok ⟨hr3.mono (by omega), by simp; omega⟩)) fun _ => ?_
    exact .ite (fun _ => .call (t_amongw _ (by simp) hr2 (by omega)) fun r3 ⟨hr3, _⟩ => .chk (by simp; omega) (.ok ⟨hr3.mono (by omega), by simp; omega⟩)) fun _ => .ok ⟨hr2.mono (by omega), by dsimp only; omega⟩
/-- The walking times from a stop. -/
theorem WalkingTimes_eq {n : Network} (hb : Bd n) (list : List Walk) (s : Int) : (Good n ∧ WalksP n.Stops.length list ∧ 0 ≤ s ∧ s < (n.Stops.length : Int) ∧ ∃ T r, i_walkTable n list = some T ∧ T[s.toNat]? = some r ∧ i_WalkingTimes n list s = some (r, true)) ∨ (¬ (Good n ∧ WalksP n.Stops.length list ∧ 0 ≤ s ∧ s < (n.Stops.length : Int)) ∧ i_WalkingTimes n list s = some ([], false)) := by
  unfold i_WalkingTimes
  simp only [validW_eq hb, isStop_eq, Option.bind_some]
  by_cases h1 : Good n ∧ WalksP n.Stops.length list
  · by_cases h2 : 0 ≤ s ∧ s < (n.Stops.length : Int)
    · left
      obtain ⟨T, t1, t2, t3, t4⟩ := walk_rows h1.1.1 h1.2
      obtain ⟨r, r1, _⟩ := t4 s.toNat (by omega)
      refine ⟨h1.1, h1.2, h2.1, h2.2, T, r, t1, r1, ?_⟩
      simp only [h1, h2, and_self, decide_true, Bool.not_true, Bool.false_eq_true, if_false, Option.bind_some, t1, idx_of h2.1 r1]
    · right
      refine ⟨fun h => h2 ⟨h.2.2.1, h.2.2.2⟩, ?_⟩
      simp only [h1, h2, and_self, decide_true, decide_false, Bool.not_true, Bool.not_false, Bool.false_eq_true, if_false, if_true, Option.bind_some]
  · right
    refine ⟨fun h => h1 ⟨h.1, h.2.1⟩, ?_⟩
    simp only [h1, decide_false, Bool.not_false, if_true, Option.bind_some]
/-! Trips that can be caught. -/
def findU {β : Type} (f : Nat → Option β) : Nat → Nat → Option β
  | 0, _ => none
  | m + 1, k => match f k with
    | some c => some c
    | none => findU f m (k + 1)
theorem findU_hit {β : Type} {f : Nat → Option β} {m k : Nat} {c : β} (h : f k = some c) : findU f (m + 1) k = some c := by unfold findU; rw [h]
theorem findU_miss {β : Type} {f : Nat → Option β} {m k : Nat} (h : f k = none) : findU f (m + 1) k = findU f m (k + 1) := by
  rw [findU, h]
theorem findU_some {β : Type} {f : Nat → Option β} : ∀ {m k : Nat} {c : β}, findU f m k = some c → ∃ j, k ≤ j ∧ j < k + m ∧ f j = some c
  | 0, k, c, h => by unfold findU at h; cases h
  | m + 1, k, c, h => by
    cases hf : f k with
    | some d => rw [findU_hit hf] at h; cases h; exact ⟨k, by omega, by omega, hf⟩
    | none =>
      rw [findU_miss hf] at h
      obtain ⟨j, h1, h2, h3⟩ := findU_some h
      exact ⟨j, by omega, by omega, h3⟩
/-- Whether a trip is caught at its stop k. -/
def catK (d : List Int) (time : Int) (x : Trip) (l : Line) (k : Nat) : Option Connection := match l.Stops[k]? with
  | some s => if 0 ≤ d.getD s.toNat (-1) ∧ time + d.getD s.toNat (-1) ≤ x.Start + (l.Runs.take k).sum then some ⟨x.Id, s, k, x.Start + (l.Runs.take k).sum⟩ else none
  | none => none
def catT (t : Timetable) (d : List Int) (time : Int) (x : Trip) : Option Connection := match idx t.Network.Lines x.Line with
  | some l => findU (catK d time x l) l.Runs.length 0
  | none => none
def cats (t : Timetable) (d : List Int) (time : Int) (k : Nat) : List Connection := (t.Trips.take k).filterMap (catT t d time)
theorem cats_succ {t : Timetable} {d : List Int} {time : Int} {k : Nat} {x : Trip} (hx : t.Trips[k]? = some x) : cats t d time (k + 1) = cats t d time k ++ (catT t d time x).toList := by
  unfold cats
  rw [take_succ hx, List.filterMap_append]
  cases h : catT t d time x <;> simp [h]
theorem cats_le {t : Timetable} {d : List Int} {time : Int} {k : Nat} : (cats t d time k).length ≤ k := by
  have := List.length_filterMap_le (catT t d time) (t.Trips.take k)
  rw [List.length_take] at this
  unfold cats; omega
def cLt (a b : Connection) : Bool := decide (a.Time < b.Time)
theorem cmpCat (x y : Connection) : ∃ c, i_CatchTrips_1 x y = some c ∧ decide (c < 0) = cLt x y := by
  unfold i_CatchTrips_1 cLt
  rw [compare_int]
  refine ⟨_, rfl, ?_⟩
  by_cases h : x.Time < y.Time
  · simp [h]
  · by_cases h2 : y.Time < x.Time <;> simp [h, h2]
theorem insCat (l : List Connection) (hl : l.length ≤ 4294967295) : slices_insertionSortCmpFunc_Connection_w__i_CatchTrips_1 l 0 (l.length : Int) = some (Pdq.isort cLt l) := Pdq.insertion_st cmpCat l hl
theorem stableCat (l : List Connection) (hl : l.length < 20) : slices_SortStableFunc_Connection_w__i_CatchTrips_1 l = some (Pdq.isort cLt l) := by
  have s1 : slices_stableCmpFunc_Connection_w__i_CatchTrips_1_L1 (l.length : Int) ((0 : Int), (20 : Int), l) = some (.dn (0, l)) := by
    unfold slices_stableCmpFunc_Connection_w__i_CatchTrips_1_L1
    have : ¬ (20 : Int) ≤ (l.length : Int) := by omega
    simp [this]
  have s2 : ∀ l' : List Connection, slices_stableCmpFunc_Connection_w__i_CatchTrips_1_L3 (l.length : Int) ((20 : Int), l') = some (.dn l') := fun l' => by
    unfold slices_stableCmpFunc_Connection_w__i_CatchTrips_1_L3
    have : ¬ (20 : Int) < (l.length : Int) := by omega
    simp [this]
  unfold slices_SortStableFunc_Connection_w__i_CatchTrips_1 slices_stableCmpFunc_Connection_w__i_CatchTrips_1
  rw [iter_dn s1]
  simp only [Option.bind_some]
  rw [insCat l (by omega)]
  simp only [Option.bind_some]
  rw [iter_dn (s2 _)]; rfl
section
variable {t : Timetable} (hT : GoodT t) {T : List (List Int)} {d : List Int} {stop : Int} (hd : idx T stop = some d) (hdl : d.length = t.Network.Stops.length) (hdb : ∀ x ∈ d, -1 ≤ x ∧ x ≤ 100000)
include hT hd hdl hdb
theorem iCatch_ok (time : Int) (htime : 0 ≤ time ∧ time ≤ 1799) : iter (i_CatchTrips_L2 t stop time T) ((0 : Int), ([] : List Connection)) = some (cats t d time t.Trips.length) := by
  have h12 := hT.2.1
  refine Tot.val (Tot.iter (fun m s => ∃ i : Nat, s.1 = (i : Int) ∧ m + i = t.Trips.length ∧ s.2 = cats t d time i) (n := t.Trips.length) ⟨0, rfl, by omega, rfl⟩ ?_)
  rintro m ⟨v, o⟩ ⟨i, hv, hm, ho⟩
  simp only at hv ho
  subst hv; subst ho
  unfold i_CatchTrips_L2
  have hle := cats_le (t := t) (d := d) (time := time) (k := i)
  refine .iteP (fun hc => ?_) (fun hc => .dn (by rw [show i = t.Trips.length by omega]))
  obtain ⟨x, hx⟩ := get_ex (l := t.Trips) (i := i) (by omega)
  obtain ⟨l, hl, hp, hid, hs, _⟩ := trip_line hT hx
  obtain ⟨⟨r1, r2, r3⟩, _⟩ := line_runs hp
  refine .call (P := fun o => o = cats t d time (i + 1)) ?_ fun o ho => .nx ⟨m - 1, by omega, i + 1, w64_succ (by omega), by omega, ho⟩
  refine .eq (ixs hx) (.eq (lineOf_eq hl) (.eq (stopTimes_eq hl hp hs) ?_))
  have hcat : catT t d time x = findU (catK d time x l) l.Runs.length 0 := by unfold catT; rw [hl]
  rw [cats_succ hx, hcat]
  refine .call (P := fun o => o = cats t d time i ++ (findU (catK d time x l) l.Runs.length 0).toList) ?_ fun o ho => .ok ho
  refine Tot.iter (fun q s => ∃ k : Nat, s = (k : Int) ∧ q + k = l.Runs.length ∧ findU (catK d time x l) q k = findU (catK d time x l) l.Runs.length 0) (n := l.Runs.length) ⟨0, rfl, by omega, rfl⟩ ?_
  rintro q s ⟨k, rfl, hq, hf⟩
  unfold i_CatchTrips_L1
  have ew : w64 ((l.Stops.length : Int) - 1) = (l.Runs.length : Int) := by rw [w64_id (by omega)]; omega
  rw [ew]
  refine .iteP (fun hk => ?_) (fun hk => .dn ?_)
  · obtain ⟨s, hsk⟩ := get_ex (l := l.Stops) (i := k) (by omega)
    have hsr := line_stop hp hsk
    obtain ⟨z, hz⟩ := get_ex (l := d) (i := s.toNat) (by omega)
    have hzb := hdb z (List.mem_of_getElem? hz)
    have hg : d.getD s.toNat (-1) = z := getD_of hz
    have hat := ST_at (l := l) (s := x.Start) (k := k) (by omega)
    have hck : catK d time x l k = if 0 ≤ z ∧ time + z ≤ x.Start + (l.Runs.take k).sum then some ⟨x.Id, s, k, x.Start + (l.Runs.take k).sum⟩ else none := by unfold catK; rw [hsk]; simp only [hg]
    have ez : idx d s = some z := idx_of hsr.1 hz
    have ew2 : w64 (time + z) = time + z := w64_id (by omega)
    obtain ⟨q', rfl⟩ : ∃ q', q = q' + 1 := ⟨q - 1, by omega⟩
    refine .eq (ixs hsk) (.eq hd (.eq ez ?_))
    refine .call (P := fun b => b = decide (0 ≤ z ∧ time + z ≤ x.Start + (l.Runs.take k).sum)) (.iteP (fun h1 => .eq (ixs hat) (.eq ez (.ok (by rw [ew2]; simp [h1])))) (fun h1 => .ok (by simp [h1]))) fun b hb => ?_
    subst hb
    refine .iteP (fun h1 => .eq (ixs hat) (.chk (by simp; omega) (.dn ?_))) (fun h1 => .nx ⟨q', by omega, k + 1, w64_succ (by omega), by omega, ?_⟩)
    · rw [if_pos h1] at hck
      rw [← hf, findU_hit hck]; rfl
    · rw [if_neg h1] at hck
      rw [← hf, findU_miss hck]
  · have : q = 0 := by omega
    subst this
    rw [← hf]; simp [findU]
end
section
variable {t : Timetable} (hT : GoodT t) {d : List Int} (hdl : d.length = t.Network.Stops.length) (hdb : ∀ x ∈ d, -1 ≤ x ∧ x ≤ 100000)
include hT hdl hdb
theorem sCatch_ok (time : Int) (htime : 0 ≤ time ∧ time ≤ 1799) : iter (s_CatchTrips_L3 t time d) ((0 : Int), ([] : List Connection)) = some (Pdq.isort cLt (cats t d time t.Trips.length)) := by
  have h12 := hT.2.1
  refine Tot.val (Tot.iter (fun m s => ∃ i : Nat, s.1 = (i : Int) ∧ m + i = t.Trips.length ∧ s.2 = Pdq.isort cLt (cats t d time i)) (n := t.Trips.length) ⟨0, rfl, by omega, rfl⟩ ?_)
  rintro m ⟨v, o⟩ ⟨i, hv, hm, ho⟩
  simp only at hv ho
  subst hv
  unfold s_CatchTrips_L3
  have hle := cats_le (t := t) (d := d) (time := time) (k := i)
  have hol : o.length ≤ i := by rw [ho, Pdq.isort_len]; exact hle
  refine .iteP (fun hc => ?_) (fun hc => .dn (by rw [ho, show i = t.Trips.length by omega]))
  obtain ⟨x, hx⟩ := get_ex (l := t.Trips) (i := i) (by omega)
  obtain ⟨l, hl, hp, hid, hs, _⟩ := trip_line hT hx
  obtain ⟨⟨r1, r2, r3⟩, _⟩ := line_runs hp
  refine .call (P := fun o => o = Pdq.isort cLt (cats t d time (i + 1))) ?_ fun o ho => .nx ⟨m - 1, by omega, i + 1, w64_succ (by omega), by omega, ho⟩
  have hcat : catT t d time x = findU (catK d time x l) l.Runs.length 0 := by unfold catT; rw [hl]
  rw [cats_succ hx, hcat]
  refine .eq (l5Stops_eq hx hl) (.call (P := fun o => o = Pdq.isort cLt (cats t d time i ++ (findU (catK d time x l) l.Runs.length 0).toList)) ?_ fun o ho => .ok ho)
  refine Tot.iter (fun q s => ∃ k : Nat, s = (k : Int) ∧ q + k = l.Runs.length ∧ findU (catK d time x l) q k = findU (catK d time x l) l.Runs.length 0) (n := l.Runs.length) ⟨0, rfl, by omega, rfl⟩ ?_
  rintro q s ⟨k, rfl, hq, hf⟩
  unfold s_CatchTrips_L2
  dsimp only
  have ek : w64 ((k : Int) + 1) = ((k + 1 : Nat) : Int) := w64_succ (by omega)
  rw [ek]
  refine .iteP (fun hk => ?_) (fun hk => .dn ?_)
  · obtain ⟨s, hsk⟩ := get_ex (l := l.Stops) (i := k) (by omega)
    have hsr := line_stop hp hsk
    obtain ⟨z, hz⟩ := get_ex (l := d) (i := s.toNat) (by omega)
    have hzb := hdb z (List.mem_of_getElem? hz)
    have hg : d.getD s.toNat (-1) = z := getD_of hz
    have hat := l5At_eq hT.1 hx hl hs (k := k) (by omega)
    have hck : catK d time x l k = if 0 ≤ z ∧ time + z ≤ x.Start + (l.Runs.take k).sum then some ⟨x.Id, s, k, x.Start + (l.Runs.take k).sum⟩ else none := by unfold catK; rw [hsk]; simp only [hg]
    have ez : idx d s = some z := idx_of hsr.1 hz
    have ew2 : w64 (time + z) = time + z := w64_id (by omega)
    obtain ⟨q', rfl⟩ : ∃ q', q = q' + 1 := ⟨q - 1, by omega⟩
    refine .eq (ixs hsk) (.eq ez ?_)
    refine .call (P := fun b => b = decide (¬ (0 ≤ z ∧ time + z ≤ x.Start + (l.Runs.take k).sum))) (.iteP (fun h1 => .ok (by simp; omega)) (fun h1 => .eq hat (.eq (ixs hsk) (.eq ez (.ok (by rw [ew2, decide_eq_decide]; omega)))))) fun b hb => ?_
    subst hb
    refine .iteP (fun h1 => .nx ⟨q', by omega, k + 1, rfl, by omega, ?_⟩) (fun h1 => ?_)
    · rw [if_neg h1] at hck
      rw [← hf, findU_miss hck]
    · have h1 := Decidable.not_not.1 h1
      rw [if_pos h1] at hck
      rw [← hf, findU_hit hck]
      refine .eq (ixs hx) (.eq (ixs hsk) (.eq hat ?_))
      have hsort : Pdq.isort cLt (cats t d time i ++ (some (⟨x.Id, s, k, x.Start + (l.Runs.take k).sum⟩ : Connection)).toList) = Pdq.insE cLt ⟨x.Id, s, k, x.Start + (l.Runs.take k).sum⟩ o := by
        rw [ho]; exact Pdq.isort_snoc _ _
      rw [hsort]
      obtain ⟨c, hcc⟩ : ∃ c : Connection, c = ⟨x.Id, s, (k : Int), x.Start + (l.Runs.take k).sum⟩ := ⟨_, rfl⟩
      have hct : x.Start + (l.Runs.take k).sum = c.Time := by rw [hcc]
      rw [← hcc, hct]
      refine .call (P := fun v => ∃ p : Nat, v = (p : Int) ∧ p ≤ o.length ∧ (∀ y ∈ o.drop p, cLt c y = true) ∧ ∀ y, 0 < p → o[p - 1]? = some y → cLt c y = false) ?_ fun v hv => ?_
      · refine Tot.iter (fun m (s : Int) => s = (m : Int) ∧ m ≤ o.length ∧ ∀ y ∈ o.drop m, cLt c y = true) (n := o.length) ⟨rfl, Nat.le_refl _, by simp⟩ ?_
        rintro m s ⟨rfl, h2, h3⟩
        unfold s_CatchTrips_L1
        refine .call (P := fun b => (b = true → 0 < m ∧ ∃ y, o[m - 1]? = some y ∧ cLt c y = true) ∧ (b = false → ∀ y, 0 < m → o[m - 1]? = some y → cLt c y = false)) (.iteP (fun h0 => ?_) fun h0 => .ok ⟨fun h => (by cases h), fun _ y h _ => absurd h (by omega)⟩) fun b hb => .ite (fun htr => ?_) (fun hf => .dn ⟨m, rfl, h2, h3, hb.2 hf⟩)
        · obtain ⟨y, hy⟩ := get_ex (l := o) (i := m - 1) (by omega)
          have ew : w64 ((m : Int) - 1) = ((m - 1 : Nat) : Int) := by rw [w64_id (by omega)]; omega
          rw [ew]
          refine .eq (ixs hy) (.ok ⟨fun h => ⟨by omega, y, hy, h⟩, fun h z _ hz => ?_⟩)
          rw [hy] at hz; cases hz; exact h
        · obtain ⟨h0, y, hy, hxy⟩ := hb.1 htr
          refine .nx ⟨m - 1, by omega, by rw [w64_id (by omega)]; omega, by omega, fun z hz => ?_⟩
          have e2 : o.drop (m - 1) = y :: o.drop m := by
            rw [List.drop_eq_getElem_cons (l := o) (i := m - 1) (by omega), show m - 1 + 1 = m by omega]
            congr 1
            exact (List.getElem?_eq_some_iff.1 hy).2
          rw [e2] at hz
          rcases List.mem_cons.1 hz with rfl | hz
          · exact hxy
          · exact h3 z hz
      · obtain ⟨p, rfl, hp1, hp2, hp3⟩ := hv
        refine .chk (by omega) (.chk (by simp; omega) (.chk (by simp; omega) (.chk (by omega) (.chk (by simp; omega) (.dn ?_)))))
        rw [← Pdq.insE_slot (lt := cLt) (x := c) o.length rfl hp1 hp2 hp3]
        simp
  · have : q = 0 := by omega
    subst this
    rw [← hf]; simp [findU, ho]
end
/-! Trips that can be caught: both answers; their properties. -/
theorem cats_mem {t : Timetable} (hT : GoodT t) {d : List Int} (hdl : d.length = t.Network.Stops.length) {time : Int} {c : Connection} {k : Nat} (h : c ∈ cats t d time k) : 0 ≤ c.Stop ∧ c.Stop < (t.Network.Stops.length : Int) ∧ ∃ z, idx d c.Stop = some z ∧ 0 ≤ z ∧ time + z ≤ c.Time := by
  unfold cats at h
  obtain ⟨x, hx, hc⟩ := List.mem_filterMap.1 h
  obtain ⟨i, hi⟩ := List.getElem?_of_mem (List.mem_of_mem_take hx)
  obtain ⟨l, hl, hp, hid, hs, _⟩ := trip_line hT hi
  unfold catT at hc
  rw [hl] at hc
  obtain ⟨j, _, _, hj⟩ := findU_some hc
  unfold catK at hj
  split at hj
  · rename_i s hs
    have hr := line_stop hp hs
    split at hj
    · rename_i hz
      cases hj
      obtain ⟨z, hz2⟩ := get_ex (l := d) (i := s.toNat) (by omega)
      rw [getD_of hz2] at hz
      exact ⟨hr.1, hr.2, z, idx_of hr.1 hz2, hz.1, hz.2⟩
    · cases hj
  · cases hj
theorem cLt_tr (a b c : Connection) (h1 : cLt b a = false) (h2 : cLt c b = false) : cLt c a = false := by
  unfold cLt at *; simp only [decide_eq_false_iff_not] at *; omega
theorem cLt_as (a b : Connection) (h : cLt a b = true) : cLt b a = false := by
  unfold cLt at *; simp only [decide_eq_false_iff_not, decide_eq_true_eq] at *; omega
def CatP (t : Timetable) (list : List Walk) (stop time : Int) : Prop := GoodT t ∧ WalksP t.Network.Stops.length list ∧ (0 ≤ stop ∧ stop < (t.Network.Stops.length : Int)) ∧ 0 ≤ time ∧ time ≤ 1799
/-- Both answers, and what is to be told of them. -/
theorem catch_ok {t : Timetable} (hb : TB t) (list : List Walk) (stop time : Int) : ∃ l b, i_CatchTrips t list stop time = some (l, b) ∧ s_CatchTrips t list stop time = some (l, b) ∧ l.length ≤ 12 ∧ ∃ d e, i_WalkingTimes t.Network list stop = some (d, e) ∧ (l ≠ [] → e = true) ∧
    (∀ c ∈ l, 0 ≤ time ∧ time ≤ 1799 ∧ ∃ z, idx d c.Stop = some z ∧ 0 ≤ z ∧ z ≤ 100000 ∧ time + z ≤ c.Time) ∧ ∀ (i : Nat) a b, l[i]? = some a → l[i + 1]? = some b → a.Time ≤ b.Time := by
  by_cases hP : CatP t list stop time
  · obtain ⟨hT, hW, hs, ht⟩ := hP
    have h12 := hT.2.1
    have h8 := hT.1.1
    obtain ⟨T, t1, t2, t3, t4⟩ := walk_rows hT.1.1 hW
    obtain ⟨s, rfl⟩ : ∃ s : Nat, stop = s := ⟨stop.toNat, by omega⟩
    obtain ⟨d, d1, d2, d3, d4, d5⟩ := t4 s (by omega)
    have hd : idx T (s : Int) = some d := ixs d1
    have hl := cats_le (t := t) (d := d) (time := time) (k := t.Trips.length)
    have hw : i_WalkingTimes t.Network list (s : Int) = some (d, true) := by
      rcases WalkingTimes_eq hb.1 list (s : Int) with ⟨_, _, _, _, T', r', q1, q2, q3⟩ | ⟨q, _⟩
      · rw [t1] at q1; cases q1
        rw [Int.toNat_natCast, d1] at q2; cases q2
        exact q3
      · exact absurd ⟨hT.1, hW, hs⟩ q
    refine ⟨Pdq.isort cLt (cats t d time t.Trips.length), true, ?_, ?_, by rw [Pdq.isort_len]; omega, d, true, hw, fun _ => rfl, fun c hc => ?_, fun i a b ha hb' => ?_⟩
    · unfold i_CatchTrips
      simp only [validT_eq hb, hT, areWalks_eq, hW, isStop_eq, hs, time_eq, ht, and_self, decide_true, Bool.not_true, Bool.false_eq_true, if_false, Option.bind_some, t1, hd, iCatch_ok hT hd d2 d4 time ht, stableCat _ (show (cats t d time t.Trips.length).length < 20 by omega)]
    · have ew : w64 ((t.Network.Stops.length : Int) - 1) = (t.Network.Stops.length : Int) - 1 := w64_id (by omega)
      have hs' : 0 ≤ (s : Int) ∧ (s : Int) ≤ (t.Network.Stops.length : Int) - 1 := by omega
      unfold s_CatchTrips
      simp only [goodT_eq hb, hT, l7Good_eq hb.1, hT.1, hW, l1In_eq, ew, hs', l4Time_eq, ht, and_self, decide_true, Bool.not_true, Bool.false_eq_true, if_false, Option.bind_some, d5, sCatch_ok hT d2 d4 time ht]
    · have hc := (Pdq.isort_perm (lt := cLt) _).mem_iff.1 hc
      obtain ⟨q1, q2, z, q3, q4, q5⟩ := cats_mem hT d2 hc
      exact ⟨ht.1, ht.2, z, q3, q4, (d4 z (List.mem_of_getElem? (idx_some q3).2.2)).2, q5⟩
    · have hp := Pdq.isort_sorted cLt_tr cLt_as (cats t d time t.Trips.length)
      have h1 := get_lt ha
      have h2 := get_lt hb'
      have := List.pairwise_iff_getElem.1 hp i (i + 1) h1 h2 (by omega)
      rw [(List.getElem?_eq_some_iff.1 ha).2, (List.getElem?_eq_some_iff.1 hb').2] at this
      unfold cLt at this
      simp only [decide_eq_false_iff_not] at this; omega
  · have hi : i_CatchTrips t list stop time = some ([], false) := by
      unfold i_CatchTrips
      simp only [validT_eq hb, areWalks_eq, isStop_eq, time_eq, Option.bind_some]
      by_cases h1 : GoodT t
      · by_cases h2 : WalksP t.Network.Stops.length list
        · by_cases h3 : 0 ≤ stop ∧ stop < (t.Network.Stops.length : Int)
          · have h4 : ¬ (0 ≤ time ∧ time ≤ 1799) := fun h => hP ⟨h1, h2, h3, h⟩
            simp only [h1, h2, h3, h4, and_self, decide_true, decide_false, Bool.not_true, Bool.not_false, Bool.false_eq_true, if_false, if_true, Option.bind_some]
          · simp only [h1, h2, h3, decide_true, decide_false, Bool.not_true, Bool.not_false, Bool.false_eq_true, if_false, if_true, Option.bind_some]
        · simp only [h1, h2, decide_true, decide_false, Bool.not_true, Bool.not_false, Bool.false_eq_true, if_false, if_true, Option.bind_some]
      · simp only [h1, decide_false, Bool.not_false, if_true, Option.bind_some]
    have hs : s_CatchTrips t list stop time = some ([], false) := by
      unfold s_CatchTrips
      simp only [goodT_eq hb, l7Good_eq hb.1, l1In_eq, l4Time_eq, Option.bind_some]
      by_cases h1 : GoodT t
      · have h8 := h1.1.1
        have ew : w64 ((t.Network.Stops.length : Int) - 1) = (t.Network.Stops.length : Int) - 1 := w64_id (by omega)
        by_cases h2 : WalksP t.Network.Stops.length list
        · by_cases h3 : 0 ≤ stop ∧ stop ≤ (t.Network.Stops.length : Int) - 1
          · have h4 : ¬ (0 ≤ time ∧ time ≤ 1799) := fun h => hP ⟨h1, h2, ⟨h3.1, by omega⟩, h⟩
            simp only [h1, h1.1, h2, ew, h3, h4, and_self, decide_true, decide_false, Bool.not_true, Bool.not_false, Bool.false_eq_true, if_false, if_true, Option.bind_some]
          · simp only [h1, h1.1, h2, ew, h3, and_self, decide_true, decide_false, Bool.not_true, Bool.not_false, Bool.false_eq_true, if_false, if_true, Option.bind_some]
        · simp only [h1, h2, and_false, decide_true, decide_false, Bool.not_true, Bool.not_false, Bool.false_eq_true, if_false, if_true, Option.bind_some]
      · simp only [h1, decide_false, Bool.not_false, if_true, Option.bind_some]
    have hw : ∃ d e, i_WalkingTimes t.Network list stop = some (d, e) := by
      rcases WalkingTimes_eq hb.1 list stop with ⟨_, _, _, _, T', r', q1, q2, q3⟩ | ⟨q, h⟩
      · exact ⟨_, _, q3⟩
      · exact ⟨_, _, h⟩
    obtain ⟨d, e, hw⟩ := hw
    exact ⟨[], false, hi, hs, by simp, d, e, hw, fun h => absurd rfl h, fun c hc => (by cases hc), fun i a b ha => by simp at ha⟩
/-! Groups of stops; change times; the law. -/
theorem walksP_iff {st : Nat} {list : List Walk} : WalksP st list ↔ list.length ≤ 12 ∧ (∀ e ∈ list, WalkP st e) ∧ list.Pairwise WLt := by
  constructor
  · intro h
    refine ⟨h.1, fun e he => walk_at h he, List.pairwise_iff_getElem.2 fun i j hi hj hij => ?_⟩
    exact walk_lt h hij (List.getElem?_eq_getElem hi) (List.getElem?_eq_getElem hj)
  · rintro ⟨h1, h2, h3⟩
    refine ⟨h1, fun i e he => ⟨h2 e (List.mem_of_getElem? he), fun z h0 hz => ?_⟩⟩
    have := List.pairwise_iff_getElem.1 h3 (i - 1) i (get_lt hz) (get_lt he) (by omega)
    rwa [(List.getElem?_eq_some_iff.1 hz).2, (List.getElem?_eq_some_iff.1 he).2] at this
theorem short_ok {st : Nat} {list : List Walk} (h : WalksP st list) (p : Walk → Bool) : WalksP st (list.filter p) := by
  obtain ⟨h1, h2, h3⟩ := walksP_iff.1 h
  exact walksP_iff.2 ⟨Nat.le_trans (List.length_filter_le ..) h1, fun e he => h2 e (List.mem_filter.1 he).1, h3.filter p⟩
def shortP (limit : Int) (e : Walk) : Bool := decide (e.Minutes ≤ limit)
theorem filt_succ {α : Type} {l : List α} {i : Nat} {x : α} (p : α → Bool) (h : l[i]? = some x) : (l.take (i + 1)).filter p = (l.take i).filter p ++ (if p x = true then [x] else []) := by
  rw [take_succ h, List.filter_append]
  by_cases hp : p x = true <;> simp [hp]
theorem iShort_ok {list : List Walk} (hl : list.length ≤ 12) (limit : Int) : iter (i_WalkGroups_L1 list limit) ((0 : Int), ([] : List Walk)) = some (list.filter (shortP limit)) := by
  refine Tot.val (Tot.iter (fun m s => ∃ k : Nat, s.1 = (k : Int) ∧ m + k = list.length ∧ s.2 = (list.take k).filter (shortP limit)) (n := list.length) ⟨0, rfl, by omega, by simp⟩ ?_)
  rintro m ⟨v, o⟩ ⟨k, hv, hm, ho⟩
  simp only at hv ho
  subst hv; subst ho
  unfold i_WalkGroups_L1
  have hle := List.length_filter_le (shortP limit) (list.take k)
  rw [List.length_take] at hle
  refine .iteP (fun hc => ?_) (fun hc => .dn (by rw [show k = list.length by omega, List.take_length]))
  obtain ⟨e, he⟩ := get_ex (l := list) (i := k) (by omega)
  refine .call (P := fun o => o = (list.take (k + 1)).filter (shortP limit)) (.eq (ixs he) ?_) fun o ho => .nx ⟨m - 1, by omega, k + 1, w64_succ (by omega), by omega, ho⟩
  rw [filt_succ _ he]
  refine .iteP (fun h => .chk (by simp; omega) (.ok ?_)) (fun h => .ok ?_)
  · have : shortP limit e = true := by unfold shortP; simpa using h
    rw [if_pos this]
  · have : ¬ shortP limit e = true := by unfold shortP; simpa using h
    rw [if_neg this, List.append_nil]
theorem sShort_ok {list : List Walk} (hl : list.length ≤ 12) (limit : Int) : iter (s_WalkGroups_L1 list limit) ((0 : Int), ([] : List Walk)) = some (list.filter (shortP limit)) := by
  refine Tot.val (Tot.iter (fun m s => ∃ k : Nat, s.1 = (k : Int) ∧ m + k = list.length ∧ s.2 = (list.take k).filter (shortP limit)) (n := list.length) ⟨0, rfl, by omega, by simp⟩ ?_)
  rintro m ⟨v, o⟩ ⟨k, hv, hm, ho⟩
  simp only at hv ho
  subst hv; subst ho
  unfold s_WalkGroups_L1
  have hle := List.length_filter_le (shortP limit) (list.take k)
  rw [List.length_take] at hle
  refine .iteP (fun hc => ?_) (fun hc => .dn (by rw [show k = list.length by omega, List.take_length]))
  obtain ⟨e, he⟩ := get_ex (l := list) (i := k) (by omega)
  refine .call (P := fun o => o = (list.take (k + 1)).filter (shortP limit)) (.eq (ixs he) ?_) fun o ho => .nx ⟨m - 1, by omega, k + 1, w64_succ (by omega), by omega, ho⟩
  rw [filt_succ _ he]
  refine .iteP (fun h => .eq (ixs he) (.chk (by simp; omega) (.ok ?_))) (fun h => .ok ?_)
  · have : shortP limit e = true := by unfold shortP; simpa using h
    rw [if_pos this]
  · have : ¬ shortP limit e = true := by unfold shortP; simpa using h
    rw [if_neg this, List.append_nil]
/-- The group of a stop. -/
def grp (K : Nat) (f : Nat → Nat → Int) (a : Nat) : List Int := ((List.range K).filter fun b => decide (0 ≤ f a b)).map fun b : Nat => (b : Int)
def seenB (f : Nat → Nat → Int) (k b : Nat) : Prop := ∃ a, a < k ∧ 0 ≤ f a b
noncomputable instance (f : Nat → Nat → Int) (k b : Nat) : Decidable (seenB f k b) := Classical.propDecidable _
noncomputable def lead (f : Nat → Nat → Int) (a : Nat) : Bool := !decide (seenB f a a)
noncomputable def grps (K : Nat) (f : Nat → Nat → Int) (k : Nat) : List (List Int) := ((List.range k).filter (lead f)).map (grp K f)
theorem grps_succ {K : Nat} {f : Nat → Nat → Int} {k : Nat} : grps K f (k + 1) = grps K f k ++ (if lead f k = true then [grp K f k] else []) := by
  unfold grps
  rw [List.range_succ, List.filter_append, List.map_append]
  by_cases h : lead f k = true <;> simp [h]
theorem grp_len {K : Nat} {f : Nat → Nat → Int} {a : Nat} : (grp K f a).length ≤ K := by
  unfold grp
  rw [List.length_map]
  exact Nat.le_trans (List.length_filter_le ..) (by simp)
theorem grps_len {K : Nat} {f : Nat → Nat → Int} {k : Nat} : (grps K f k).length ≤ k := by
  unfold grps
  rw [List.length_map]
  exact Nat.le_trans (List.length_filter_le ..) (by simp)
/-- To be connected: of oneself, both ways, on and on. -/
structure Conn (K : Nat) (f : Nat → Nat → Int) : Prop where
  r : ∀ a, a < K → 0 ≤ f a a
  s : ∀ a b, a < K → b < K → 0 ≤ f a b → 0 ≤ f b a
  t : ∀ a b c, a < K → b < K → c < K → 0 ≤ f a b → 0 ≤ f b c → 0 ≤ f a c
theorem conn_of {list : List Walk} {K : Nat} {f : Nat → Nat → Int} (h : ∀ a b, a < K → b < K → IsDist list a b (f a b)) : Conn K f :=
  ⟨fun a ha => ((h a a ha ha).2.2 0 (.refl a)).1, fun a b ha hb hf => ((h b a hb ha).2.2 _ ((h a b ha hb).2.1 hf).symm).1, fun a b c ha hb hc h1 h2 => ((h a c ha hc).2.2 _ (((h a b ha hb).2.1 h1).trans ((h b c hb hc).2.1 h2))).1⟩
theorem range_filter_succ (k : Nat) (p : Nat → Bool) : (List.range (k + 1)).filter p = (List.range k).filter p ++ (if p k = true then [k] else []) := by
  rw [List.range_succ, List.filter_append]
  by_cases h : p k = true <;> simp [h]
theorem iGrp_ok {n : Network} {T : List (List Int)} (hn : n.Stops.length ≤ 8) (hs : Sq n.Stops.length T) {a : Nat} (ha : a < n.Stops.length) : iter (i_WalkGroups_L2 n T (a : Int)) ((0 : Int), ([] : List Int)) = some (grp n.Stops.length (tat T) a) := by
  obtain ⟨r, hr, hrl, hr2⟩ := sq_row hs ha
  refine Tot.val (Tot.iter (fun m s => ∃ k : Nat, s.1 = (k : Int) ∧ m + k = n.Stops.length ∧ s.2 = grp k (tat T) a) (n := n.Stops.length) ⟨0, rfl, by omega, rfl⟩ ?_)
  rintro m ⟨v, o⟩ ⟨k, hv, hm, ho⟩
  simp only at hv ho
  subst hv; subst ho
  unfold i_WalkGroups_L2
  have hle := grp_len (K := k) (f := tat T) (a := a)
  refine .iteP (fun hc => ?_) (fun hc => .dn (by rw [show n.Stops.length = k by omega]))
  refine .call (P := fun o => o = grp (k + 1) (tat T) a) (.eq (ixs hr) (.eq (ixs (hr2 k (by omega))) ?_)) fun o ho => .nx ⟨m - 1, by omega, k + 1, w64_succ (by omega), by omega, ho⟩
  have e : grp (k + 1) (tat T) a = grp k (tat T) a ++ (if 0 ≤ tat T a k then [(k : Int)] else []) := by
    unfold grp
    rw [range_filter_succ, List.map_append]
    by_cases h : 0 ≤ tat T a k <;> simp [h]
  rw [e]
  exact .iteP (fun h => .chk (by simp; omega) (.ok (by rw [if_pos h]))) (fun h => .ok (by rw [if_neg h, List.append_nil]))
theorem grp_head {K : Nat} {f : Nat → Nat → Int} (hc : Conn K f) {a : Nat} (ha : a < K) : ∃ x, (grp K f a)[0]? = some x ∧ ((x == (a : Int)) = true ↔ lead f a = true) := by
  have ham : a ∈ (List.range K).filter fun b => decide (0 ≤ f a b) := List.mem_filter.2 ⟨List.mem_range.2 ha, by simpa using hc.r a ha⟩
  have hsort : ((List.range K).filter fun b => decide (0 ≤ f a b)).Pairwise (· < ·) := (List.pairwise_lt_range (n := K)).filter _
  unfold grp
  cases hl : (List.range K).filter fun b => decide (0 ≤ f a b) with
  | nil => rw [hl] at ham; cases ham
  | cons b r =>
    rw [hl] at ham hsort
    have hb : b ∈ (List.range K).filter fun b => decide (0 ≤ f a b) := by rw [hl]; exact List.mem_cons_self ..
    obtain ⟨hb1, hb2⟩ := List.mem_filter.1 hb
    have hb1 := List.mem_range.1 hb1
    have hb2 : 0 ≤ f a b := by simpa using hb2
    have hmin : ∀ c, c < K → 0 ≤ f a c → b ≤ c := by
      intro c hcK hfc
      have : c ∈ b :: r := by rw [← hl]; exact List.mem_filter.2 ⟨List.mem_range.2 hcK, by simpa using hfc⟩
      rcases List.mem_cons.1 this with rfl | h
      · omega
      · have := (List.pairwise_cons.1 hsort).1 c h; omega
    refine ⟨(b : Int), rfl, ?_⟩
    unfold lead
    simp only [beq_iff_eq, Bool.not_eq_true', decide_eq_false_iff_not]
    constructor
    · rintro h ⟨c, h1, h2⟩
      have := hmin c (by omega) (hc.s c a (by omega) ha h2)
      omega
    · intro h
      have h1 := hmin a ha (hc.r a ha)
      by_cases e : b = a
      · rw [e]
      · exact absurd ⟨b, by omega, hc.s a b ha hb1 hb2⟩ h
theorem iGrps_ok {n : Network} {T : List (List Int)} (hn : n.Stops.length ≤ 8) (hs : Sq n.Stops.length T) (hc : Conn n.Stops.length (tat T)) : iter (i_WalkGroups_L3 n T) ((0 : Int), ([] : List (List Int))) = some (grps n.Stops.length (tat T) n.Stops.length) := by
  refine Tot.val (Tot.iter (fun m s => ∃ k : Nat, s.1 = (k : Int) ∧ m + k = n.Stops.length ∧ s.2 = grps n.Stops.length (tat T) k) (n := n.Stops.length) ⟨0, rfl, by omega, rfl⟩ ?_)
  rintro m ⟨v, o⟩ ⟨k, hv, hm, ho⟩
  simp only at hv ho
  subst hv; subst ho
  unfold i_WalkGroups_L3
  have hle := grps_len (K := n.Stops.length) (f := tat T) (k := k)
  refine .iteP (fun hk => ?_) (fun hk => .dn (by rw [show n.Stops.length = k by omega]))
  obtain ⟨x, hx, hx2⟩ := grp_head hc (a := k) (by omega)
  refine .call (P := fun o => o = grps n.Stops.length (tat T) (k + 1)) (.eq (iGrp_ok hn hs (by omega)) (.eq ((idx0 _).trans hx) ?_)) fun o ho => .nx ⟨m - 1, by omega, k + 1, w64_succ (by omega), by omega, ho⟩
  rw [grps_succ]
  exact .ite (fun h => .chk (by simp; omega) (.ok (by rw [if_pos (hx2.1 h)]))) (fun h => .ok (by rw [if_neg (fun h2 => by rw [hx2.2 h2] at h; cases h), List.append_nil]))
theorem l1Has_eq (l : List Int) (hl : l.length ≤ 100000) (x : Int) : s_l1Has l x = some (decide (x ∈ l)) := by
  unfold s_l1Has
  rw [find_loop l (fun e => e == x) (fun _ => true) (fun i y hy => ?_) (by unfold s_l1Has_L1; simp)]
  · by_cases h : x ∈ l
    · have : l.findIdx? (fun e => e == x) ≠ none := fun hn => by
        have := List.findIdx?_eq_none_iff.1 hn x h
        simp at this
      cases hf : l.findIdx? (fun e => e == x) with
      | none => exact absurd hf this
      | some i => simp [h]
    · have : l.findIdx? (fun e => e == x) = none := List.findIdx?_eq_none_iff.2 fun y hy => by
        simp only [beq_eq_false_iff_ne, ne_eq]
        intro e; subst e; exact h hy
      rw [this]; simp [h]
  · have hi := get_lt hy
    unfold s_l1Has_L1
    have hlt : decide ((i : Int) < (l.length : Int)) = true := by simp; omega
    simp only [hlt, if_true, idx_nat, hy, Option.bind_some, w64_succ (n := i) (by omega)]
    split <;> rfl
theorem sGrp_ok {K : Nat} {f : Nat → Nat → Int} {a : Nat} {r : List Int} (hK : K ≤ 8) (hrl : r.length = K) (hr : ∀ j, j < K → r[j]? = some (f a j)) {s0 : List Int} (h0 : s0.length ≤ 1000) :
    iter (s_WalkGroups_L2 r) ((0 : Int), s0, ([] : List Int)) = some (s0 ++ grp K f a, grp K f a) := by
  refine Tot.val (Tot.iter (fun m s => ∃ k : Nat, s.1 = (k : Int) ∧ m + k = K ∧ s.2.1 = s0 ++ grp k f a ∧ s.2.2 = grp k f a) (n := K) ⟨0, rfl, by omega, by simp [grp], rfl⟩ ?_)
  rintro m ⟨v, o, g⟩ ⟨k, hv, hm, ho, hg⟩
  simp only at hv ho hg
  subst hv; subst ho; subst hg
  unfold s_WalkGroups_L2
  have hle := grp_len (K := k) (f := f) (a := a)
  refine .iteP (fun hc => ?_) (fun hc => .dn (by rw [show K = k by omega]))
  refine .call (P := fun o => o.1 = s0 ++ grp (k + 1) f a ∧ o.2 = grp (k + 1) f a) (.eq (ixs (hr k (by omega))) ?_) fun o ho => .nx ⟨m - 1, by omega, k + 1, w64_succ (by omega), by omega, ho.1, ho.2⟩
  have e : grp (k + 1) f a = grp k f a ++ (if 0 ≤ f a k then [(k : Int)] else []) := by
    unfold grp
    rw [range_filter_succ, List.map_append]
    by_cases h : 0 ≤ f a k <;> simp [h]
  rw [e]
  exact .iteP (fun h => .chk (by simp; omega) (.chk (by simp; omega) (.ok ⟨by rw [if_pos h, List.append_assoc], by rw [if_pos h]⟩))) (fun h => .ok ⟨by rw [if_neg h, List.append_nil], by rw [if_neg h, List.append_nil]⟩)
theorem grp_mem {K : Nat} {f : Nat → Nat → Int} {a b : Nat} : (b : Int) ∈ grp K f a ↔ b < K ∧ 0 ≤ f a b := by
  unfold grp
  simp only [List.mem_map, List.mem_filter, List.mem_range, decide_eq_true_eq]
  constructor
  · rintro ⟨c, ⟨h1, h2⟩, h3⟩
    have : c = b := by omega
    subst this; exact ⟨h1, h2⟩
  · rintro ⟨h1, h2⟩; exact ⟨b, ⟨h1, h2⟩, rfl⟩
theorem sGrps_ok {n : Network} {list : List Walk} {f : Nat → Nat → Int} (hn : n.Stops.length ≤ 8) (hc : Conn n.Stops.length f) (hrow : ∀ s : Nat, s < n.Stops.length → ∃ r, s_l7Times (n.Stops.length : Int) list (s : Int) = some r ∧ r.length = n.Stops.length ∧ ∀ j, j < n.Stops.length → r[j]? = some (f s j)) :
    iter (s_WalkGroups_L3 n list) ((0 : Int), ([] : List (List Int)), ([] : List Int)) = some (grps n.Stops.length f n.Stops.length) := by
  refine Tot.val (Tot.iter (fun m s => ∃ k : Nat, s.1 = (k : Int) ∧ m + k = n.Stops.length ∧ s.2.1 = grps n.Stops.length f k ∧ s.2.2.length ≤ 8 * k ∧ ∀ b : Nat, b < n.Stops.length → ((b : Int) ∈ s.2.2 ↔ seenB f k b)) (n := n.Stops.length) ⟨0, rfl, by omega, rfl, by simp, fun b hb => ⟨fun h => (by cases h), fun ⟨a, h, _⟩ => by omega⟩⟩ ?_)
  rintro m ⟨v, o, g⟩ ⟨k, hv, hm, ho, hgl, hg⟩
  simp only at hv ho hgl hg
  subst hv; subst ho
  unfold s_WalkGroups_L3
  have hle := grps_len (K := n.Stops.length) (f := f) (k := k)
  refine .iteP (fun hk => ?_) (fun hk => .dn (by rw [show n.Stops.length = k by omega]))
  have hkK : k < n.Stops.length := by omega
  refine .call (P := fun o => o.1 = grps n.Stops.length f (k + 1) ∧ o.2.length ≤ 8 * (k + 1) ∧ ∀ b : Nat, b < n.Stops.length → ((b : Int) ∈ o.2 ↔ seenB f (k + 1) b)) (.eq (l1Has_eq g (by omega) _) ?_) fun o ho => .nx ⟨m - 1, by omega, k + 1, w64_succ (by omega), by omega, ho.1, ho.2.1, ho.2.2⟩
  rw [grps_succ]
  refine .iteP (fun h => .ok ⟨?_, by dsimp only; omega, fun b hb => ?_⟩) (fun h => ?_)
  · have hs := (hg k hkK).1 h
    have : lead f k = false := by unfold lead; simp [hs]
    rw [this]; simp
  · obtain ⟨a0, h1, h2⟩ := (hg k hkK).1 h
    dsimp only
    rw [hg b hb]
    constructor
    · rintro ⟨a, q1, q2⟩; exact ⟨a, by omega, q2⟩
    · rintro ⟨a, q1, q2⟩
      by_cases ha : a = k
      · subst ha; exact ⟨a0, h1, hc.t a0 a b (by omega) hkK hb h2 q2⟩
      · exact ⟨a, by omega, q2⟩
  · have hs : ¬ seenB f k k := fun h' => h ((hg k hkK).2 h')
    have hlead : lead f k = true := by unfold lead; simp [hs]
    obtain ⟨r, r1, r2, r3⟩ := hrow k hkK
    have hgl2 := grp_len (K := n.Stops.length) (f := f) (a := k)
    refine .eq r1 (.eq (sGrp_ok hn r2 r3 (by omega)) (.chk (by simp; omega) (.ok ⟨by rw [hlead, if_pos rfl], by dsimp only; rw [List.length_append]; omega, fun b hb => ?_⟩)))
    dsimp only
    rw [List.mem_append, hg b hb, grp_mem]
    constructor
    · rintro (⟨a, q1, q2⟩ | ⟨q1, q2⟩)
      · exact ⟨a, by omega, q2⟩
      · exact ⟨k, by omega, q2⟩
    · rintro ⟨a, q1, q2⟩
      by_cases ha : a = k
      · subst ha; exact .inr ⟨hb, q2⟩
      · exact .inl ⟨a, by omega, q2⟩
theorem filt_len {α : Type} (p : α → Bool) : ∀ l : List α, ((l.filter p).length : Int) = (l.map fun b => if p b = true then (1 : Int) else 0).sum
  | [] => rfl
  | a :: l => by
    have := filt_len p l
    by_cases h : p a = true <;> simp [h] <;> omega
theorem sum_add {α : Type} (f g : α → Int) : ∀ l : List α, (l.map fun x => f x + g x).sum = (l.map f).sum + (l.map g).sum
  | [] => rfl
  | a :: l => by
    have := sum_add f g l
    simp only [List.map_cons, List.sum_cons, this]; omega
theorem grps_sum {K : Nat} {f : Nat → Nat → Int} (hc : Conn K f) : ∀ k, k ≤ K → ((grps K f k).map fun r => (r.length : Int)).sum = ((List.range K).map fun b => if seenB f k b then (1 : Int) else 0).sum
  | 0, _ => by
    have : ∀ b ∈ List.range K, (if seenB f 0 b then (1 : Int) else 0) = (fun _ => (0 : Int)) b := fun b _ => if_neg fun ⟨a, h, _⟩ => by omega
    rw [sum_congr this]
    show 0 = _
    generalize List.range K = L
    induction L with
    | nil => rfl
    | cons a L ih => simp only [List.map_cons, List.sum_cons]; omega
  | k + 1, hk => by
    have ih := grps_sum hc k (by omega)
    rw [grps_succ, List.map_append, List.sum_append, ih]
    by_cases hl : lead f k = true
    · have hns : ¬ seenB f k k := by unfold lead at hl; simpa using hl
      rw [if_pos hl]
      have e1 : ((grp K f k).length : Int) = ((List.range K).map fun b => if decide (0 ≤ f k b) = true then (1 : Int) else 0).sum := by
        unfold grp; rw [List.length_map]; exact filt_len _ _
      simp only [List.map_cons, List.map_nil, List.sum_cons, List.sum_nil, Int.add_zero]
      rw [e1, ← sum_add]
      refine sum_congr fun b hb => ?_
      have hb := List.mem_range.1 hb
      by_cases h1 : seenB f k b
      · have h2 : ¬ 0 ≤ f k b := fun h2 => by
          obtain ⟨a, q1, q2⟩ := h1
          exact hns ⟨a, q1, hc.t a b k (by omega) hb (by omega) q2 (hc.s k b (by omega) hb h2)⟩
        have h3 : seenB f (k + 1) b := by obtain ⟨a, q1, q2⟩ := h1; exact ⟨a, by omega, q2⟩
        simp [h1, h2, h3]
      · by_cases h2 : 0 ≤ f k b
        · have h3 : seenB f (k + 1) b := ⟨k, by omega, h2⟩
          simp [h1, h2, h3]
        · have h3 : ¬ seenB f (k + 1) b := fun ⟨a, q1, q2⟩ => by
            by_cases ha : a = k
            · subst ha; exact h2 q2
            · exact h1 ⟨a, by omega, q2⟩
          simp [h1, h2, h3]
    · have hs : seenB f k k := by unfold lead at hl; simpa using hl
      rw [if_neg hl]
      simp only [List.map_nil, List.sum_nil, Int.add_zero]
      refine sum_congr fun b hb => ?_
      have hb := List.mem_range.1 hb
      have : seenB f k b ↔ seenB f (k + 1) b := by
        constructor
        · rintro ⟨a, q1, q2⟩; exact ⟨a, by omega, q2⟩
        · rintro ⟨a, q1, q2⟩
          by_cases ha : a = k
          · subst ha
            obtain ⟨a0, h1, h2⟩ := hs
            exact ⟨a0, h1, hc.t a0 a b (by omega) (by omega) hb h2 q2⟩
          · exact ⟨a, by omega, q2⟩
      by_cases h : seenB f k b
      · rw [if_pos h, if_pos (this.1 h)]
      · rw [if_neg h, if_neg (fun h' => h (this.2 h'))]
theorem grps_all {K : Nat} {f : Nat → Nat → Int} (hc : Conn K f) : ((grps K f K).map fun r => (r.length : Int)).sum = (K : Int) := by
  rw [grps_sum hc K (Nat.le_refl _)]
  have : ∀ b ∈ List.range K, (if seenB f K b then (1 : Int) else 0) = (fun _ => (1 : Int)) b := fun b hb => if_pos ⟨b, List.mem_range.1 hb, hc.r b (List.mem_range.1 hb)⟩
  rw [sum_congr this]
  have : ∀ L : List Nat, (L.map fun _ => (1 : Int)).sum = (L.length : Int) := by
    intro L
    induction L with
    | nil => rfl
    | cons a L ih => simp only [List.map_cons, List.sum_cons, ih, List.length_cons, Int.natCast_add]; omega
  rw [this, List.length_range]
/-- Both answers about groups. -/
theorem groups_ok {n : Network} (hb : Bd n) (list : List Walk) (limit : Int) : ∃ l b, i_WalkGroups n list limit = some (l, b) ∧ s_WalkGroups n list limit = some (l, b) ∧ l.length ≤ 8 ∧ (∀ r ∈ l, r.length ≤ 8) ∧ (b = true → (l.map fun r => (r.length : Int)).sum = (n.Stops.length : Int)) := by
  by_cases h1 : Good n ∧ WalksP n.Stops.length list
  · by_cases h2 : 0 ≤ limit ∧ limit ≤ 120
    · have hW := short_ok h1.2 (shortP limit)
      have h8 := h1.1.1
      obtain ⟨T, t1, t2, t3, t4⟩ := walk_rows h1.1.1 hW
      have hc := conn_of t3
      have hlen := grps_len (K := n.Stops.length) (f := tat T) (k := n.Stops.length)
      refine ⟨grps n.Stops.length (tat T) n.Stops.length, true, ?_, ?_, by omega, fun r hr => ?_, fun _ => grps_all hc⟩
      · unfold i_WalkGroups
        simp only [validW_eq hb, h1, h2, within_eq, and_self, decide_true, Bool.not_true, Bool.false_eq_true, if_false, Option.bind_some, iShort_ok h1.2.1 limit, t1, iGrps_ok h1.1.1.2 t2 hc]
      · unfold s_WalkGroups
        simp only [l7Good_eq hb, h1, h2, l1In_eq, and_self, decide_true, Bool.not_true, Bool.false_eq_true, if_false, Option.bind_some, sShort_ok h1.2.1 limit]
        rw [sGrps_ok h1.1.1.2 hc fun s hs => by
          obtain ⟨r, _, r2, r3, _, r5⟩ := t4 s hs
          exact ⟨r, r5, r2, r3⟩]
        rfl
      · unfold grps at hr
        obtain ⟨a, _, rfl⟩ := List.mem_map.1 hr
        have := grp_len (K := n.Stops.length) (f := tat T) (a := a)
        omega
    · refine ⟨[], false, ?_, ?_, by simp, fun r hr => (by cases hr), fun h => by cases h⟩
      · unfold i_WalkGroups
        simp only [validW_eq hb, h1, h2, within_eq, and_self, decide_true, decide_false, Bool.not_true, Bool.not_false, Bool.false_eq_true, if_false, if_true, Option.bind_some]
      · unfold s_WalkGroups
        simp only [l7Good_eq hb, h1, h2, l1In_eq, and_self, decide_true, decide_false, Bool.not_true, Bool.not_false, Bool.false_eq_true, if_false, if_true, Option.bind_some]
  · refine ⟨[], false, ?_, ?_, by simp, fun r hr => (by cases hr), fun h => by cases h⟩
    · unfold i_WalkGroups
      simp only [validW_eq hb, h1, decide_false, Bool.not_false, if_true, Option.bind_some]
    · unfold s_WalkGroups
      simp only [l7Good_eq hb, h1, decide_false, Bool.not_false, if_true, Option.bind_some]
/-! Lists held against themselves (the second half's helpers). -/
theorem rInts_refl (a : List Int) (h : a.length ≤ 100000) : v_rInts a a = some true := by
  unfold v_rInts
  simp only [bne_self_eq_false, Bool.false_eq_true, if_false]
  rw [all_val (hd := Classical.propDecidable _) a (fun _ _ => True) (fun i x hx => ?_) (by unfold v_rInts_L1; simp)]
  · rw [if_pos (fun _ _ _ => trivial)]
  · have hi := get_lt hx
    unfold v_rInts_L1
    have hlt : decide ((i : Int) < (a.length : Int)) = true := by simp; omega
    left
    simp only [hlt, if_true, idx_nat, hx, Option.bind_some, bne_self_eq_false, Bool.false_eq_true, if_false, w64_succ (n := i) (by omega), and_self]
theorem rTable_refl (a : List (List Int)) (h : a.length ≤ 100000) (h2 : ∀ r ∈ a, r.length ≤ 100000) : v_rTable a a = some true := by
  unfold v_rTable
  simp only [bne_self_eq_false, Bool.false_eq_true, if_false]
  rw [all_val (hd := Classical.propDecidable _) a (fun _ _ => True) (fun i x hx => ?_) (by unfold v_rTable_L1; simp)]
  · rw [if_pos (fun _ _ _ => trivial)]
  · have hi := get_lt hx
    unfold v_rTable_L1
    have hlt : decide ((i : Int) < (a.length : Int)) = true := by simp; omega
    left
    simp only [hlt, if_true, idx_nat, hx, Option.bind_some, rInts_refl x (h2 x (List.mem_of_getElem? hx)), Bool.not_true, Bool.false_eq_true, if_false, w64_succ (n := i) (by omega), and_self]
/-! Change times; the law. -/
section
variable {t : Timetable} (hT : GoodT t) {T : List (List Int)}
include hT
theorem ch_inner {i j : Nat} {x y : Trip} {la lb : Line} (hx : t.Trips[i]? = some x) (hy : t.Trips[j]? = some y) (hla : idx t.Network.Lines x.Line = some la) (hlb : idx t.Network.Lines y.Line = some lb) {k : Nat} {s : Int} (hs : la.Stops[k]? = some s) {rs : List Int} (hrs : idx T s = some rs) (hrl : rs.length = t.Network.Stops.length) (q r : Int) :
    ∃ z, iter (i_ChangeTime_L1 T (ST la x.Start) (ST lb y.Start) (k : Int) s lb) (q, r, (0 : Int)) = some z ∧ iter (s_ChangeTime_L1 t (i : Int) (j : Int) la.Stops lb.Stops (k : Int) rs) (q, r, (0 : Int)) = some z := by
  obtain ⟨la', hla', hpa, _, hsa, _⟩ := trip_line hT hx
  rw [hla] at hla'; cases hla'
  obtain ⟨lb', hlb', hpb, _, hsb, _⟩ := trip_line hT hy
  rw [hlb] at hlb'; cases hlb'
  obtain ⟨⟨a1, a2, a3⟩, _⟩ := line_runs hpa
  obtain ⟨⟨b1, b2, b3⟩, _⟩ := line_runs hpb
  have hk := get_lt hs
  have hsr := line_stop hpa hs
  have ew : w64 (((ST lb y.Start).length : Int) - 1) = (lb.Runs.length : Int) := by rw [ST_len, w64_id (by omega)]; omega
  have harr := ST_at (l := la) (s := x.Start) (k := k) (by omega)
  have harr2 := l5At_eq hT.1 hx hla hsa (k := k) (by omega)
  suffices hs : ∀ (m : Nat) (a b : Int × Int × Int), (a = b ∧ ∃ p : Nat, a.2.2 = (p : Int) ∧ m + p = lb.Runs.length) → (∃ b1 b2 k', i_ChangeTime_L1 T (ST la x.Start) (ST lb y.Start) (k : Int) s lb a = some (.nx b1) ∧ s_ChangeTime_L1 t (i : Int) (j : Int) la.Stops lb.Stops (k : Int) rs b = some (.nx b2) ∧ k' < m ∧ (b1 = b2 ∧ ∃ p : Nat, b1.2.2 = (p : Int) ∧ k' + p = lb.Runs.length)) ∨ ∃ z z', i_ChangeTime_L1 T (ST la x.Start) (ST lb y.Start) (k : Int) s lb a = some (.dn z) ∧ s_ChangeTime_L1 t (i : Int) (j : Int) la.Stops lb.Stops (k : Int) rs b = some (.dn z') ∧ z = z' by
    obtain ⟨z, z', h1, h2, h3⟩ := iter2 (fun m a b => a = b ∧ ∃ p : Nat, a.2.2 = (p : Int) ∧ m + p = lb.Runs.length) (fun z z' => z = z') hs (k := lb.Runs.length) (a := (q, r, (0 : Int))) (a' := (q, r, (0 : Int))) ⟨rfl, 0, rfl, by omega⟩
    exact ⟨z, h1, by rw [h3]; exact h2⟩
  rintro m a b ⟨rfl, p, hp, hm⟩
  obtain ⟨q', r', v⟩ := a
  simp only at hp
  subst hp
  by_cases hlt : p < lb.Runs.length
  · left
    obtain ⟨u, hu⟩ := get_ex (l := lb.Stops) (i := p) (by omega)
    have hur := line_stop hpb hu
    have hu2 : ((lb.Stops.take lb.Runs.length).drop 0)[p]? = some u := by rw [List.drop_zero, List.getElem?_take_of_lt hlt]; exact hu
    obtain ⟨w, hw⟩ := get_ex (l := rs) (i := u.toNat) (by omega)
    have hwi : idx rs u = some w := idx_of hur.1 hw
    have hdep := ST_at (l := lb) (s := y.Start) (k := p) (by omega)
    have hdep2 := l5At_eq hT.1 hy hlb hsb (k := p) (by omega)
    generalize hD : w64 (y.Start + (lb.Runs.take p).sum - (x.Start + (la.Runs.take k).sum)) = D
    have g1 : i_ChangeTime_L1 T (ST la x.Start) (ST lb y.Start) (k : Int) s lb (q', r', (p : Int)) = some (.nx ((if 0 ≤ w ∧ w ≤ D ∧ (q' < 0 ∨ D < q') then D else q'), (if 0 ≤ w ∧ w ≤ D ∧ (q' < 0 ∨ D < q') then s else r'), ((p + 1 : Nat) : Int))) := by
      unfold i_ChangeTime_L1
      rw [ew]
      have hc : (p : Int) < (((lb.Stops.take (lb.Runs.length : Int).toNat).drop (0 : Int).toNat).length : Int) := by rw [Int.toNat_natCast, List.length_drop, List.length_take]; simp; omega
      dsimp only
      refine Tot.val (.iteP (fun _ => ?_) (fun hn => absurd hc hn))
      refine (.call (P := fun o => o = ((if 0 ≤ w ∧ w ≤ D ∧ (q' < 0 ∨ D < q') then D else q'), (if 0 ≤ w ∧ w ≤ D ∧ (q' < 0 ∨ D < q') then s else r'))) ?_ fun o ho => .ok (by rw [ho, w64_succ (n := p) (by omega)]))
      refine .eq (ixs (by rw [Int.toNat_natCast]; exact hu2)) (.eq (ixs hdep) (.eq (ixs harr) (.eq hrs (.eq hwi ?_))))
      rw [hD]
      refine .call (P := fun b => b = decide (0 ≤ w ∧ w ≤ D ∧ (q' < 0 ∨ D < q'))) (.iteP (fun c1 => .eq hrs (.eq hwi (.iteP (fun c2 => .iteP (fun c3 => .ok (by simp [c1, c2, c3])) (fun c3 => .ok (by simp [c1, c2, c3]))) (fun c2 => .ok (by simp [c2]))))) (fun c1 => .ok (by simp [c1]))) fun b hb => ?_
      subst hb
      exact .iteP (fun c => .ok (by rw [if_pos c, if_pos c])) (fun c => .ok (by rw [if_neg c, if_neg c]))
    have g2 : s_ChangeTime_L1 t (i : Int) (j : Int) la.Stops lb.Stops (k : Int) rs (q', r', (p : Int)) = some (.nx ((if 0 ≤ w ∧ w ≤ D ∧ (q' < 0 ∨ D < q') then D else q'), (if 0 ≤ w ∧ w ≤ D ∧ (q' < 0 ∨ D < q') then s else r'), ((p + 1 : Nat) : Int))) := by
      unfold s_ChangeTime_L1
      dsimp only
      rw [w64_succ (n := p) (by omega)]
      refine Tot.val (.iteP (fun _ => ?_) (fun hn => absurd (show ((p + 1 : Nat) : Int) < (lb.Stops.length : Int) by omega) hn))
      refine (.call (P := fun o => o = ((if 0 ≤ w ∧ w ≤ D ∧ (q' < 0 ∨ D < q') then D else q'), (if 0 ≤ w ∧ w ≤ D ∧ (q' < 0 ∨ D < q') then s else r'))) ?_ fun o ho => .ok (by rw [ho]))
      refine .eq hdep2 (.eq harr2 (.eq (ixs hu) (.eq hwi ?_)))
      rw [hD]
      refine .call (P := fun b => b = decide (0 ≤ w ∧ w ≤ D ∧ (q' < 0 ∨ D < q'))) (.iteP (fun c1 => .eq (ixs hu) (.eq hwi (.iteP (fun c2 => .iteP (fun c3 => .ok (by simp [c1, c2, c3])) (fun c3 => .ok (by simp [c1, c2, c3]))) (fun c2 => .ok (by simp [c2]))))) (fun c1 => .ok (by simp [c1]))) fun b hb => ?_
      subst hb
      exact .iteP (fun c => .eq (ixs hs) (.ok (by rw [if_pos c, if_pos c]))) (fun c => .ok (by rw [if_neg c, if_neg c]))
    exact ⟨_, _, m - 1, g1, g2, by omega, rfl, p + 1, rfl, by omega⟩
  · right
    have e : p = lb.Runs.length := by omega
    refine ⟨(q', r'), (q', r'), ?_, ?_, rfl⟩
    · unfold i_ChangeTime_L1
      rw [ew]
      have hc : ¬ (p : Int) < (((lb.Stops.take (lb.Runs.length : Int).toNat).drop (0 : Int).toNat).length : Int) := by rw [Int.toNat_natCast, List.length_drop, List.length_take]; simp; omega
      dsimp only
      rw [if_neg (by simpa using hc)]
    · unfold s_ChangeTime_L1
      dsimp only
      rw [w64_succ (n := p) (by omega), if_neg (by simp; omega)]
end
section
variable {t : Timetable} (hT : GoodT t) {list : List Walk} {T : List (List Int)} (hrow : ∀ s : Nat, s < t.Network.Stops.length → ∃ r, T[s]? = some r ∧ r.length = t.Network.Stops.length ∧ (∀ j, j < t.Network.Stops.length → r[j]? = some (tat T s j)) ∧ (∀ x ∈ r, -1 ≤ x ∧ x ≤ 100000) ∧ s_l7Times (t.Network.Stops.length : Int) list (s : Int) = some r)
include hT hrow
theorem ch_outer {i j : Nat} {x y : Trip} {la lb : Line} (hx : t.Trips[i]? = some x) (hy : t.Trips[j]? = some y) (hla : idx t.Network.Lines x.Line = some la) (hlb : idx t.Network.Lines y.Line = some lb) :
    ∃ z, iter (i_ChangeTime_L2 t y T (ST la x.Start) (ST lb y.Start) la) (((-1) : Int), (0 : Int), (0 : Int)) = some z ∧ iter (s_ChangeTime_L2 t list (i : Int) (j : Int) la.Stops lb.Stops) (((-1) : Int), (0 : Int), (1 : Int)) = some z := by
  obtain ⟨la', hla', hpa, _, hsa, _⟩ := trip_line hT hx
  rw [hla] at hla'; cases hla'
  obtain ⟨lb', hlb', hpb, _, hsb, _⟩ := trip_line hT hy
  rw [hlb] at hlb'; cases hlb'
  obtain ⟨⟨a1, a2, a3⟩, _⟩ := line_runs hpa
  obtain ⟨⟨b1, b2, b3⟩, _⟩ := line_runs hpb
  have ew : w64 (((ST lb y.Start).length : Int) - 1) = (lb.Runs.length : Int) := by rw [ST_len, w64_id (by omega)]; omega
  obtain ⟨s0, hs0⟩ := get_ex (l := la.Stops) (i := 0) (by omega)
  have first : i_ChangeTime_L2 t y T (ST la x.Start) (ST lb y.Start) la (((-1) : Int), (0 : Int), (0 : Int)) = some (.nx (((-1) : Int), (0 : Int), ((1 : Nat) : Int))) := by
    unfold i_ChangeTime_L2
    have hc : (0 : Int) < (la.Stops.length : Int) := by omega
    simp only [hc, decide_true, if_true, idx0, hs0, Option.bind_some, beq_self_eq_true]
    rfl
  rw [iter_nx first]
  suffices hs : ∀ (m : Nat) (a b : Int × Int × Int), (a = b ∧ ∃ p : Nat, a.2.2 = (p : Int) ∧ 1 ≤ p ∧ m + p = la.Stops.length) → (∃ b1 b2 k', i_ChangeTime_L2 t y T (ST la x.Start) (ST lb y.Start) la a = some (.nx b1) ∧ s_ChangeTime_L2 t list (i : Int) (j : Int) la.Stops lb.Stops b = some (.nx b2) ∧ k' < m ∧ (b1 = b2 ∧ ∃ p : Nat, b1.2.2 = (p : Int) ∧ 1 ≤ p ∧ k' + p = la.Stops.length)) ∨ ∃ z z', i_ChangeTime_L2 t y T (ST la x.Start) (ST lb y.Start) la a = some (.dn z) ∧ s_ChangeTime_L2 t list (i : Int) (j : Int) la.Stops lb.Stops b = some (.dn z') ∧ z = z' by
    obtain ⟨z, z', h1, h2, h3⟩ := iter2 (fun m a b => a = b ∧ ∃ p : Nat, a.2.2 = (p : Int) ∧ 1 ≤ p ∧ m + p = la.Stops.length) (fun z z' => z = z') hs (k := la.Stops.length - 1) (a := (((-1) : Int), (0 : Int), ((1 : Nat) : Int))) (a' := (((-1) : Int), (0 : Int), (1 : Int))) ⟨rfl, 1, rfl, by omega, by omega⟩
    exact ⟨z, h1, by rw [h3]; exact h2⟩
  rintro m a b ⟨rfl, p, hp, hp1, hm⟩
  obtain ⟨q, r, v⟩ := a
  simp only at hp
  subst hp
  by_cases hlt : p < la.Stops.length
  · left
    obtain ⟨s, hs⟩ := get_ex (l := la.Stops) (i := p) hlt
    have hsr := line_stop hpa hs
    obtain ⟨rs, r1, r2, r3, _, r5⟩ := hrow s.toNat (by omega)
    rw [show ((s.toNat : Nat) : Int) = s by omega] at r5
    have hrs : idx T s = some rs := idx_of hsr.1 r1
    obtain ⟨z, z1, z2⟩ := ch_inner hT hx hy hla hlb hs hrs r2 q r
    refine ⟨(z.1, z.2, ((p + 1 : Nat) : Int)), (z.1, z.2, ((p + 1 : Nat) : Int)), m - 1, ?_, ?_, by omega, rfl, p + 1, rfl, by omega, by omega⟩
    · have hp0 : ((p : Int) == 0) = false := by simp; omega
      have hck : (0 : Int) ≤ 0 ∧ (0 : Int) ≤ (lb.Runs.length : Int) ∧ (lb.Runs.length : Int) ≤ (lb.Stops.length : Int) := by omega
      unfold i_ChangeTime_L2
      simp only [Int.ofNat_lt.2 hlt, decide_true, if_true, idx_nat, hs, Option.bind_some, hp0, Bool.false_eq_true, if_false, lineOf_eq hlb, ew, chk_of hck, z1, w64_succ (n := p) (by omega)]
    · unfold s_ChangeTime_L2
      simp only [Int.ofNat_lt.2 hlt, decide_true, if_true, idx_nat, hs, Option.bind_some, r5, z2, w64_succ (n := p) (by omega)]
  · right
    refine ⟨(q, r), (q, r), ?_, ?_, rfl⟩
    · unfold i_ChangeTime_L2
      dsimp only
      rw [if_neg (by simp; omega)]
    · unfold s_ChangeTime_L2
      dsimp only
      rw [if_neg (by simp; omega)]
end
theorem change_eq {t : Timetable} (hb : TB t) (list : List Walk) (a b : Int) : ∃ m s o, i_ChangeTime t list a b = some (m, s, o) ∧ s_ChangeTime t list a b = some (m, s, o) ∧ 0 ≤ m := by
  by_cases h1 : GoodT t
  · by_cases h2 : WalksP t.Network.Stops.length list
    · by_cases h3 : a = b
      · refine ⟨0, 0, false, ?_, ?_, by omega⟩
        · unfold i_ChangeTime; simp [validT_eq hb, areWalks_eq, h1, h2, h3]
        · unfold s_ChangeTime; simp [goodT_eq hb, l7Good_eq hb.1, h1, h1.1, h2, h3]
      · have h3' : (a == b) = false := by simpa using h3
        rcases found_or (t := t) a with ⟨f1, _⟩ | ⟨i, x, hx, rfl⟩
        · refine ⟨0, 0, false, ?_, ?_, by omega⟩
          · unfold i_ChangeTime
            simp only [validT_eq hb, areWalks_eq, h1, h2, h3', tripIndex_eq t hb.2, f1, decide_true, Bool.not_true, Bool.false_eq_true, if_false, if_true, Option.bind_some]
          · unfold s_ChangeTime
            simp only [goodT_eq hb, l7Good_eq hb.1, h1, h1.1, h2, h3', l5Find_eq t hb.2, f1, and_self, decide_true, Bool.not_true, Bool.false_eq_true, if_false, if_true, Option.bind_some]
        · have g1 := trip_fix h1 hx
          have n1 : ¬ (i : Int) < 0 := by omega
          rcases found_or (t := t) b with ⟨f2, _⟩ | ⟨j, y, hy, rfl⟩
          · refine ⟨0, 0, false, ?_, ?_, by omega⟩
            · unfold i_ChangeTime
              simp only [validT_eq hb, areWalks_eq, h1, h2, h3', tripIndex_eq t hb.2, g1, n1, f2, decide_true, decide_false, Bool.not_true, Bool.false_eq_true, if_false, if_true, Option.bind_some]
            · unfold s_ChangeTime
              simp only [goodT_eq hb, l7Good_eq hb.1, h1, h1.1, h2, h3', l5Find_eq t hb.2, g1, n1, f2, and_self, decide_true, decide_false, Bool.not_true, Bool.false_eq_true, if_false, if_true, Option.bind_some]
          · have g2 := trip_fix h1 hy
            have n2 : ¬ (j : Int) < 0 := by omega
            obtain ⟨la, hla, hpa, _, hsa, _⟩ := trip_line h1 hx
            obtain ⟨lb, hlb, hpb, _, hsb, _⟩ := trip_line h1 hy
            obtain ⟨T, t1, t2, t3, t4⟩ := walk_rows h1.1.1 h2
            obtain ⟨z, z1, z2⟩ := ch_outer h1 t4 hx hy hla hlb
            by_cases hz : z.1 < 0
            · refine ⟨0, 0, false, ?_, ?_, by omega⟩
              · unfold i_ChangeTime
                simp only [validT_eq hb, areWalks_eq, h1, h2, h3', tripIndex_eq t hb.2, g1, n1, g2, n2, decide_true, decide_false, Bool.not_true, Bool.false_eq_true, if_false, if_true, Option.bind_some, idx_nat, hx, hy, t1, stopTimes_eq hla hpa hsa, stopTimes_eq hlb hpb hsb, lineOf_eq hla, z1, hz]
              · unfold s_ChangeTime
                simp only [goodT_eq hb, l7Good_eq hb.1, h1, h1.1, h2, h3', l5Find_eq t hb.2, g1, n1, g2, n2, and_self, decide_true, decide_false, Bool.not_true, Bool.false_eq_true, if_false, if_true, Option.bind_some, l5Stops_eq hx hla, l5Stops_eq hy hlb, z2, hz]
            · refine ⟨z.1, z.2, true, ?_, ?_, by omega⟩
              · unfold i_ChangeTime
                simp only [validT_eq hb, areWalks_eq, h1, h2, h3', tripIndex_eq t hb.2, g1, n1, g2, n2, decide_true, decide_false, Bool.not_true, Bool.false_eq_true, if_false, if_true, Option.bind_some, idx_nat, hx, hy, t1, stopTimes_eq hla hpa hsa, stopTimes_eq hlb hpb hsb, lineOf_eq hla, z1, hz]
              · unfold s_ChangeTime
                simp only [goodT_eq hb, l7Good_eq hb.1, h1, h1.1, h2, h3', l5Find_eq t hb.2, g1, n1, g2, n2, and_self, decide_true, decide_false, Bool.not_true, Bool.false_eq_true, if_false, if_true, Option.bind_some, l5Stops_eq hx hla, l5Stops_eq hy hlb, z2, hz]
    · refine ⟨0, 0, false, ?_, ?_, by omega⟩
      · unfold i_ChangeTime; simp [validT_eq hb, areWalks_eq, h1, h2]
      · unfold s_ChangeTime; simp [goodT_eq hb, l7Good_eq hb.1, h1, h2]
  · refine ⟨0, 0, false, ?_, ?_, by omega⟩
    · unfold i_ChangeTime; simp [validT_eq hb, h1]
    · unfold s_ChangeTime; simp [goodT_eq hb, h1]
theorem drawCatch_ok (code : List UInt8) : Tot (s_DrawCatchTrips code) fun r => TB r.1 := by
  have h0 := (cur0 code).mono (k' := 10) (by omega)
  unfold s_DrawCatchTrips
  refine .call (anyTimetable_ok h0 (by omega)) fun r ⟨hc, hd⟩ => .call (walks_ok hc (by omega) hd.1.1) fun r1 ⟨hc1, _⟩ => .call (t_time hc1 (by omega)) fun r2 hc2 => ?_
  refine .call (P := fun o => Cur 6000000 ⟨o.2.1, o.2.2.1, ⟨o.2.2.2⟩⟩) ?_ fun ⟨v, v1, v2, v3⟩ hc3 => ?_
  · refine .call (P := fun o => Cur 5500000 ⟨o.2.1, o.2.2.1, ⟨o.2.2.2⟩⟩ ∧ (o.1 = true → 0 < r.1.Trips.length)) (.iteP (fun h => .call (t_one 4 hc2 (by omega)) fun r3 hr3 => .ok ⟨hr3.mono (by omega), fun _ => by omega⟩) (fun h => .ok ⟨hc2.mono (by omega), fun h => by cases h⟩)) fun ⟨v4, v5, v6, v7⟩ ⟨hc4, hv⟩ => ?_
    refine .ite (fun h => ?_) (fun h => .ok (hc4.mono (by omega)))
    have := hv h
    exact .call (t_pick _ hc4 (by omega)) fun r6 ⟨hc6, h60, h61⟩ => .idx h60 (by omega) fun e _ => .call (t_pick 20 hc6 (by omega)) fun r7 ⟨hc7, _⟩ => .ok (hc7.mono (by omega))
  · exact .call (t_pick _ hc3 (by omega)) fun r10 ⟨hc10, _⟩ => .call (t_pick 12 hc10 (by omega)) fun r11 _ => .chk (by omega) (.ok hd.tb)
theorem drawGroups_ok (code : List UInt8) : Tot (s_DrawWalkGroups code) fun r => Bd r.1 := by
  have h0 := (cur0 code).mono (k' := 10) (by omega)
  unfold s_DrawWalkGroups
  refine .call (anyNet_ok h0 (by omega)) fun r ⟨hc, hd⟩ => .call (walks_ok hc (by omega) hd.1) fun r1 ⟨hc1, _⟩ => .call (t_pick 24 hc1 (by omega)) fun r4 ⟨hc4, h40, h41⟩ => .chk (by omega) ?_
  have hq : 0 ≤ r4.1.tdiv 11 ∧ r4.1.tdiv 11 ≤ 2 := by
    rw [Int.tdiv_eq_ediv_of_nonneg h40]; omega
  have e1 : w64 (r4.1.tdiv 11) = r4.1.tdiv 11 := w64_id (by omega)
  have e2 : w64 (5 + r4.1.tdiv 11) = 5 + r4.1.tdiv 11 := w64_id (by omega)
  rw [e1, e2]
  refine .chk (by simp; omega) (.call (t_amongw _ ?_ hc4 (by omega)) fun r5 _ => .ok hd)
  intro h
  have := congrArg List.length h
  rw [List.length_drop, List.length_take] at this
  simp at this; omega
theorem drawChange_ok (code : List UInt8) : Tot (s_DrawChangeTime code) fun r => TB r.1 := by
  have h0 := (cur0 code).mono (k' := 10) (by omega)
  unfold s_DrawChangeTime
  exact .call (anyTimetable_ok h0 (by omega)) fun r ⟨hc, hd⟩ => .call (walks_ok hc (by omega) hd.1.1) fun r1 ⟨hc1, _⟩ => .call (idOf_ok _ hc1 (by omega)) fun r2 hc2 => .call (idOf_ok _ hc2 (by omega)) fun r4 _ => .ok hd.tb
theorem catching_true (code : List UInt8) : v_FnCatching code = some true := by
  unfold v_FnCatching
  rw [rBig_eq]
  refine Tot.val (Tot.eq rfl (.iteP (fun _ => .ok rfl) (fun hlen => ?_)))
  refine .call (drawCatch_ok code) fun ⟨t, list, stop, time⟩ hb => ?_
  dsimp only at hb ⊢
  obtain ⟨l, b, c1, c2, c3, d, e, c4, c5, c6, c7⟩ := catch_ok hb list stop time
  refine .eq c1 (.eq c2 ?_)
  simp only [beq_self_eq_true, Bool.not_true, Bool.false_eq_true, if_false, bne_self_eq_false, Option.bind_some]
  refine .eq c4 ?_
  refine .flb ((Tot.iter (fun m (s : Int) => ∃ k : Nat, s = (k : Int) ∧ m + k = l.length) (Q := fun b => b = .go ()) (n := l.length) ⟨0, rfl, by omega⟩ ?_).mono fun b hB => ⟨fun r e => (by rw [hB] at e; cases e), fun u _ => ?_⟩)
  · rintro m s ⟨k, rfl, hm⟩
    unfold v_FnCatching_L1
    dsimp only
    refine .iteP (fun hc => ?_) (fun hc => .dn rfl)
    obtain ⟨c, hck⟩ := get_ex (l := l) (i := k) (by omega)
    obtain ⟨t0, t1, z, hz, hz0, hz1, hz2⟩ := c6 c (List.mem_of_getElem? hck)
    have he : e = true := c5 (List.ne_nil_of_mem (List.mem_of_getElem? hck))
    subst he
    have ew : w64 (time + z) = time + z := w64_id (by omega)
    refine .eq (ixs hck) (.eq (ixs hck) (.call (P := fun v => v = false) ?_ fun v hv => ?_))
    · refine .ite (fun h => by simp at h) fun _ => .ite (fun h => by simp at h) fun _ => .eq hz (.iteP (fun h => by omega) fun _ => .eq hz (.iteP (fun h => by rw [ew] at h; omega) fun _ => .iteP (fun h => ?_) fun _ => .ok rfl))
      obtain ⟨c', hck'⟩ := get_ex (l := l) (i := k - 1) (by omega)
      have ew2 : w64 ((k : Int) - 1) = ((k - 1 : Nat) : Int) := by rw [w64_id (by omega)]; omega
      rw [ew2]
      have := c7 (k - 1) c' c hck' (by rw [show k - 1 + 1 = k by omega]; exact hck)
      exact .eq (ixs hck') (.ok (by simp; omega))
    · subst hv
      exact .ite (fun h => by cases h) fun _ => .nx ⟨m - 1, by omega, k + 1, w64_succ (by omega), by omega⟩
  refine .call (drawGroups_ok code) fun ⟨n, walks, limit⟩ hn => ?_
  dsimp only at hn ⊢
  obtain ⟨g, b2, g1, g2, g3, g4, g5⟩ := groups_ok hn walks limit
  refine .eq g1 (.eq g2 ?_)
  simp only [beq_self_eq_true, Bool.not_true, Bool.false_eq_true, if_false, rTable_refl g (by omega) (fun r hr => by have := g4 r hr; omega), Option.bind_some]
  refine .call (P := fun s => s = (g.map fun r => (r.length : Int)).sum) ?_ fun s hs => ?_
  · refine Tot.iter (fun m s => ∃ k : Nat, s.2 = (k : Int) ∧ m + k = g.length ∧ s.1 = ((g.take k).map fun r => (r.length : Int)).sum) (n := g.length) ⟨0, rfl, by omega, rfl⟩ ?_
    rintro m ⟨s, v⟩ ⟨k, hv, hm, hs⟩
    simp only at hv hs
    subst hv; subst hs
    unfold v_FnCatching_L2
    dsimp only
    refine .iteP (fun hc => ?_) (fun hc => .dn (by rw [show k = g.length by omega, List.take_length]))
    obtain ⟨r, hr⟩ := get_ex (l := g) (i := k) (by omega)
    have hrl := g4 r (List.mem_of_getElem? hr)
    have hsum := sum_mrng (f := fun r : List Int => (r.length : Int)) (M := 8) (l := g.take k) fun z hz => by have := g4 z (List.mem_of_mem_take hz); omega
    have hlk : ((g.take k).length : Int) ≤ 8 := by rw [List.length_take]; omega
    refine .eq (ixs hr) (.nx ⟨m - 1, by omega, k + 1, w64_succ (by omega), by omega, ?_⟩)
    dsimp only
    rw [sum_tk _ hr, w64_id (by omega)]
  · subst hs
    refine .call (P := fun v => v = false) (.ite (fun h => .ok (by rw [g5 h]; simp)) fun _ => .ok rfl) fun v hv => ?_
    subst hv
    refine .ite (fun h => by cases h) fun _ => .call (drawChange_ok code) fun ⟨u, some_, a, b⟩ hu => ?_
    dsimp only at hu ⊢
    obtain ⟨m, s, o, h1, h2, h3⟩ := change_eq hu some_ a b
    refine .eq h1 (.eq h2 ?_)
    simp only [beq_self_eq_true, if_true, Option.bind_some, decide_eq_true h3]
    exact .ok rfl
end Go.Proofs.Ytdkphcbllgnefaa
