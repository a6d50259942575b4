/- The plain law: what the models compute, no program in sight. -/
import Derived.Test.YtjahononbnbjnaaNcM
import Derived.Test.YtjahononbnbjnaaAbTot
namespace Go.Proofs.Ytjahononbnbjnaa
open Go Go.Ab
set_option maxHeartbeats 4000000
set_option linter.unusedVariables false
set_option linter.unusedSimpArgs false
/-! The cursor of the draws: it always answers. -/
/-! Networks: when they are valid, for the program and for the reference. -/
theorem within_eq (n lo hi : Int) : i_within n lo hi = some (decide (lo ≤ n ∧ n ≤ hi)) := by
  unfold i_within
  by_cases h : lo ≤ n <;> simp [h]
theorem l1In_eq (n lo hi : Int) : s_l1In n lo hi = some (decide (lo ≤ n ∧ n ≤ hi)) := by
  unfold s_l1In
  by_cases h : lo ≤ n <;> simp [h]
/-- Byte i of a name. -/
def ChOK (i : Nat) (c : UInt8) : Prop := (97 ≤ (c.toNat : Int) ∧ (c.toNat : Int) ≤ 122) ∨ (i ≠ 0 ∧ 48 ≤ (c.toNat : Int) ∧ (c.toNat : Int) ≤ 57)
def NameOK (s : ByteArray) : Prop := (1 ≤ s.size ∧ s.size ≤ 8) ∧ ∀ (i : Nat) c, s.data.toList[i]? = some c → ChOK i c
open Classical in
noncomputable instance (s : ByteArray) : Decidable (NameOK s) := Classical.propDecidable _
theorem size_list (s : ByteArray) : s.data.toList.length = s.size := by simp
theorem getD_of {α : Type} {l : List α} {i : Nat} {x d : α} (h : l[i]? = some x) : l.getD i d = x := by rw [List.getD_eq_getElem?_getD, h]; rfl

theorem isName_eq (s : ByteArray) : i_isName s = some (decide (NameOK s)) := by
  unfold i_isName
  by_cases h1 : 1 ≤ s.size ∧ s.size ≤ 8
  · have e1 : decide ((s.size : Int) < 1) = false := by simp; omega
    have e2 : decide (8 < (s.size : Int)) = false := by simp; omega
    simp only [e1, e2, Bool.false_eq_true, if_false, Option.bind_some]
    have hsz := size_list s
    have key := Go.Ab.all_loop s.data.toList ChOK (step := i_isName_L1 s) ?_ ?_ 0 0 rfl (by omega)
    · rcases key with ⟨g1, g2⟩ | ⟨g1, g2⟩
      · rw [g1, flb_go]
        have : NameOK s := ⟨h1, fun i c hc => g2 i c (by omega) hc⟩
        simp [this]
      · rw [g1, flb_ret]
        have : ¬ NameOK s := fun hn => g2 fun i c _ hc => hn.2 i c hc
        simp [this]
    · intro i x hx
      have hi := (List.getElem?_eq_some_iff.1 hx).1
      have hg : s.data.toList.getD (i : Int).toNat 0 = x := by rw [Int.toNat_natCast]; exact getD_of hx
      have hc : chk ((0 : Int) ≤ (i : Int) ∧ (i : Int) < (s.size : Int)) = some () := chk_of (by omega)
      have hlt : decide ((i : Int) < (s.size : Int)) = true := by simp; omega
      unfold i_isName_L1
      simp only [hlt, if_true, hc, hg, Option.bind_some, w64_succ (n := i) (by omega)]
      unfold ChOK
      by_cases a1 : (97 : Int) ≤ (x.toNat : Int)
      · by_cases a2 : (x.toNat : Int) ≤ 122
        · left; refine ⟨by simp [a1, a2], .inl ⟨a1, a2⟩⟩
        · right
          refine ⟨?_, by omega⟩
          have b1 : decide ((x.toNat : Int) < 48) = false := by simp; omega
          have b2 : decide ((57 : Int) < (x.toNat : Int)) = true := by simp; omega
          have c1 : ¬ (x.toNat : Int) < 48 := by omega
          have c2 : (57 : Int) < (x.toNat : Int) := by omega
          by_cases hi0 : i = 0
          · simp [a1, a2, hi0]
          · have hi0' : ((i : Int) == 0) = false := by simp; omega
            simp [a1, a2, hi0', c1, c2]
      · by_cases hi0 : i = 0
        · right
          refine ⟨by simp [a1, hi0], by omega⟩
        · have hi0' : ((i : Int) == 0) = false := by simp; omega
          by_cases b1 : (x.toNat : Int) < 48
          · right
            refine ⟨by simp [a1, hi0', b1], by omega⟩
          · by_cases b2 : (57 : Int) < (x.toNat : Int)
            · right
              refine ⟨by simp [a1, hi0', b1, b2], by omega⟩
            · left
              refine ⟨by simp [a1, hi0', b1, b2], .inr ⟨hi0, by omega, by omega⟩⟩
    · unfold i_isName_L1
      rw [hsz]
      simp
  · have : ¬ NameOK s := fun h => h1 h.1
    have e : (if (decide ((s.size : Int) < 1)) = true then some true else some (decide (8 < (s.size : Int)))) = some true := by
      by_cases h2 : s.size < 1
      · have : decide ((s.size : Int) < 1) = true := by simp; omega
        simp [this]
      · have e1 : decide ((s.size : Int) < 1) = false := by simp; omega
        have e2 : decide (8 < (s.size : Int)) = true := by simp; omega
        simp [e1, e2]
    rw [e]
    simp [this]

theorem l2Name_eq (s : ByteArray) : s_l2Name s = some (decide (NameOK s)) := by
  unfold s_l2Name
  rw [l1In_eq]
  simp only [Option.bind_some]
  by_cases h1 : 1 ≤ s.size ∧ s.size ≤ 8
  · have e1 : decide ((1 : Int) ≤ (s.size : Int) ∧ (s.size : Int) ≤ 8) = true := by simp; omega
    have hsz := size_list s
    obtain ⟨x0, hx0⟩ := get_ex (l := s.data.toList) (i := 0) (by omega)
    have hg0 : s.data.toList.getD (0 : Int).toNat 0 = x0 := getD_of hx0
    have hc0 : chk ((0 : Int) ≤ 0 ∧ 0 < (s.size : Int)) = some () := chk_of (by omega)
    simp only [e1, Bool.not_true, Bool.false_eq_true, if_false, hc0, hg0, Option.bind_some]
    by_cases a0 : 97 ≤ (x0.toNat : Int) ∧ (x0.toNat : Int) ≤ 122
    · have b1 : decide ((x0.toNat : Int) < 97) = false := by simp; omega
      have b2 : decide ((122 : Int) < (x0.toNat : Int)) = false := by simp; omega
      simp only [b1, b2, Bool.false_eq_true, if_false, Option.bind_some]
      have key := Go.Ab.all_loop s.data.toList ChOK (step := s_l2Name_L1 s) ?_ ?_ 0 0 rfl (by omega)
      · rcases key with ⟨g1, g2⟩ | ⟨g1, g2⟩
        · rw [g1, flb_go]
          have : NameOK s := ⟨h1, fun i c hc => g2 i c (by omega) hc⟩
          simp [this]
        · rw [g1, flb_ret]
          have : ¬ NameOK s := fun hn => g2 fun i c _ hc => hn.2 i c hc
          simp [this]
      · intro i x hx
        have hi := (List.getElem?_eq_some_iff.1 hx).1
        have hg : s.data.toList.getD (i : Int).toNat 0 = x := by rw [Int.toNat_natCast]; exact getD_of hx
        have hc : chk ((0 : Int) ≤ (i : Int) ∧ (i : Int) < (s.size : Int)) = some () := chk_of (by omega)
        have hlt : decide ((i : Int) < (s.size : Int)) = true := by simp; omega
        have h0 : i = 0 → x = x0 := fun h => by subst h; rw [hx0] at hx; cases hx; rfl
        unfold s_l2Name_L1
        simp only [hlt, if_true, hc, hg, Option.bind_some, w64_succ (n := i) (by omega)]
        unfold ChOK
        by_cases a1 : (x.toNat : Int) < 97
        · have hi0 : i ≠ 0 := fun h => by have := h0 h; subst this; omega
          by_cases c1 : (x.toNat : Int) < 48
          · right; refine ⟨by simp [a1, c1], by omega⟩
          · by_cases c2 : (57 : Int) < (x.toNat : Int)
            · right; refine ⟨by simp [a1, c1, c2], by omega⟩
            · left; refine ⟨by simp [a1, c1, c2], .inr ⟨hi0, by omega, by omega⟩⟩
        · by_cases a2 : (122 : Int) < (x.toNat : Int)
          · right
            have c1 : ¬ (x.toNat : Int) < 48 := by omega
            have c2 : (57 : Int) < (x.toNat : Int) := by omega
            refine ⟨by simp [a1, a2, c1, c2], by omega⟩
          · left; refine ⟨by simp [a1, a2], .inl ⟨by omega, by omega⟩⟩
      · unfold s_l2Name_L1
        rw [hsz]
        simp
    · have : ¬ NameOK s := fun hn => by
        have := hn.2 0 x0 hx0
        unfold ChOK at this
        omega
      have e : (if (decide ((x0.toNat : Int) < 97)) = true then some true else some (decide ((122 : Int) < (x0.toNat : Int)))) = some true := by
        by_cases h2 : (x0.toNat : Int) < 97
        · simp [h2]
        · have : (122 : Int) < (x0.toNat : Int) := by omega
          simp [h2, this]
      rw [e]
      simp [this]
  · have e1 : decide ((1 : Int) ≤ (s.size : Int) ∧ (s.size : Int) ≤ 8) = false := by simp; omega
    have : ¬ NameOK s := fun h => h1 h.1
    simp [e1, this]

/-! Searches -/
theorem index_str_eq (l : List ByteArray) (hl : l.length ≤ 4000000000) (v : ByteArray) : slices_Index_string l v = some (fixI (fun e => v.toList == e.toList) l) := by
  unfold slices_Index_string
  refine find_val l (fun e => v.toList == e.toList) (fun i x hx => ?_) (by unfold slices_Index_string_L1; simp)
  have hi := (List.getElem?_eq_some_iff.1 hx).1
  unfold slices_Index_string_L1
  have hlt : decide ((i : Int) < (l.length : Int)) = true := by simp; omega
  simp only [hlt, if_true, idx_nat, hx, Option.bind_some, w64_succ (n := i) (by omega)]
  split <;> rfl
theorem index_int_eq (l : List Int) (hl : l.length ≤ 4000000000) (v : Int) : slices_Index_int l v = some (fixI (fun e => v == e) l) := by
  unfold slices_Index_int
  refine find_val l (fun e => v == e) (fun i x hx => ?_) (by unfold slices_Index_int_L1; simp)
  have hi := (List.getElem?_eq_some_iff.1 hx).1
  unfold slices_Index_int_L1
  have hlt : decide ((i : Int) < (l.length : Int)) = true := by simp; omega
  simp only [hlt, if_true, idx_nat, hx, Option.bind_some, w64_succ (n := i) (by omega)]
  split <;> rfl
theorem l2Place_eq (x : Line) (hl : x.Stops.length ≤ 4000000000) (v : Int) : s_l2Place x v = some (fixI (fun e => v == e) x.Stops) := by
  have hc : fixI (fun e => v == e) x.Stops = fixI (fun e => e == v) x.Stops := fixI_congr _ fun e => BEq.comm
  rw [hc]
  unfold s_l2Place
  refine find_val x.Stops (fun e => e == v) (fun i y hx => ?_) (by unfold s_l2Place_L1; simp)
  have hi := (List.getElem?_eq_some_iff.1 hx).1
  unfold s_l2Place_L1
  have hlt : decide ((i : Int) < (x.Stops.length : Int)) = true := by simp; omega
  simp only [hlt, if_true, idx_nat, hx, Option.bind_some, w64_succ (n := i) (by omega)]
  split <;> rfl
theorem bl_comm (a b : List UInt8) : (a == b) = (b == a) := BEq.comm
theorem l2Find_eq (l : List ByteArray) (hl : l.length ≤ 4000000000) (v : ByteArray) : s_l2Find l v = some (fixI (fun e => v.toList == e.toList) l) := by
  rw [fixI_congr l (q := fun e => e.toList == v.toList) fun e => bl_comm _ _]
  unfold s_l2Find
  refine find_val l (fun e => e.toList == v.toList) (fun i x hx => ?_) (by unfold s_l2Find_L1; simp)
  have hi := (List.getElem?_eq_some_iff.1 hx).1
  unfold s_l2Find_L1
  have hlt : decide ((i : Int) < (l.length : Int)) = true := by simp; omega
  simp only [hlt, if_true, idx_nat, hx, Option.bind_some, w64_succ (n := i) (by omega)]
  split <;> rfl
theorem l2LineNamed_eq (n : Network) (hl : n.Lines.length ≤ 4000000000) (v : ByteArray) : s_l2LineNamed n v = some (fixI (fun e => v.toList == e.toList) (n.Lines.map (·.Name))) := by
  rw [fixI_map, fixI_congr n.Lines (q := fun e => e.Name.toList == v.toList) fun e => bl_comm _ _]
  unfold s_l2LineNamed
  refine find_val n.Lines (fun e => e.Name.toList == v.toList) (fun i x hx => ?_) (by unfold s_l2LineNamed_L1; simp)
  have hi := (List.getElem?_eq_some_iff.1 hx).1
  unfold s_l2LineNamed_L1
  have hlt : decide ((i : Int) < (n.Lines.length : Int)) = true := by simp; omega
  simp only [hlt, if_true, idx_nat, hx, Option.bind_some, w64_succ (n := i) (by omega)]
  split <;> rfl
def NamesP (l : List ByteArray) : Prop := ∀ (i : Nat) x, l[i]? = some x → NameOK x ∧ fixI (fun e => x.toList == e.toList) l = (i : Int)
def LineP (st : Nat) (x : Line) : Prop := (2 ≤ x.Stops.length ∧ x.Stops.length ≤ 6) ∧ (x.Runs.length : Int) = (x.Stops.length : Int) - 1 ∧
  (∀ (i : Nat) e, x.Stops[i]? = some e → (0 ≤ e ∧ e < (st : Int)) ∧ fixI (fun y => e == y) x.Stops = (i : Int)) ∧ ∀ (i : Nat) r, x.Runs[i]? = some r → 1 ≤ r ∧ r ≤ 60
def Good (n : Network) : Prop := (2 ≤ n.Stops.length ∧ n.Stops.length ≤ 8) ∧ (1 ≤ n.Lines.length ∧ n.Lines.length ≤ 5) ∧ NamesP n.Stops ∧ NamesP (n.Lines.map (·.Name)) ∧ ∀ (i : Nat) x, n.Lines[i]? = some x → LineP n.Stops.length x
noncomputable instance (l : List ByteArray) : Decidable (NamesP l) := Classical.propDecidable _
noncomputable instance (st : Nat) (x : Line) : Decidable (LineP st x) := Classical.propDecidable _
noncomputable instance (n : Network) : Decidable (Good n) := Classical.propDecidable _
/-- No list is too long. -/
def Bd (n : Network) : Prop := n.Stops.length ≤ 1100000 ∧ n.Lines.length ≤ 1100000 ∧ ∀ x ∈ n.Lines, x.Stops.length ≤ 1100000 ∧ x.Runs.length ≤ 1100000

theorem areNames_eq (l : List ByteArray) (hl : l.length ≤ 1100000) : i_areNames l = some (decide (NamesP l)) := by
  unfold i_areNames
  rw [all_val (hd := Classical.propDecidable _) l (fun i x => NameOK x ∧ fixI (fun e => x.toList == e.toList) l = (i : Int)) (fun i x hx => ?_) (by unfold i_areNames_L1; simp)]
  · by_cases h : NamesP l
    · rw [if_pos (show ∀ (i : Nat) x, l[i]? = some x → NameOK x ∧ fixI (fun e => x.toList == e.toList) l = (i : Int) from h)]; simp [h]
    · rw [if_neg (show ¬ ∀ (i : Nat) x, l[i]? = some x → NameOK x ∧ fixI (fun e => x.toList == e.toList) l = (i : Int) from h)]; simp [h]
  · have hi := (List.getElem?_eq_some_iff.1 hx).1
    unfold i_areNames_L1
    have hlt : decide ((i : Int) < (l.length : Int)) = true := by simp; omega
    simp only [hlt, if_true, idx_nat, hx, Option.bind_some, isName_eq, index_str_eq l (by omega), w64_succ (n := i) (by omega)]
    by_cases h1 : NameOK x
    · by_cases h2 : fixI (fun e => x.toList == e.toList) l = (i : Int)
      · left; simp [h1, h2]
      · right; simp [h1, h2]
    · right; simp [h1]

theorem lineNames_eq (n : Network) (hl : n.Lines.length ≤ 1100000) : i_lineNames n = some (n.Lines.map (·.Name)) := by
  unfold i_lineNames
  rw [chk_of (by omega)]
  simp only [Option.bind_some]
  rw [fill_loop (fun x : Line => x.Name) n.Lines _ (by simp) (fun i a x y ha hy hx => ?_) (fun a ha => ?_)]
  · rfl
  · have hi := (List.getElem?_eq_some_iff.1 hx).1
    unfold i_lineNames_L1
    have hlt : decide ((i : Int) < (n.Lines.length : Int)) = true := by simp; omega
    simp only [hlt, if_true, idx_nat, hx, hy, Option.bind_some, w64_succ (n := i) (by omega), Int.toNat_natCast]
  · unfold i_lineNames_L1; simp

theorem isStop_eq (n : Network) (e : Int) : i_isStop n e = some (decide (0 ≤ e ∧ e < (n.Stops.length : Int))) := by
  unfold i_isStop
  by_cases h : 0 ≤ e <;> simp [h]
theorem isLine_eq (n : Network) (e : Int) : i_isLine n e = some (decide (0 ≤ e ∧ e < (n.Lines.length : Int))) := by
  unfold i_isLine
  by_cases h : 0 ≤ e <;> simp [h]

theorem isValidLine_eq (n : Network) (l : Line) (h1 : l.Stops.length ≤ 1100000) (h2 : l.Runs.length ≤ 1100000) : i_isValidLine n l = some (decide (LineP n.Stops.length l)) := by
  unfold i_isValidLine
  rw [within_eq]
  have e0 : w64 ((l.Stops.length : Int) - 1) = (l.Stops.length : Int) - 1 := w64_id (by omega)
  simp only [Option.bind_some, e0]
  by_cases a1 : 2 ≤ l.Stops.length ∧ l.Stops.length ≤ 6
  · have d1 : decide ((2 : Int) ≤ (l.Stops.length : Int) ∧ (l.Stops.length : Int) ≤ 6) = true := by simp; omega
    simp only [d1, Bool.not_true, Bool.false_eq_true, if_false]
    by_cases a2 : (l.Runs.length : Int) = (l.Stops.length : Int) - 1
    · have d2 : ((l.Runs.length : Int) != (l.Stops.length : Int) - 1) = false := by simp [a2]
      simp only [d2, Option.bind_some, Bool.false_eq_true, if_false]
      rw [all_val (hd := Classical.propDecidable _) l.Stops (fun i e => (0 ≤ e ∧ e < (n.Stops.length : Int)) ∧ fixI (fun y => e == y) l.Stops = (i : Int)) (fun i x hx => ?_) (by unfold i_isValidLine_L1; simp)]
      · rw [all_val (hd := Classical.propDecidable _) l.Runs (fun i r => 1 ≤ r ∧ r ≤ 60) (fun i x hx => ?_) (by unfold i_isValidLine_L2; simp)]
        · by_cases b1 : ∀ (i : Nat) e, l.Stops[i]? = some e → (0 ≤ e ∧ e < (n.Stops.length : Int)) ∧ fixI (fun y => e == y) l.Stops = (i : Int)
          · rw [if_pos b1]
            by_cases b2 : ∀ (i : Nat) r, l.Runs[i]? = some r → 1 ≤ r ∧ r ≤ 60
            · rw [if_pos b2]
              have : LineP n.Stops.length l := ⟨a1, a2, b1, b2⟩
              simp [this]
            · rw [if_neg b2]
              have : ¬ LineP n.Stops.length l := fun h => b2 h.2.2.2
              simp [this]
          · rw [if_neg b1]
            have : ¬ LineP n.Stops.length l := fun h => b1 h.2.2.1
            simp [this]
        · have hi := (List.getElem?_eq_some_iff.1 hx).1
          unfold i_isValidLine_L2
          have hlt : decide ((i : Int) < (l.Runs.length : Int)) = true := by simp; omega
          simp only [hlt, if_true, idx_nat, hx, Option.bind_some, within_eq, w64_succ (n := i) (by omega)]
          by_cases b : 1 ≤ x ∧ x ≤ 60
          · left; simp [b]
          · right; simp [b]
      · have hi := (List.getElem?_eq_some_iff.1 hx).1
        unfold i_isValidLine_L1
        have hlt : decide ((i : Int) < (l.Stops.length : Int)) = true := by simp; omega
        simp only [hlt, if_true, idx_nat, hx, Option.bind_some, isStop_eq, index_int_eq l.Stops (by omega), w64_succ (n := i) (by omega)]
        by_cases b1 : 0 ≤ x ∧ x < (n.Stops.length : Int)
        · by_cases b2 : fixI (fun y => x == y) l.Stops = (i : Int)
          · left; simp [b1, b2]
          · right; simp [b1, b2]
        · right; simp [b1]
    · have d2 : ((l.Runs.length : Int) != (l.Stops.length : Int) - 1) = true := by simp [a2]
      have : ¬ LineP n.Stops.length l := fun h => a2 h.2.1
      simp [d2, this]
  · have d1 : decide ((2 : Int) ≤ (l.Stops.length : Int) ∧ (l.Stops.length : Int) ≤ 6) = false := by simp; omega
    have : ¬ LineP n.Stops.length l := fun h => a1 h.1
    simp [d1, this]

theorem l2Line_eq (l : Line) (st : Nat) (hst : st ≤ 1100000) (h1 : l.Stops.length ≤ 1100000) (h2 : l.Runs.length ≤ 1100000) : s_l2Line l (st : Int) = some (decide (NameOK l.Name ∧ LineP st l)) := by
  unfold s_l2Line
  rw [l2Name_eq]
  have e0 : w64 ((l.Stops.length : Int) - 1) = (l.Stops.length : Int) - 1 := w64_id (by omega)
  have e1 : w64 ((st : Int) - 1) = (st : Int) - 1 := w64_id (by omega)
  simp only [Option.bind_some, e0, l1In_eq]
  by_cases a0 : NameOK l.Name
  · simp only [a0, decide_true, Bool.not_true, Bool.false_eq_true, if_false, true_and]
    by_cases a1 : 2 ≤ l.Stops.length ∧ l.Stops.length ≤ 6
    · have d1 : decide ((2 : Int) ≤ (l.Stops.length : Int) ∧ (l.Stops.length : Int) ≤ 6) = true := by simp; omega
      simp only [d1, Bool.not_true, Bool.false_eq_true, if_false]
      by_cases a2 : (l.Runs.length : Int) = (l.Stops.length : Int) - 1
      · have d2 : ((l.Runs.length : Int) != (l.Stops.length : Int) - 1) = false := by simp [a2]
        simp only [d2, Option.bind_some, Bool.false_eq_true, if_false]
        rw [all_val (hd := Classical.propDecidable _) l.Stops (fun i e => (0 ≤ e ∧ e < (st : Int)) ∧ fixI (fun y => e == y) l.Stops = (i : Int)) (fun i x hx => ?_) (by unfold s_l2Line_L1; simp)]
        · rw [all_val (hd := Classical.propDecidable _) l.Runs (fun i r => 1 ≤ r ∧ r ≤ 60) (fun i x hx => ?_) (by unfold s_l2Line_L2; simp)]
          · by_cases b1 : ∀ (i : Nat) e, l.Stops[i]? = some e → (0 ≤ e ∧ e < (st : Int)) ∧ fixI (fun y => e == y) l.Stops = (i : Int)
            · rw [if_pos b1]
              by_cases b2 : ∀ (i : Nat) r, l.Runs[i]? = some r → 1 ≤ r ∧ r ≤ 60
              · rw [if_pos b2]
                have : LineP st l := ⟨a1, a2, b1, b2⟩
                simp [this]
              · rw [if_neg b2]
                have : ¬ LineP st l := fun h => b2 h.2.2.2
                simp [this]
            · rw [if_neg b1]
              have : ¬ LineP st l := fun h => b1 h.2.2.1
              simp [this]
          · have hi := (List.getElem?_eq_some_iff.1 hx).1
            unfold s_l2Line_L2
            have hlt : decide ((i : Int) < (l.Runs.length : Int)) = true := by simp; omega
            simp only [hlt, if_true, idx_nat, hx, Option.bind_some, l1In_eq, w64_succ (n := i) (by omega)]
            by_cases b : 1 ≤ x ∧ x ≤ 60
            · left; simp [b]
            · right; simp [b]
        · have hi := (List.getElem?_eq_some_iff.1 hx).1
          unfold s_l2Line_L1
          have hlt : decide ((i : Int) < (l.Stops.length : Int)) = true := by simp; omega
          simp only [hlt, if_true, idx_nat, hx, Option.bind_some, l1In_eq, e1, l2Place_eq l (by omega), w64_succ (n := i) (by omega)]
          by_cases b1 : 0 ≤ x ∧ x < (st : Int)
          · have d3 : decide (0 ≤ x ∧ x ≤ (st : Int) - 1) = true := by simp; omega
            by_cases b2 : fixI (fun y => x == y) l.Stops = (i : Int)
            · left; simp only [d3]; simp [b1, b2]
            · right; simp only [d3]; simp [b1, b2]
          · have d3 : decide (0 ≤ x ∧ x ≤ (st : Int) - 1) = false := by simp; omega
            right; simp only [d3]; simp [b1]
      · have d2 : ((l.Runs.length : Int) != (l.Stops.length : Int) - 1) = true := by simp [a2]
        have : ¬ LineP st l := fun h => a2 h.2.1
        simp [d2, this]
    · have d1 : decide ((2 : Int) ≤ (l.Stops.length : Int) ∧ (l.Stops.length : Int) ≤ 6) = false := by simp; omega
      have : ¬ LineP st l := fun h => a1 h.1
      simp [d1, this]
  · simp [a0]

theorem valid_eq (n : Network) (h : Bd n) : i_IsValidNetwork n = some (decide (Good n)) := by
  obtain ⟨h1, h2, h3⟩ := h
  unfold i_IsValidNetwork
  simp only [within_eq, Option.bind_some, areNames_eq n.Stops h1, lineNames_eq n h2, areNames_eq (n.Lines.map (·.Name)) (by simpa using h2)]
  by_cases a1 : 2 ≤ n.Stops.length ∧ n.Stops.length ≤ 8
  · have d1 : decide ((2 : Int) ≤ (n.Stops.length : Int) ∧ (n.Stops.length : Int) ≤ 8) = true := by simp; omega
    simp only [d1, Bool.not_true, Bool.false_eq_true, if_false]
    by_cases a2 : 1 ≤ n.Lines.length ∧ n.Lines.length ≤ 5
    · have d2 : decide ((1 : Int) ≤ (n.Lines.length : Int) ∧ (n.Lines.length : Int) ≤ 5) = true := by simp; omega
      simp only [d2, Bool.not_true, Bool.false_eq_true, if_false]
      by_cases a3 : NamesP n.Stops
      · simp only [a3, decide_true, Bool.not_true, Bool.false_eq_true, if_false]
        by_cases a4 : NamesP (n.Lines.map (·.Name))
        · simp only [a4, decide_true, Bool.not_true, Option.bind_some, Bool.false_eq_true, if_false]
          rw [all_val (hd := Classical.propDecidable _) n.Lines (fun i x => LineP n.Stops.length x) (fun i x hx => ?_) (by unfold i_IsValidNetwork_L1; simp)]
          · by_cases b1 : ∀ (i : Nat) x, n.Lines[i]? = some x → LineP n.Stops.length x
            · rw [if_pos b1]
              have : Good n := ⟨a1, a2, a3, a4, b1⟩
              simp [this]
            · rw [if_neg b1]
              have : ¬ Good n := fun h => b1 h.2.2.2.2
              simp [this]
          · have hi := (List.getElem?_eq_some_iff.1 hx).1
            obtain ⟨g1, g2⟩ := h3 x (List.mem_of_getElem? hx)
            unfold i_IsValidNetwork_L1
            have hlt : decide ((i : Int) < (n.Lines.length : Int)) = true := by simp; omega
            simp only [hlt, if_true, idx_nat, hx, Option.bind_some, isValidLine_eq n x g1 g2, w64_succ (n := i) (by omega)]
            by_cases b : LineP n.Stops.length x
            · left; simp [b]
            · right; simp [b]
        · have : ¬ Good n := fun h => a4 h.2.2.2.1
          simp [a4, this]
      · have : ¬ Good n := fun h => a3 h.2.2.1
        simp [a3, this]
    · have d2 : decide ((1 : Int) ≤ (n.Lines.length : Int) ∧ (n.Lines.length : Int) ≤ 5) = false := by simp; omega
      have : ¬ Good n := fun h => a2 h.2.1
      simp [d2, this]
  · have d1 : decide ((2 : Int) ≤ (n.Stops.length : Int) ∧ (n.Stops.length : Int) ≤ 8) = false := by simp; omega
    have : ¬ Good n := fun h => a1 h.1
    simp [d1, this]

theorem good_eq (n : Network) (h : Bd n) : s_l2Good n = some (decide (Good n)) := by
  obtain ⟨h1, h2, h3⟩ := h
  unfold s_l2Good
  simp only [l1In_eq, Option.bind_some]
  by_cases a1 : 2 ≤ n.Stops.length ∧ n.Stops.length ≤ 8
  · have d1 : decide ((2 : Int) ≤ (n.Stops.length : Int) ∧ (n.Stops.length : Int) ≤ 8) = true := by simp; omega
    simp only [d1, Bool.not_true, Bool.false_eq_true, if_false]
    by_cases a2 : 1 ≤ n.Lines.length ∧ n.Lines.length ≤ 5
    · have d2 : decide ((1 : Int) ≤ (n.Lines.length : Int) ∧ (n.Lines.length : Int) ≤ 5) = true := by simp; omega
      simp only [d2, Bool.not_true, Option.bind_some, Bool.false_eq_true, if_false]
      rw [all_val (hd := Classical.propDecidable _) n.Stops (fun i x => NameOK x ∧ fixI (fun e => x.toList == e.toList) n.Stops = (i : Int)) (fun i x hx => ?_) (by unfold s_l2Good_L1; simp)]
      · rw [all_val (hd := Classical.propDecidable _) n.Lines (fun i x => (NameOK x.Name ∧ LineP n.Stops.length x) ∧ fixI (fun e => x.Name.toList == e.toList) (n.Lines.map (·.Name)) = (i : Int)) (fun i x hx => ?_) (by unfold s_l2Good_L2; simp)]
        · by_cases b1 : NamesP n.Stops
          · rw [if_pos (show ∀ (i : Nat) x, n.Stops[i]? = some x → NameOK x ∧ fixI (fun e => x.toList == e.toList) n.Stops = (i : Int) from b1)]
            by_cases b2 : ∀ (i : Nat) x, n.Lines[i]? = some x → (NameOK x.Name ∧ LineP n.Stops.length x) ∧ fixI (fun e => x.Name.toList == e.toList) (n.Lines.map (·.Name)) = (i : Int)
            · rw [if_pos b2]
              have : Good n := ⟨a1, a2, b1, fun i y hy => by
                rw [List.getElem?_map] at hy
                obtain ⟨x, hx, rfl⟩ := Option.map_eq_some_iff.1 hy
                exact ⟨(b2 i x hx).1.1, (b2 i x hx).2⟩, fun i x hx => (b2 i x hx).1.2⟩
              simp [this]
            · rw [if_neg b2]
              have : ¬ Good n := fun h => b2 fun i x hx => by
                have h4 := h.2.2.2.1 i x.Name (by rw [List.getElem?_map, hx]; rfl)
                exact ⟨⟨h4.1, h.2.2.2.2 i x hx⟩, h4.2⟩
              simp [this]
          · rw [if_neg (show ¬ ∀ (i : Nat) x, n.Stops[i]? = some x → NameOK x ∧ fixI (fun e => x.toList == e.toList) n.Stops = (i : Int) from b1)]
            have : ¬ Good n := fun h => b1 h.2.2.1
            simp [this]
        · have hi := (List.getElem?_eq_some_iff.1 hx).1
          obtain ⟨g1, g2⟩ := h3 x (List.mem_of_getElem? hx)
          unfold s_l2Good_L2
          have hlt : decide ((i : Int) < (n.Lines.length : Int)) = true := by simp; omega
          simp only [hlt, if_true, idx_nat, hx, Option.bind_some, l2Line_eq x n.Stops.length h1 g1 g2, l2LineNamed_eq n (by omega), w64_succ (n := i) (by omega)]
          by_cases b1 : NameOK x.Name ∧ LineP n.Stops.length x
          · by_cases b2 : fixI (fun e => x.Name.toList == e.toList) (n.Lines.map (·.Name)) = (i : Int)
            · left; simp [b1, b2]
            · right; simp [b1, b2]
          · right; simp [b1]
      · have hi := (List.getElem?_eq_some_iff.1 hx).1
        unfold s_l2Good_L1
        have hlt : decide ((i : Int) < (n.Stops.length : Int)) = true := by simp; omega
        simp only [hlt, if_true, idx_nat, hx, Option.bind_some, l2Name_eq, l2Find_eq n.Stops (by omega), w64_succ (n := i) (by omega)]
        by_cases b1 : NameOK x
        · by_cases b2 : fixI (fun e => x.toList == e.toList) n.Stops = (i : Int)
          · left; simp [b1, b2]
          · right; simp [b1, b2]
        · right; simp [b1]
    · have d2 : decide ((1 : Int) ≤ (n.Lines.length : Int) ∧ (n.Lines.length : Int) ≤ 5) = false := by simp; omega
      have : ¬ Good n := fun h => a2 h.2.1
      simp [d2, this]
  · have d1 : decide ((2 : Int) ≤ (n.Stops.length : Int) ∧ (n.Stops.length : Int) ≤ 8) = false := by simp; omega
    have : ¬ Good n := fun h => a1 h.1
    simp [d1, this]
/-! Copies, reversed lists, the reversed line. -/
theorem cloneI_eq (l : List Int) (h : l.length ≤ 1100000) : slices_Clone_int l = some l := by
  unfold slices_Clone_int
  rw [chk_of (by simp; omega)]; rfl
theorem cloneS_eq (l : List ByteArray) (h : l.length ≤ 1100000) : slices_Clone_string l = some l := by
  unfold slices_Clone_string
  rw [chk_of (by simp; omega)]; rfl
theorem copyLine_eq (x : Line) (h1 : x.Stops.length ≤ 1100000) (h2 : x.Runs.length ≤ 1100000) : i_copyLine x = some x := by
  unfold i_copyLine
  rw [cloneI_eq _ h1, cloneI_eq _ h2]; rfl
theorem l1Own_eq (l : List Int) (h : l.length ≤ 1100000) : s_l1Own_f l = some l := by
  unfold s_l1Own_f
  rw [chk_of (by simp; omega)]; rfl
theorem l2Own_eq (n : Network) (h : Bd n) : s_l2Own n = some n := by
  obtain ⟨h1, h2, h3⟩ := h
  unfold s_l2Own
  rw [chk_of (by simp; omega)]
  simp only [Option.bind_some]
  rw [app_loop (fun x : Line => x) n.Lines (fun i a x ha hx => ?_) (fun a ha => ?_)]
  · simp only [Option.bind_some, List.map_id', List.nil_append]
  · have hi := (List.getElem?_eq_some_iff.1 hx).1
    obtain ⟨g1, g2⟩ := h3 x (List.mem_of_getElem? hx)
    unfold s_l2Own_L1
    have hlt : decide ((i : Int) < (n.Lines.length : Int)) = true := by simp; omega
    have hch : ∀ y : Line, chk (a.length + ([y] : List Line).length ≤ 4294967296) = some () := fun y => chk_of (by simp; omega)
    simp only [hlt, if_true, idx_nat, hx, Option.bind_some, l1Own_eq _ g1, l1Own_eq _ g2, hch, w64_succ (n := i) (by omega)]
  · unfold s_l2Own_L1; simp
/-- The network with the reversed line. -/
def Rev (n : Network) (e : Line) (name : ByteArray) : Network := ⟨n.Stops, n.Lines ++ [⟨name, e.Stops.reverse, e.Runs.reverse⟩]⟩
def Asked (n : Network) (line : Int) (name : ByteArray) : Prop := Good n ∧ 0 ≤ line ∧ ∃ e, n.Lines[line.toNat]? = some e ∧ Good (Rev n e name)
theorem good_lines {n : Network} (h : Good n) : n.Lines.length ≤ 5 := h.2.1.2
theorem rev_bd {n : Network} {e : Line} {name : ByteArray} (h : Bd n) (hg : Good n) (he : e ∈ n.Lines) : Bd (Rev n e name) := by
  obtain ⟨h1, h2, h3⟩ := h
  have := good_lines hg
  refine ⟨h1, by simp [Rev]; omega, fun x hx => ?_⟩
  rcases List.mem_append.1 hx with hx | hx
  · exact h3 x hx
  · simp at hx
    subst hx
    obtain ⟨g1, g2⟩ := h3 e he
    exact ⟨by simpa using g1, by simpa using g2⟩

/-! The draws: they answer, with bounds. -/
/-- A drawn line. -/
def LB (x : Line) : Prop := (2 ≤ x.Stops.length ∧ x.Stops.length ≤ 10) ∧ 1 ≤ x.Runs.length ∧ x.Runs.length ≤ 10
def NB (n : Network) : Prop := (2 ≤ n.Stops.length ∧ n.Stops.length ≤ 6) ∧ (1 ≤ n.Lines.length ∧ n.Lines.length ≤ 8) ∧ ∀ x ∈ n.Lines, LB x
theorem NB.bd {n : Network} (h : NB n) : Bd n := ⟨by have := h.1; omega, by have := h.2.1; omega, fun x hx => by have := h.2.2 x hx; unfold LB at this; omega⟩
theorem six_len (i : Nat) (h2 : 2 ≤ i) (h6 : i ≤ 6) (l : List ByteArray) (hl : l.length = 6) : 2 ≤ ((l.take i).drop (0 : Int).toNat).length ∧ ((l.take i).drop (0 : Int).toNat).length ≤ 6 := by
  simp; omega

/-! Timetables: when they are valid. -/
def TB (t : Timetable) : Prop := Bd t.Network ∧ t.Trips.length ≤ 1100000
def TripP (n : Network) (x : Trip) : Prop := (1 ≤ x.Id ∧ x.Id ≤ 999) ∧ ∃ l, idx n.Lines x.Line = some l ∧ (0 ≤ x.Start ∧ x.Start ≤ 1799) ∧ 0 ≤ x.Start + l.Runs.sum ∧ x.Start + l.Runs.sum ≤ 1799
def GoodT (t : Timetable) : Prop := Good t.Network ∧ t.Trips.length ≤ 12 ∧ (∀ (i : Nat) x, t.Trips[i]? = some x → TripP t.Network x) ∧ ∀ (i : Nat) a b, t.Trips[i]? = some a → t.Trips[i + 1]? = some b → a.Id < b.Id
noncomputable instance (t : Timetable) : Decidable (GoodT t) := Classical.propDecidable _
noncomputable instance (n : Network) (x : Trip) : Decidable (TripP n x) := Classical.propDecidable _
theorem time_eq (t : Int) : i_IsValidTime t = some (decide (0 ≤ t ∧ t ≤ 1799)) := by
  unfold i_IsValidTime; rw [within_eq]; rfl
theorem l4Time_eq (t : Int) : s_l4Time t = some (decide (0 ≤ t ∧ t ≤ 1799)) := by
  unfold s_l4Time; rw [l1In_eq]; rfl
theorem total_eq (l : List Int) (h1 : l.length ≤ 1000000) (h2 : ∀ x ∈ l, 0 ≤ x ∧ x ≤ 1000000) : i_total l = some l.sum := by
  unfold i_total
  rw [sum_loop (fun x : Int => x) l h1 h2 (fun i s x hx => ?_) (fun s => ?_)]
  · simp
  · have := get_lt hx
    unfold i_total_L1
    simp (disch := omega) only [if_pos, if_neg, decide_eq_true_eq, decide_true, decide_false, Bool.not_true, Bool.not_false, Bool.false_eq_true, Bool.not_eq_true', decide_eq_false_iff_not, if_true, if_false, w64_id, chk_of, idx_nat, Option.bind_some, Option.map_some, Int.toNat_natCast, not_true_eq_false, not_false_eq_true, true_and, and_true, and_self, false_and, and_false, reduceIte, flb_go, flb_ret, beq_self_eq_true, ne_eq, bne_self_eq_false, Int.ofNat_lt.2 this, hx]
  · unfold i_total_L1; simp
theorem l2Run_eq (x : Line) (a b : Nat) (hab : a ≤ b) (hb : b ≤ x.Runs.length) (hl : x.Runs.length ≤ 1100000) (h2 : ∀ r ∈ x.Runs, 0 ≤ r ∧ r ≤ 1000000) : s_l2Run x (a : Int) (b : Int) = some (((x.Runs.take b).drop a).sum) := by
  unfold s_l2Run
  refine Tot.val (.call (P := fun v => v = ((x.Runs.take b).drop a).sum) ?_ fun v h => .ok h)
  refine .iter (fun m s => ∃ k : Nat, s.2 = ((a + k : Nat) : Int) ∧ m + k = b - a ∧ s.1 = (((x.Runs.take b).drop a).take k).sum) (n := b - a) ⟨0, by simp, by omega, by simp⟩ ?_
  rintro m ⟨s, v⟩ ⟨k, hk, hm, hs⟩
  simp only at hk hs
  subst hk
  unfold s_l2Run_L1
  refine .iteP (fun hc => ?_) (fun hc => .dn ?_)
  · obtain ⟨r, hr⟩ := get_ex (l := x.Runs) (i := a + k) (by omega)
    have hr2 : ((x.Runs.take b).drop a)[k]? = some r := by
      rw [List.getElem?_drop, List.getElem?_take_of_lt (by omega)]; exact hr
    have hb1 := h2 r (List.mem_of_getElem? hr)
    have hb2 := sum_bd (l := ((x.Runs.take b).drop a).take k) (M := 1000000) fun y hy => h2 y (List.mem_of_mem_take (List.mem_of_mem_drop (List.mem_of_mem_take hy)))
    have hlen : ((((x.Runs.take b).drop a).take k).length : Int) ≤ 1100000 := by simp; omega
    rw [← hs] at hb2
    refine .eq (by rw [idx_nat]; exact hr) (.nx ⟨m - 1, by omega, k + 1, ?_, by omega, ?_⟩)
    · show w64 (((a + k : Nat) : Int) + 1) = _
      rw [w64_id (by omega)]; omega
    · show w64 (s + r) = _
      rw [w64_id (by omega), sum_take_succ hr2, hs]
  · rw [hs, List.take_of_length_le (by rw [List.length_drop, List.length_take]; omega)]
theorem good_line {n : Network} (h : Good n) {k : Int} {l : Line} (hl : idx n.Lines k = some l) : LineP n.Stops.length l := h.2.2.2.2 _ l (idx_some hl).2.2
theorem line_stop {st : Nat} {l : Line} (h : LineP st l) {j : Nat} {s : Int} (hs : l.Stops[j]? = some s) : 0 ≤ s ∧ s < (st : Int) := (h.2.2.1 j s hs).1
theorem line_runs {st : Nat} {l : Line} (h : LineP st l) : (l.Runs.length + 1 = l.Stops.length ∧ 1 ≤ l.Runs.length ∧ l.Runs.length ≤ 5) ∧ ∀ r ∈ l.Runs, 1 ≤ r ∧ r ≤ 60 := by
  obtain ⟨h1, h2, h3, h4⟩ := h
  refine ⟨by omega, fun r hr => ?_⟩
  obtain ⟨i, hi⟩ := List.getElem?_of_mem hr
  exact h4 i r hi
theorem runs_sum {st : Nat} {l : Line} (h : LineP st l) (k : Nat) : 0 ≤ (l.Runs.take k).sum ∧ (l.Runs.take k).sum ≤ 300 := by
  obtain ⟨⟨h1, h2, h3⟩, h4⟩ := line_runs h
  have := sum_bd (l := l.Runs.take k) (M := 60) fun x hx => by have := h4 x (List.mem_of_mem_take hx); omega
  have hl : ((l.Runs.take k).length : Int) ≤ 5 := by simp; omega
  omega
theorem runs_sum' {st : Nat} {l : Line} (h : LineP st l) : 0 ≤ l.Runs.sum ∧ l.Runs.sum ≤ 300 := by
  have := runs_sum h l.Runs.length
  rwa [List.take_length] at this
theorem endOf_eq {t : Timetable} (hg : Good t.Network) {x : Trip} {l : Line} (hl : idx t.Network.Lines x.Line = some l) (hs : 0 ≤ x.Start ∧ x.Start ≤ 1799) : i_endOf t x = some (x.Start + l.Runs.sum) := by
  have h := good_line hg hl
  obtain ⟨⟨h1, h2, h3⟩, h4⟩ := line_runs h
  have h5 := runs_sum' h
  unfold i_endOf
  rw [hl]
  simp only [Option.bind_some]
  rw [total_eq l.Runs (by omega) (fun x hx => by have := h4 x hx; omega)]
  simp (disch := omega) only [if_pos, if_neg, decide_eq_true_eq, decide_true, decide_false, Bool.not_true, Bool.not_false, Bool.false_eq_true, Bool.not_eq_true', decide_eq_false_iff_not, if_true, if_false, w64_id, chk_of, idx_nat, Option.bind_some, Option.map_some, Int.toNat_natCast, not_true_eq_false, not_false_eq_true, true_and, and_true, and_self, false_and, and_false, reduceIte, flb_go, flb_ret, beq_self_eq_true, ne_eq, bne_self_eq_false]
theorem l5Line_eq {t : Timetable} {i : Nat} {x : Trip} {l : Line} (hx : t.Trips[i]? = some x) (hl : idx t.Network.Lines x.Line = some l) : s_l5Line t (i : Int) = some l := by
  unfold s_l5Line
  simp (disch := omega) only [if_pos, if_neg, decide_eq_true_eq, decide_true, decide_false, Bool.not_true, Bool.not_false, Bool.false_eq_true, Bool.not_eq_true', decide_eq_false_iff_not, if_true, if_false, w64_id, chk_of, idx_nat, Option.bind_some, Option.map_some, Int.toNat_natCast, not_true_eq_false, not_false_eq_true, true_and, and_true, and_self, false_and, and_false, reduceIte, flb_go, flb_ret, beq_self_eq_true, ne_eq, bne_self_eq_false, hx, hl]
theorem l5Stops_eq {t : Timetable} {i : Nat} {x : Trip} {l : Line} (hx : t.Trips[i]? = some x) (hl : idx t.Network.Lines x.Line = some l) : s_l5Stops t (i : Int) = some l.Stops := by
  unfold s_l5Stops
  rw [l5Line_eq hx hl]; rfl
theorem l5At_eq {t : Timetable} (hg : Good t.Network) {i : Nat} {x : Trip} {l : Line} (hx : t.Trips[i]? = some x) (hl : idx t.Network.Lines x.Line = some l) (hs : 0 ≤ x.Start ∧ x.Start ≤ 1799) {k : Nat} (hk : k ≤ l.Runs.length) : s_l5At t (i : Int) (k : Int) = some (x.Start + (l.Runs.take k).sum) := by
  have h := good_line hg hl
  obtain ⟨⟨h1, h2, h3⟩, h4⟩ := line_runs h
  have h5 := runs_sum h k
  have e := l2Run_eq l 0 k (by omega) hk (by omega) (fun x hx => by have := h4 x hx; omega)
  rw [List.drop_zero] at e
  have e' : s_l2Run l 0 (k : Int) = some (l.Runs.take k).sum := e
  unfold s_l5At
  simp (disch := omega) only [if_pos, if_neg, decide_eq_true_eq, decide_true, decide_false, Bool.not_true, Bool.not_false, Bool.false_eq_true, Bool.not_eq_true', decide_eq_false_iff_not, if_true, if_false, w64_id, chk_of, idx_nat, Option.bind_some, Option.map_some, Int.toNat_natCast, not_true_eq_false, not_false_eq_true, true_and, and_true, and_self, false_and, and_false, reduceIte, flb_go, flb_ret, beq_self_eq_true, ne_eq, bne_self_eq_false, hx, l5Line_eq hx hl, e']
theorem l5End_eq {t : Timetable} (hg : Good t.Network) {i : Nat} {x : Trip} {l : Line} (hx : t.Trips[i]? = some x) (hl : idx t.Network.Lines x.Line = some l) (hs : 0 ≤ x.Start ∧ x.Start ≤ 1799) : s_l5End t (i : Int) = some (x.Start + l.Runs.sum) := by
  have h := good_line hg hl
  obtain ⟨⟨h1, h2, h3⟩, h4⟩ := line_runs h
  have e : w64 ((l.Stops.length : Int) - 1) = (l.Runs.length : Int) := by rw [w64_id (by omega)]; omega
  unfold s_l5End
  rw [l5Stops_eq hx hl]
  simp only [Option.bind_some, e, l5At_eq hg hx hl hs (Nat.le_refl _), List.take_length]
def TripsP (t : Timetable) : Prop := (∀ (i : Nat) x, t.Trips[i]? = some x → TripP t.Network x) ∧ ∀ (i : Nat) a b, t.Trips[i]? = some a → t.Trips[i + 1]? = some b → a.Id < b.Id
noncomputable instance (t : Timetable) : Decidable (TripsP t) := Classical.propDecidable _
/-- One trip's check in the program. -/
theorem trip_i {t : Timetable} (hb : TB t) (hg : Good t.Network) (x : Trip) (last : Int) (hlast : 0 ≤ last) : ((if (decide (x.Id ≤ last)) = true then some true else if (decide (999 < x.Id)) = true then some true else (i_isLine t.Network x.Line).bind fun r =>
      if (!r) = true then some true else (i_IsValidTime x.Start).bind fun r1 =>
      if (!r1) = true then some true else (i_endOf t x).bind fun r2 =>
      (i_IsValidTime r2).bind fun r3 =>
      some (!r3))) = some (!decide (last < x.Id ∧ TripP t.Network x)) := by
  by_cases c1 : x.Id ≤ last
  · have : ¬ (last < x.Id ∧ TripP t.Network x) := fun h => by omega
    simp [c1, this]
  · by_cases c2 : 999 < x.Id
    · have : ¬ (last < x.Id ∧ TripP t.Network x) := fun h => by have := h.2.1; omega
      simp [c1, c2, this]
    · simp only [isLine_eq, time_eq, Option.bind_some, c1, c2, decide_false, Bool.false_eq_true, if_false]
      by_cases c3 : 0 ≤ x.Line ∧ x.Line < (t.Network.Lines.length : Int)
      · obtain ⟨l, hl, _⟩ := idx_lt (l := t.Network.Lines) c3.1 c3.2
        by_cases c4 : 0 ≤ x.Start ∧ x.Start ≤ 1799
        · have hT : (last < x.Id ∧ TripP t.Network x) ↔ (0 ≤ x.Start + l.Runs.sum ∧ x.Start + l.Runs.sum ≤ 1799) := by
            constructor
            · rintro ⟨_, _, l', hl', _, h⟩
              rw [hl] at hl'; cases hl'; exact h
            · intro h; exact ⟨by omega, ⟨by omega, by omega⟩, l, hl, c4, h⟩
          simp only [c3, c4, and_self, decide_true, Bool.not_true, Bool.false_eq_true, if_false, endOf_eq hg hl c4, time_eq, Option.bind_some, hT]
        · have : ¬ (last < x.Id ∧ TripP t.Network x) := fun h => by
            obtain ⟨_, _, l', _, h4, _⟩ := h
            exact c4 h4
          simp only [c3, c4, this, and_self, decide_true, decide_false, Bool.not_true, Bool.not_false, Bool.false_eq_true, if_false, if_true]
      · have : ¬ (last < x.Id ∧ TripP t.Network x) := fun h => by
          obtain ⟨_, _, l', hl', _⟩ := h
          have := idx_some hl'
          exact c3 ⟨this.1, this.2.1⟩
        simp only [c3, this, decide_false, Bool.not_false, if_true]
theorem areTrips_eq {t : Timetable} (hb : TB t) (hg : Good t.Network) : i_areTrips t = some (decide (t.Trips.length ≤ 12 ∧ TripsP t)) := by
  unfold i_areTrips
  by_cases h12 : t.Trips.length ≤ 12
  · have d : decide ((12 : Int) < (t.Trips.length : Int)) = false := by simp; omega
    have e : decide (t.Trips.length ≤ 12 ∧ TripsP t) = decide (TripsP t) := by simp [h12]
    rw [d, e]
    simp only [Bool.false_eq_true, if_false]
    refine flb_dec (.iter (fun m a => ∃ i : Nat, a.2 = (i : Int) ∧ m + i = t.Trips.length ∧ 0 ≤ a.1 ∧ (∀ y, 0 < i → t.Trips[i - 1]? = some y → a.1 = y.Id) ∧ (i = 0 → a.1 = 0) ∧ (∀ (j : Nat) x, j < i → t.Trips[j]? = some x → TripP t.Network x) ∧ ∀ (j : Nat) a b, j + 1 < i → t.Trips[j]? = some a → t.Trips[j + 1]? = some b → a.Id < b.Id)
      (n := t.Trips.length) ⟨0, rfl, rfl, by simp, by simp, by simp, fun j x h => by omega, fun j a b h => by omega⟩ ?_)
    rintro m ⟨last, v⟩ ⟨i, hv, hm, h0, h1, h2, h3, h4⟩
    simp only at hv h0 h1 h2
    subst hv
    unfold i_areTrips_L1
    refine .iteP (fun hc => ?_) (fun hc => .dn (.inl ⟨rfl, fun j x hx => h3 j x (by have := get_lt hx; omega) hx, fun j a b ha hb' => h4 j a b (by have := get_lt hb'; omega) ha hb'⟩))
    obtain ⟨x, hx⟩ := get_ex (l := t.Trips) (i := i) (by omega)
    refine .eq (by rw [idx_nat]; exact hx) (.eq (trip_i hb hg x last h0) (.iteN (fun hn => .dn (.inr ⟨rfl, fun hp => hn ⟨?_, hp.1 i x hx⟩⟩)) (fun hp => .nx ⟨m - 1, by omega, i + 1, w64_succ (by omega), by omega, ?_, ?_, by simp, ?_, ?_⟩)))
    · by_cases hi : i = 0
      · rw [h2 hi]; have := (hp.1 i x hx).1; omega
      · obtain ⟨y, hy⟩ := get_ex (l := t.Trips) (i := i - 1) (by omega)
        rw [h1 y (by omega) hy]
        exact hp.2 (i - 1) y x hy (by rw [show i - 1 + 1 = i by omega]; exact hx)
    · show 0 ≤ x.Id
      have := hp.2.1; omega
    · intro y _ hy
      rw [show i + 1 - 1 = i by omega, hx] at hy; cases hy; rfl
    · intro j y hj hy
      by_cases hji : j = i
      · subst hji; rw [hx] at hy; cases hy; exact hp.2
      · exact h3 j y (by omega) hy
    · intro j a b hj ha hb'
      by_cases hji : j + 1 = i
      · subst hji; rw [hx] at hb'; cases hb'
        have := h1 a (by omega) (by simpa using ha)
        omega
      · exact h4 j a b (by omega) ha hb'
  · have d : decide ((12 : Int) < (t.Trips.length : Int)) = true := by simp; omega
    simp [d, h12]
/-- A trip is as it should be, and behind the one before it. -/
def TripQ (t : Timetable) (i : Nat) (x : Trip) : Prop := TripP t.Network x ∧ ∀ y, 0 < i → t.Trips[i - 1]? = some y → y.Id < x.Id
noncomputable instance (t : Timetable) (i : Nat) (x : Trip) : Decidable (TripQ t i x) := Classical.propDecidable _
theorem goodT_iff (t : Timetable) : GoodT t ↔ Good t.Network ∧ t.Trips.length ≤ 12 ∧ TripsP t := Iff.rfl
theorem validT_eq {t : Timetable} (hb : TB t) : i_IsValidTimetable t = some (decide (GoodT t)) := by
  unfold i_IsValidTimetable
  rw [valid_eq _ hb.1]
  by_cases hg : Good t.Network
  · simp only [hg, decide_true, if_true, Option.bind_some, areTrips_eq hb hg, goodT_iff, true_and]
  · have : ¬ GoodT t := fun h => hg h.1
    simp [hg, this]
theorem goodT_eq {t : Timetable} (hb : TB t) : s_l5Good t = some (decide (GoodT t)) := by
  unfold s_l5Good
  rw [good_eq _ hb.1]
  by_cases hg : Good t.Network
  · by_cases h12 : t.Trips.length ≤ 12
    · have d : decide ((12 : Int) < (t.Trips.length : Int)) = false := by simp; omega
      have e : decide (GoodT t) = decide (TripsP t) := by rw [decide_eq_decide, goodT_iff]; simp [hg, h12]
      simp only [hg, decide_true, Bool.not_true, Bool.false_eq_true, if_false, Option.bind_some, d, e]
      refine flb_dec (.iter (fun m a => ∃ i : Nat, a = (i : Int) ∧ m + i = t.Trips.length ∧ (∀ (j : Nat) x, j < i → t.Trips[j]? = some x → TripP t.Network x) ∧ ∀ (j : Nat) a b, j + 1 < i → t.Trips[j]? = some a → t.Trips[j + 1]? = some b → a.Id < b.Id)
        (n := t.Trips.length) ⟨0, rfl, rfl, fun j x h => by omega, fun j a b h => by omega⟩ ?_)
      rintro m v ⟨i, hv, hm, h3, h4⟩
      subst hv
      unfold s_l5Good_L1
      refine .iteP (fun hc => ?_) (fun hc => .dn (.inl ⟨rfl, fun j x hx => h3 j x (by have := get_lt hx; omega) hx, fun j a b ha hb' => h4 j a b (by have := get_lt hb'; omega) ha hb'⟩))
      obtain ⟨x, hx⟩ := get_ex (l := t.Trips) (i := i) (by omega)
      refine .eq (by rw [idx_nat]; exact hx) ?_
      have hll := hg.2.1
      have ew : w64 ((t.Network.Lines.length : Int) - 1) = (t.Network.Lines.length : Int) - 1 := w64_id (by omega)
      have key : ((s_l1In x.Id 1 999).bind fun r6 =>
      (if (!r6) = true then some true else (s_l1In x.Line 0 (w64 ((t.Network.Lines.length : Int) - 1))).bind fun r7 =>
      if (!r7) = true then some true else (s_l4Time x.Start).bind fun r8 =>
      if (!r8) = true then some true else (s_l5End t (i : Int)).bind fun r9 =>
      (s_l4Time r9).bind fun r10 =>
      if (!r10) = true then some true else if (decide (0 < (i : Int))) = true then (idx t.Trips (w64 ((i : Int) - 1))).bind fun e2 =>
      some (decide (x.Id ≤ e2.Id)) else some false)) = some (!decide (TripQ t i x)) := by
        have no : ¬ TripP t.Network x → (!decide (TripQ t i x)) = true := fun h => (by simp [show ¬ TripQ t i x from fun q => h q.1])
        simp only [l1In_eq, l4Time_eq, ew, Option.bind_some]
        by_cases c1 : 1 ≤ x.Id ∧ x.Id ≤ 999
        · by_cases c3 : 0 ≤ x.Line ∧ x.Line ≤ (t.Network.Lines.length : Int) - 1
          · obtain ⟨l, hl, _⟩ := idx_lt (l := t.Network.Lines) c3.1 (by omega)
            by_cases c4 : 0 ≤ x.Start ∧ x.Start ≤ 1799
            · simp only [c1, c3, c4, and_self, decide_true, Bool.not_true, Bool.false_eq_true, if_false, l5End_eq hg hx hl c4, l4Time_eq, Option.bind_some]
              by_cases c5 : 0 ≤ x.Start + l.Runs.sum ∧ x.Start + l.Runs.sum ≤ 1799
              · have hT : TripP t.Network x := ⟨c1, l, hl, c4, c5⟩
                simp only [c5, and_self, decide_true, Bool.not_true, Bool.false_eq_true, if_false, ]
                by_cases c6 : 0 < i
                · obtain ⟨y, hy⟩ := get_ex (l := t.Trips) (i := i - 1) (by omega)
                  have e1 : w64 ((i : Int) - 1) = ((i - 1 : Nat) : Int) := by rw [w64_id (by omega)]; omega
                  have c6' : (0 : Int) < (i : Int) := by omega
                  simp only [c6', decide_true, if_true, e1, idx_nat, hy, Option.bind_some, Option.some.injEq]
                  by_cases c7 : x.Id ≤ y.Id
                  · have : ¬ TripQ t i x := fun h => by have := h.2 y c6 hy; omega
                    simp only [c7, decide_true, this, decide_false, Bool.not_false]
                  · have : TripQ t i x := ⟨hT, fun z _ hz => by rw [hy] at hz; cases hz; omega⟩
                    simp only [c7, decide_false, this, decide_true, Bool.not_true]
                · have c6' : ¬ (0 : Int) < (i : Int) := by omega
                  have : TripQ t i x := ⟨hT, fun z h0 _ => absurd h0 c6⟩
                  simp only [c6', decide_false, Bool.false_eq_true, if_false, this, decide_true, Bool.not_true]
              · rw [no (fun hT => by
                  obtain ⟨_, l', hl', _, h⟩ := hT
                  rw [hl] at hl'; cases hl'; exact c5 h)]
                simp only [c5, decide_false, Bool.not_false, if_true]
            · rw [no (fun hT => by obtain ⟨_, l', _, h, _⟩ := hT; exact c4 h)]
              simp only [c1, c3, c4, and_self, decide_true, decide_false, Bool.not_true, Bool.not_false, Bool.false_eq_true, if_false, if_true]
          · rw [no (fun hT => by
              obtain ⟨_, l', hl', _⟩ := hT
              have := idx_some hl'
              exact c3 ⟨this.1, by omega⟩)]
            simp only [c1, c3, and_self, decide_true, decide_false, Bool.not_true, Bool.not_false, Bool.false_eq_true, if_false, if_true]
        · rw [no (fun hT => c1 hT.1)]
          simp only [c1, decide_false, Bool.not_false, if_true]
      rw [bind_assoc', key]
      refine .iteN (fun hn => .dn (.inr ⟨rfl, fun hp => hn ⟨hp.1 i x hx, fun y hi hy => hp.2 (i - 1) y x hy (by rw [show i - 1 + 1 = i by omega]; exact hx)⟩⟩)) (fun hp => .nx ⟨m - 1, by omega, i + 1, w64_succ (by omega), by omega, ?_, ?_⟩)
      · intro j y hj hy
        by_cases hji : j = i
        · subst hji; rw [hx] at hy; cases hy; exact hp.1
        · exact h3 j y (by omega) hy
      · intro j a b hj ha hb'
        by_cases hji : j + 1 = i
        · subst hji; rw [hx] at hb'; cases hb'
          exact hp.2 a (by omega) (by simpa using ha)
        · exact h4 j a b (by omega) ha hb'
    · have d : decide ((12 : Int) < (t.Trips.length : Int)) = true := by simp; omega
      have : ¬ GoodT t := fun h => h12 h.2.1
      simp [hg, d, this]
  · have : ¬ GoodT t := fun h => hg h.1
    simp [hg, this]
/-! A place in a list. -/
theorem get_nat {α : Type} {l : List α} {i : Nat} {x : α} (h : l[(i : Int).toNat]? = some x) : l[i]? = some x := by rwa [Int.toNat_natCast] at h
/-! Arguments of struct types: measured, taken over, compared. -/
def ArI (z : Int) : Prop := -9223372036854775808 ≤ z ∧ z ≤ 9223372036854775807
def ArS (s : ByteArray) : Prop := s.size ≤ maxLen
def ArL {α : Type} (Q : α → Prop) (l : List α) : Prop := l.length ≤ maxLen ∧ ∀ x ∈ l, Q x
theorem fill_ok {α : Type} (a : List α) (d : α) {step : Int × List α → Option (Lp (Int × List α) (List α))} (hl : a.length ≤ 4000000)
    (hs : ∀ (i : Nat) (x : α) (l : List α), a[i]? = some x → l.length = a.length → step ((i : Int), l) = some (.nx (((i + 1 : Nat) : Int), l.set i x)))
    (he : ∀ l : List α, step ((a.length : Int), l) = some (.dn l)) : iter step ((0 : Int), List.replicate a.length d) = some a := by
  refine Tot.val (Tot.iter (fun n (s : Int × List α) => ∃ i : Nat, n + i = a.length ∧ s.1 = (i : Int) ∧ s.2.length = a.length ∧ ∀ j, j < i → s.2[j]? = a[j]?) (n := a.length) ⟨0, by omega, rfl, by simp, fun j hj => by omega⟩ ?_)
  rintro n ⟨v, l⟩ ⟨i, hn, hv, hl2, hj⟩
  dsimp only at hv hl2 hj
  subst hv
  rcases Nat.lt_or_ge i a.length with h | h
  · obtain ⟨x, hx⟩ := get_ex h
    rw [hs i x l hx hl2]
    refine .nx ⟨n - 1, by omega, i + 1, by omega, rfl, by simp [hl2], fun j hj' => ?_⟩
    show (l.set i x)[j]? = a[j]?
    rcases Nat.lt_or_ge j i with h2 | h2
    · rw [List.getElem?_set_ne (by omega), hj j h2]
    · have : j = i := by omega
      subst this
      rw [List.getElem?_set_self (by omega), hx]
  · have : i = a.length := by omega
    subst this
    rw [he l]
    refine .dn (List.ext_getElem? fun j => ?_)
    rcases Nat.lt_or_ge j a.length with h2 | h2
    · exact hj j h2
    · rw [List.getElem?_eq_none (by omega), List.getElem?_eq_none (by omega)]
def SzR (left r : Int) (P : Prop) : Prop := r < 0 ∨ ((0 ≤ r ∧ r ≤ left) ∧ P)
theorem w64_sub {a : Int} {n : Nat} (h0 : 0 ≤ a) (h1 : a ≤ 1048576) (hn : n ≤ maxLen) : w64 (a - (n : Int)) = a - (n : Int) := by
  unfold maxLen at hn
  exact w64_id (by omega)
theorem szI_ok (a : List Int) {left : Int} (hq : a.length ≤ maxLen) (h0 : 0 ≤ left) (h1 : left ≤ 1048576) : Tot (v_szIntS a left) fun r => SzR left r ((a.length : Int) ≤ left) := by
  unfold v_szIntS
  rw [w64_sub h0 h1 hq]
  exact .iteP (fun _ => .ok (.inl (by decide))) (fun h => .ok (.inr ⟨⟨by omega, by omega⟩, by omega⟩))
theorem szT_ok (a : List Trip) {left : Int} (hq : a.length ≤ maxLen) (h0 : 0 ≤ left) (h1 : left ≤ 1048576) : Tot (v_szTripS a left) fun r => SzR left r ((a.length : Int) ≤ left) := by
  unfold v_szTripS
  rw [w64_sub h0 h1 hq]
  exact .iteP (fun _ => .ok (.inl (by decide))) (fun h => .ok (.inr ⟨⟨by omega, by omega⟩, by omega⟩))
theorem szB_ok (a : List ByteArray) {left : Int} (hq : a.length ≤ maxLen ∧ ∀ x ∈ a, x.size ≤ maxLen) (h0 : 0 ≤ left) (h1 : left ≤ 1048576) : Tot (v_szStringS a left) fun r => SzR left r ((a.length : Int) ≤ left) := by
  unfold v_szStringS
  rw [w64_sub h0 h1 hq.1]
  refine .iteP (fun _ => .ok (.inl (by decide))) (fun h => Tot.flb (Tot.iter (fun n (s : Int × Int) => ∃ i : Nat, n + i = a.length ∧ s.2 = (i : Int) ∧ 0 ≤ s.1 ∧ s.1 ≤ left) (n := a.length) ⟨0, by omega, rfl, by show 0 ≤ left - (a.length : Int); omega, by show left - (a.length : Int) ≤ left; omega⟩ ?_))
  rintro n ⟨v1, v2⟩ ⟨i, hn, hv, k0, k1⟩
  dsimp only at hv k0 k1
  subst hv
  unfold v_szStringS_L1
  dsimp only
  refine .iteP (fun hlt => .idx (by omega) hlt fun e he => ?_) (fun hge => .dn ⟨fun r hr => (by cases hr), fun u hu => (by cases hu; exact .ok (.inr ⟨⟨k0, k1⟩, by omega⟩))⟩)
  have hs := hq.2 e (List.mem_of_getElem? he)
  rw [w64_sub k0 (by omega) hs]
  refine .iteP (fun _ => .dn ⟨fun r hr => (by cases hr; exact .inl (by decide)), fun u hu => (by cases hu)⟩) (fun hge => .nx ⟨n - 1, by omega, i + 1, by omega, w64_succ (by omega), by show 0 ≤ v1 - (e.size : Int); omega, by show v1 - (e.size : Int) ≤ left; omega⟩)
def BdL (x : Line) : Prop := x.Stops.length ≤ 1048576 ∧ x.Runs.length ≤ 1048576
theorem szLn_ok (a : Line) {left : Int} (hq : ArS a.Name ∧ ArL ArI a.Stops ∧ ArL ArI a.Runs) (h0 : 0 ≤ left) (h1 : left ≤ 1048576) : Tot (v_szLine a left) fun r => SzR left r (BdL a) := by
  unfold v_szLine
  rw [w64_sub h0 h1 hq.1]
  refine .iteP (fun _ => .ok (.inl (by decide))) (fun h => .call (szI_ok _ hq.2.1.1 (by omega) (by omega)) fun r hr => .iteP (fun _ => .ok (.inl (by decide))) (fun k => ?_))
  obtain ⟨k1, k2⟩ := hr.resolve_left k
  refine .call (szI_ok _ hq.2.2.1 (by omega) (by omega)) fun r1 hr1 => .iteP (fun _ => .ok (.inl (by decide))) (fun k' => ?_)
  obtain ⟨k3, k4⟩ := hr1.resolve_left k'
  exact .ok (.inr ⟨⟨by omega, by omega⟩, by omega, by omega⟩)
theorem szLs_ok (a : List Line) {left : Int} (hq : a.length ≤ maxLen ∧ ∀ x ∈ a, ArS x.Name ∧ ArL ArI x.Stops ∧ ArL ArI x.Runs) (h0 : 0 ≤ left) (h1 : left ≤ 1048576) : Tot (v_szLineS a left) fun r => SzR left r ((a.length : Int) ≤ left ∧ ∀ x ∈ a, BdL x) := by
  unfold v_szLineS
  rw [w64_sub h0 h1 hq.1]
  refine .iteP (fun _ => .ok (.inl (by decide))) (fun h => Tot.flb (Tot.iter (fun n (s : Int × Int) => ∃ i : Nat, n + i = a.length ∧ s.2 = (i : Int) ∧ (0 ≤ s.1 ∧ s.1 ≤ left) ∧ ∀ x ∈ a.take i, BdL x) (n := a.length) ⟨0, by omega, rfl, ⟨by show 0 ≤ left - (a.length : Int); omega, by show left - (a.length : Int) ≤ left; omega⟩, by simp⟩ ?_))
  rintro n ⟨v1, v2⟩ ⟨i, hn, hv, ⟨k0, k1⟩, hb⟩
  dsimp only at hv k0 k1
  subst hv
  unfold v_szLineS_L1
  dsimp only
  refine .iteP (fun hlt => .idx (by omega) hlt fun e he => ?_) (fun hge => .dn ⟨fun r hr => (by cases hr), fun u hu => (by cases hu; exact .ok (.inr ⟨⟨k0, k1⟩, by omega, by rw [show i = a.length by omega, List.take_length] at hb; exact hb⟩))⟩)
  have hs := hq.2 e (List.mem_of_getElem? he)
  refine .call (szLn_ok e hs k0 (by omega)) fun r hr => .iteP (fun _ => .dn ⟨fun r hr => (by cases hr; exact .inl (by decide)), fun u hu => (by cases hu)⟩) (fun k => ?_)
  obtain ⟨k3, k4⟩ := hr.resolve_left k
  refine .nx ⟨n - 1, by omega, i + 1, by omega, w64_succ (by omega), ⟨k3.1, by show r ≤ left; omega⟩, fun x hx => ?_⟩
  have he := get_nat he
  rw [take_succ he, List.mem_append, List.mem_singleton] at hx
  rcases hx with hx | rfl
  · exact hb x hx
  · exact k4
def QLn (x : Line) : Prop := ArS x.Name ∧ ArL ArI x.Stops ∧ ArL ArI x.Runs
def QNet (n : Network) : Prop := ArL ArS n.Stops ∧ ArL QLn n.Lines
theorem szN_ok (a : Network) {left : Int} (hq : QNet a) (h0 : 0 ≤ left) (h1 : left ≤ 1048576) : Tot (v_szNetwork a left) fun r => SzR left r (Bd a) := by
  unfold v_szNetwork
  refine .call (szB_ok _ hq.1 h0 h1) fun r hr => .iteP (fun _ => .ok (.inl (by decide))) (fun k => ?_)
  obtain ⟨k1, k2⟩ := hr.resolve_left k
  refine .call (szLs_ok _ hq.2 (by omega) (by omega)) fun r1 hr1 => .iteP (fun _ => .ok (.inl (by decide))) (fun k' => ?_)
  obtain ⟨k3, k4, k5⟩ := hr1.resolve_left k'
  exact .ok (.inr ⟨⟨by omega, by omega⟩, by omega, by omega, fun x hx => by have := k5 x hx; unfold BdL at this; omega⟩)
theorem szTt_ok (a : Timetable) {left : Int} (hq : QNet a.Network ∧ a.Trips.length ≤ maxLen) (h0 : 0 ≤ left) (h1 : left ≤ 1048576) : Tot (v_szTimetable a left) fun r => SzR left r (TB a) := by
  unfold v_szTimetable
  refine .call (szN_ok _ hq.1 h0 h1) fun r hr => .iteP (fun _ => .ok (.inl (by decide))) (fun k => ?_)
  obtain ⟨k1, k2⟩ := hr.resolve_left k
  refine .call (szT_ok _ hq.2 (by omega) (by omega)) fun r1 hr1 => .iteP (fun _ => .ok (.inl (by decide))) (fun k' => ?_)
  obtain ⟨k3, k4⟩ := hr1.resolve_left k'
  exact .ok (.inr ⟨⟨by omega, by omega⟩, k2, by omega⟩)
theorem toI_eq (a : List Int) (h : a.length ≤ 2000000) : v_toIntS a = some a := by
  unfold v_toIntS
  have e : iter (v_toIntS_L1 a) ((0 : Int), List.replicate (a.length : Int).toNat (0 : Int)) = some a := by
    rw [Int.toNat_natCast]
    refine fill_ok a 0 (by omega) (fun i x l hx hl => ?_) (fun l => ?_)
    · have hi := get_lt hx
      obtain ⟨y, hy⟩ := get_ex (l := l) (i := i) (by omega)
      unfold v_toIntS_L1
      dsimp only
      rw [if_pos (by simp only [decide_eq_true_eq]; omega), ixs hx, Option.bind_some, ixs hy, Option.bind_some, w64_succ (by omega), Int.toNat_natCast]
    · unfold v_toIntS_L1
      dsimp only
      rw [if_neg (by simp)]
  rw [chk_of ⟨by omega, by omega⟩, Option.bind_some, e]; rfl
theorem toB_eq (a : List ByteArray) (h : a.length ≤ 2000000) : v_toStringS a = some a := by
  unfold v_toStringS
  have e : iter (v_toStringS_L1 a) ((0 : Int), List.replicate (a.length : Int).toNat ByteArray.empty) = some a := by
    rw [Int.toNat_natCast]
    refine fill_ok a ByteArray.empty (by omega) (fun i x l hx hl => ?_) (fun l => ?_)
    · have hi := get_lt hx
      obtain ⟨y, hy⟩ := get_ex (l := l) (i := i) (by omega)
      unfold v_toStringS_L1
      dsimp only
      rw [if_pos (by simp only [decide_eq_true_eq]; omega), ixs hx, Option.bind_some, ixs hy, Option.bind_some, w64_succ (by omega), Int.toNat_natCast]
    · unfold v_toStringS_L1
      dsimp only
      rw [if_neg (by simp)]
  rw [chk_of ⟨by omega, by omega⟩, Option.bind_some, e]; rfl
theorem toT_eq (a : List Trip) (h : a.length ≤ 2000000) : v_toTripS a = some a := by
  unfold v_toTripS
  have e : iter (v_toTripS_L1 a) ((0 : Int), List.replicate (a.length : Int).toNat (⟨0, 0, 0⟩ : Trip)) = some a := by
    rw [Int.toNat_natCast]
    refine fill_ok a _ (by omega) (fun i x l hx hl => ?_) (fun l => ?_)
    · have hi := get_lt hx
      obtain ⟨y, hy⟩ := get_ex (l := l) (i := i) (by omega)
      unfold v_toTripS_L1 v_toTrip
      dsimp only
      rw [if_pos (by simp only [decide_eq_true_eq]; omega), ixs hx, Option.bind_some, Option.bind_some, ixs hy, Option.bind_some, w64_succ (by omega), Int.toNat_natCast]
    · unfold v_toTripS_L1
      dsimp only
      rw [if_neg (by simp)]
  rw [chk_of ⟨by omega, by omega⟩, Option.bind_some, e]; rfl
theorem toL_eq (a : List Line) (h : a.length ≤ 2000000) (hb : ∀ x ∈ a, x.Stops.length ≤ 2000000 ∧ x.Runs.length ≤ 2000000) : v_toLineS a = some a := by
  unfold v_toLineS
  have e : iter (v_toLineS_L1 a) ((0 : Int), List.replicate (a.length : Int).toNat (⟨ByteArray.empty, ([] : List Int), ([] : List Int)⟩ : Line)) = some a := by
    rw [Int.toNat_natCast]
    refine fill_ok a _ (by omega) (fun i x l hx hl => ?_) (fun l => ?_)
    · have hi := get_lt hx
      obtain ⟨y, hy⟩ := get_ex (l := l) (i := i) (by omega)
      have hx2 := hb x (List.mem_of_getElem? hx)
      have e1 : v_toLine x = some x := by
        unfold v_toLine
        rw [toI_eq _ hx2.1, Option.bind_some, toI_eq _ hx2.2, Option.bind_some]
      unfold v_toLineS_L1
      dsimp only
      rw [if_pos (by simp only [decide_eq_true_eq]; omega), ixs hx, Option.bind_some, e1, Option.bind_some, ixs hy, Option.bind_some, w64_succ (by omega), Int.toNat_natCast]
    · unfold v_toLineS_L1
      dsimp only
      rw [if_neg (by simp)]
  rw [chk_of ⟨by omega, by omega⟩, Option.bind_some, e]; rfl
theorem toN_eq (a : Network) (h : Bd a) : v_toNetwork a = some a := by
  unfold v_toNetwork
  rw [toB_eq _ (by have := h.1; omega), Option.bind_some, toL_eq _ (by have := h.2.1; omega) (fun x hx => by have := h.2.2 x hx; omega), Option.bind_some]
theorem toTt_eq (a : Timetable) (h : TB a) : v_toTimetable a = some a := by
  unfold v_toTimetable
  rw [toN_eq _ h.1, Option.bind_some, toT_eq _ (by have := h.2; omega), Option.bind_some]
theorem sameI (l : List Int) (hl : l.length ≤ 2000000) : v_eqIntS l l = some true := by
  unfold v_eqIntS
  rw [if_neg (by simp)]
  refine Tot.val (Tot.flb (Tot.iter (fun n (v : Int) => ∃ i : Nat, n + i = l.length ∧ v = (i : Int)) (n := l.length) ⟨0, by omega, rfl⟩ ?_))
  rintro n _ ⟨i, hn, rfl⟩
  unfold v_eqIntS_L1
  dsimp only
  refine .iteP (fun hlt => .idx (by omega) hlt fun x hx => ?_) (fun hge => .dn ⟨fun r hr => (by cases hr), fun u _ => .ok rfl⟩)
  have hx2 := ixs (get_nat hx)
  rw [hx2, Option.bind_some, if_neg (by simp)]
  exact .nx ⟨n - 1, by omega, i + 1, by omega, w64_succ (by omega)⟩
theorem sameB (l : List ByteArray) (hl : l.length ≤ 2000000) : v_eqStringS l l = some true := by
  unfold v_eqStringS
  rw [if_neg (by simp)]
  refine Tot.val (Tot.flb (Tot.iter (fun n (v : Int) => ∃ i : Nat, n + i = l.length ∧ v = (i : Int)) (n := l.length) ⟨0, by omega, rfl⟩ ?_))
  rintro n _ ⟨i, hn, rfl⟩
  unfold v_eqStringS_L1
  dsimp only
  refine .iteP (fun hlt => .idx (by omega) hlt fun x hx => ?_) (fun hge => .dn ⟨fun r hr => (by cases hr), fun u _ => .ok rfl⟩)
  have hx2 := ixs (get_nat hx)
  rw [hx2, Option.bind_some, if_neg (by simp)]
  exact .nx ⟨n - 1, by omega, i + 1, by omega, w64_succ (by omega)⟩
theorem sameT (l : List Trip) (hl : l.length ≤ 2000000) : v_eqTripS l l = some true := by
  unfold v_eqTripS
  rw [if_neg (by simp)]
  refine Tot.val (Tot.flb (Tot.iter (fun n (v : Int) => ∃ i : Nat, n + i = l.length ∧ v = (i : Int)) (n := l.length) ⟨0, by omega, rfl⟩ ?_))
  rintro n _ ⟨i, hn, rfl⟩
  unfold v_eqTripS_L1
  dsimp only
  refine .iteP (fun hlt => .idx (by omega) hlt fun x hx => ?_) (fun hge => .dn ⟨fun r hr => (by cases hr), fun u _ => .ok rfl⟩)
  have hx2 := ixs (get_nat hx)
  have e : v_eqTrip x x = some true := by
    unfold v_eqTrip
    rw [if_neg (by simp), if_neg (by simp), if_neg (by simp)]
  rw [hx2, Option.bind_some, e, Option.bind_some, if_neg (by simp)]
  exact .nx ⟨n - 1, by omega, i + 1, by omega, w64_succ (by omega)⟩
theorem sameL (l : List Line) (hl : l.length ≤ 2000000) (hb : ∀ x ∈ l, x.Stops.length ≤ 2000000 ∧ x.Runs.length ≤ 2000000) : v_eqLineS l l = some true := by
  unfold v_eqLineS
  rw [if_neg (by simp)]
  refine Tot.val (Tot.flb (Tot.iter (fun n (v : Int) => ∃ i : Nat, n + i = l.length ∧ v = (i : Int)) (n := l.length) ⟨0, by omega, rfl⟩ ?_))
  rintro n _ ⟨i, hn, rfl⟩
  unfold v_eqLineS_L1
  dsimp only
  refine .iteP (fun hlt => .idx (by omega) hlt fun x hx => ?_) (fun hge => .dn ⟨fun r hr => (by cases hr), fun u _ => .ok rfl⟩)
  have hx2 := ixs (get_nat hx)
  have hxb := hb x (List.mem_of_getElem? hx)
  have e : v_eqLine x x = some true := by
    unfold v_eqLine
    rw [if_neg (by simp), sameI _ hxb.1, Option.bind_some, if_neg (by simp), sameI _ hxb.2, Option.bind_some, if_neg (by simp)]
  rw [hx2, Option.bind_some, e, Option.bind_some, if_neg (by simp)]
  exact .nx ⟨n - 1, by omega, i + 1, by omega, w64_succ (by omega)⟩
theorem sameTt (a : Timetable) (h : TB a) : v_eqTimetable a a = some true := by
  unfold v_eqTimetable v_eqNetwork
  have h1 := h.1.1
  have h2 := h.1.2.1
  have h3 := h.2
  rw [sameB _ (by omega), Option.bind_some, if_neg (by simp), sameL _ (by omega) (fun x hx => by have := h.1.2.2 x hx; omega), Option.bind_some, if_neg (by simp), Option.bind_some, if_neg (by simp), sameT _ (by omega), Option.bind_some, if_neg (by simp)]
/-! A new console; memory that is marked. -/
def QTr (x : Trip) : Prop := ArI x.Id ∧ ArI x.Line ∧ ArI x.Start
def QTt (t : Timetable) : Prop := QNet t.Network ∧ ArL QTr t.Trips
theorem sameCo (a : Console) (h : TB a.Timetable) : v_eqConsole a a = some true := by
  have e : v_eqLog a.Log a.Log = some true := by
    unfold v_eqLog
    rw [if_neg (by simp), if_neg (by simp), if_neg (by simp)]
  unfold v_eqConsole
  rw [sameTt _ h, Option.bind_some, if_neg (by simp), if_neg (by simp), e, Option.bind_some, if_neg (by simp)]
theorem ncopyN_eq (n : Network) (h : Bd n) : i_copyNetwork n = some n := by
  obtain ⟨h1, h2, h3⟩ := h
  unfold i_copyNetwork
  rw [cloneS_eq _ (by omega), chk_of (by omega)]
  simp only [Option.bind_some]
  rw [fill_loop (fun x : Line => x) n.Lines _ (by simp) (fun i a x y ha hy hx => ?_) (fun a ha => ?_)]
  · simp only [Option.bind_some, List.map_id']
  · have hi := (List.getElem?_eq_some_iff.1 hx).1
    obtain ⟨g1, g2⟩ := h3 x (List.mem_of_getElem? hx)
    unfold i_copyNetwork_L1
    have hlt : decide ((i : Int) < (n.Lines.length : Int)) = true := by simp; omega
    simp only [hlt, if_true, idx_nat, hx, hy, Option.bind_some, copyLine_eq x (by omega) (by omega), w64_succ (n := i) (by omega), Int.toNat_natCast]
  · unfold i_copyNetwork_L1; simp
theorem ncopy_eq {t : Timetable} (hb : TB t) : i_copyTimetable t = some t := by
  obtain ⟨h1, h2⟩ := hb
  unfold i_copyTimetable
  rw [ncopyN_eq _ h1, Option.bind_some]
  unfold slices_Clone_Trip
  rw [chk_of (by simp; omega)]; rfl
theorem nown_eq {t : Timetable} (hb : TB t) : s_l5Own t = some t := by
  obtain ⟨h1, h2⟩ := hb
  unfold s_l5Own
  rw [l2Own_eq _ h1, Option.bind_some, chk_of (by simp; omega)]; rfl
noncomputable def newC (t : Timetable) : Console × Bool := @ite _ (GoodT t) (Classical.propDecidable _) (⟨t, 3, ⟨ByteArray.empty, ByteArray.empty, 0⟩⟩, true) (⟨⟨⟨[], []⟩, []⟩, 0, ⟨ByteArray.empty, ByteArray.empty, 0⟩⟩, false)
theorem inew_eq {t : Timetable} (hb : TB t) : i_NewConsole t = some (newC t) := by
  unfold i_NewConsole newC
  rw [validT_eq hb, Option.bind_some]
  by_cases h : GoodT t
  · rw [decide_eq_true h, if_neg (by simp), ncopy_eq hb, Option.bind_some, if_pos h]
  · rw [decide_eq_false h, if_pos (by simp), if_neg h]
theorem snew_eq {t : Timetable} (hb : TB t) : s_NewConsole t = some (newC t) := by
  unfold s_NewConsole newC
  rw [goodT_eq hb, Option.bind_some]
  by_cases h : GoodT t
  · rw [decide_eq_true h, if_neg (by simp), nown_eq hb, Option.bind_some, if_pos h]
  · rw [decide_eq_false h, if_pos (by simp), if_neg h]
theorem newC_tb {t : Timetable} (hb : TB t) : TB (newC t).1.Timetable := by
  unfold newC
  by_cases h : GoodT t
  · rw [if_pos h]; exact hb
  · rw [if_neg h]; exact ⟨⟨by simp, by simp, by simp⟩, by simp⟩
/-! Marks -/
def BIG : Int := 1000000000000000000
noncomputable def mt (k : Int) : ByteArray := (v_markText k).getD ByteArray.empty
theorem mt_eq {k : Int} (h0 : 1 ≤ k) (h1 : k ≤ BIG) : v_markText k = some (mt k) := by
  unfold BIG at h1
  have key : ∃ s, v_markText k = some s := by
    unfold v_markText
    rw [if_neg (by rw [decide_eq_true_eq]; omega)]
    obtain ⟨s, e, hs⟩ : Tot (iter (v_markText_L1) (k, (str []))) fun s => s.size ≤ 19 := by
      refine .iter (fun m (st : Int × ByteArray) => 0 ≤ st.1 ∧ st.1 < 10 ^ m ∧ st.2.size + m = 19) (n := 19) ⟨by show 0 ≤ k; omega, by show k < 10 ^ 19; omega, rfl⟩ ?_
      rintro m ⟨a, s⟩ ⟨ha, hm, hs⟩
      dsimp only at ha hm hs
      unfold v_markText_L1
      dsimp only
      refine .iteP (fun hlt => ?_) (fun hge => .dn (by show s.size ≤ 19; omega))
      have hb : ∀ x : UInt8, (bytS [x]).size = 1 := fun x => rfl
      obtain ⟨m', rfl⟩ : ∃ m', m = m' + 1 := by
        cases m with
        | zero => simp at hm; omega
        | succ m' => exact ⟨m', rfl⟩
      have hq : a.tdiv 10 = a / 10 := Int.tdiv_eq_ediv_of_nonneg ha
      have hle : a ≤ 1000000000000000000 * 10 := by
        have h10 : (10 : Int) ^ (m' + 1) ≤ 10 ^ 19 := by
          have := Nat.pow_le_pow_right (n := 10) (by omega) (show m' + 1 ≤ 19 by omega)
          have e1 : ((10 : Nat) ^ (m' + 1) : Nat) = (10 : Int) ^ (m' + 1) := by simp
          have e2 : ((10 : Nat) ^ 19 : Nat) = (10 : Int) ^ 19 := by simp
          omega
        omega
      have hpow : (10 : Int) ^ (m' + 1) = 10 * 10 ^ m' := by rw [Int.pow_succ, Int.mul_comm]
      refine .chk (by decide) (.chk (by rw [hb]; omega) (.chk (by decide) (.nx ⟨m', by omega, ?_, ?_, ?_⟩)))
      · show 0 ≤ w64 _
        rw [hq, w64_id (by omega)]; omega
      · show w64 _ < _
        rw [hq, w64_id (by omega)]; omega
      · show (bytS _ ++ s).size + m' = 19
        rw [ByteArray.size_append, hb]; omega
    rw [e, Option.bind_some, chk_of (by show (str [109]).size + s.size ≤ 4294967296; have : (str [109]).size = 1 := rfl; omega)]
    exact ⟨_, rfl⟩
  obtain ⟨s, hs⟩ := key
  unfold mt
  rw [hs]; rfl
theorem set_step {α : Type} {a p : List α} {i : Nat} {x y : α} (hi : p.length = i) (hx : a[i]? = some x) : (p ++ a.drop i).set i y = (p ++ [y]) ++ a.drop (i + 1) ∧ (p ++ a.drop i)[i]? = some x := by
  obtain ⟨h1, h2⟩ := List.getElem?_eq_some_iff.1 hx
  subst hi
  have e : a.drop p.length = x :: a.drop (p.length + 1) := by rw [List.drop_eq_getElem_cons h1, h2]
  rw [e]
  exact ⟨by rw [List.set_append_right _ _ (Nat.le_refl _), Nat.sub_self, List.set_cons_zero, List.append_assoc]; rfl, by rw [List.getElem?_append_right (Nat.le_refl _), Nat.sub_self]; rfl⟩
noncomputable def mS (n : Nat) (k : Int) : List ByteArray := (List.range n).map fun (i : Nat) => mt (k + (i : Int))
def mI (n : Nat) (k : Int) : List Int := (List.range n).map fun (i : Nat) => k + (i : Int)
theorem rng_succ {α : Type} (f : Nat → α) (n : Nat) : (List.range (n + 1)).map f = (List.range n).map f ++ [f n] := by rw [List.range_succ, List.map_append]; rfl
theorem rng_at {α : Type} (f : Nat → α) {n i : Nat} (h : i < n) : ((List.range n).map f)[i]? = some (f i) := by rw [List.getElem?_map, List.getElem?_range h]; rfl
theorem markS_eq (a : List ByteArray) {k : Int} (h0 : 1 ≤ k) (h1 : k + a.length ≤ BIG) : v_markStringS_w a k = some (k + a.length, mS a.length k) := by
  unfold BIG at h1
  unfold v_markStringS_w
  refine Tot.val (.call (P := fun o => o = (k + a.length, mS a.length k)) (.iter (fun m (st : Int × Int × List ByteArray) => ∃ i : Nat, m + i = a.length ∧ st.1 = k + i ∧ st.2.1 = (i : Int) ∧ st.2.2 = mS i k ++ a.drop i) (n := a.length) ⟨0, by omega, by show k = k + 0; omega, rfl, rfl⟩ ?_) fun o ho => .ok (by subst ho; rfl))
  rintro m ⟨b, w, l⟩ ⟨i, hm, hb, hw, hl⟩
  dsimp only at hb hw hl
  subst hb; subst hw; subst hl
  have hml : (mS i k).length = i := by unfold mS; simp
  have hlen : (mS i k ++ a.drop i).length = a.length := by rw [List.length_append, hml, List.length_drop]; omega
  unfold v_markStringS_w_L1
  dsimp only
  refine .iteP (fun hlt => ?_) (fun hge => .dn ?_)
  · obtain ⟨x, hx⟩ := get_ex (l := a) (i := i) (by omega)
    obtain ⟨e1, e2⟩ := set_step (y := mt (k + i)) hml hx
    rw [mt_eq (by omega) (by unfold BIG; omega), Option.bind_some, ixs e2, Option.bind_some, Int.toNat_natCast, e1, w64_id (x := k + (i : Int) + 1) (by omega)]
    refine .nx ⟨m - 1, by omega, i + 1, by omega, by show k + i + 1 = k + ((i + 1 : Nat) : Int); omega, w64_succ (by omega), ?_⟩
    show _ = mS (i + 1) k ++ _
    unfold mS; rw [rng_succ]
  · have e : i = a.length := by omega
    subst e
    rw [List.drop_length, List.append_nil]
theorem markI_eq (a : List Int) {k : Int} (h0 : 1 ≤ k) (h1 : k + a.length ≤ BIG) : v_markIntS_w a k = some (k + a.length, mI a.length k) := by
  unfold BIG at h1
  unfold v_markIntS_w
  refine Tot.val (.call (P := fun o => o = (k + a.length, mI a.length k)) (.iter (fun m (st : Int × Int × List Int) => ∃ i : Nat, m + i = a.length ∧ st.1 = k + i ∧ st.2.1 = (i : Int) ∧ st.2.2 = mI i k ++ a.drop i) (n := a.length) ⟨0, by omega, by show k = k + 0; omega, rfl, rfl⟩ ?_) fun o ho => .ok (by subst ho; rfl))
  rintro m ⟨b, w, l⟩ ⟨i, hm, hb, hw, hl⟩
  dsimp only at hb hw hl
  subst hb; subst hw; subst hl
  have hml : (mI i k).length = i := by unfold mI; simp
  have hlen : (mI i k ++ a.drop i).length = a.length := by rw [List.length_append, hml, List.length_drop]; omega
  unfold v_markIntS_w_L1
  dsimp only
  refine .iteP (fun hlt => ?_) (fun hge => .dn ?_)
  · obtain ⟨x, hx⟩ := get_ex (l := a) (i := i) (by omega)
    obtain ⟨e1, e2⟩ := set_step (y := k + (i : Int)) hml hx
    rw [ixs e2, Option.bind_some, Int.toNat_natCast, e1, w64_id (x := k + (i : Int) + 1) (by omega)]
    refine .nx ⟨m - 1, by omega, i + 1, by omega, by show k + i + 1 = k + ((i + 1 : Nat) : Int); omega, w64_succ (by omega), ?_⟩
    show _ = mI (i + 1) k ++ _
    unfold mI; rw [rng_succ]
  · have e : i = a.length := by omega
    subst e
    rw [List.drop_length, List.append_nil]
theorem heldS_eq (n : Nat) {k : Int} (h0 : 1 ≤ k) (h1 : k + n ≤ BIG) : v_heldStringS (mS n k) k = some (k + n) := by
  unfold BIG at h1
  have hlen : (mS n k).length = n := by unfold mS; simp
  unfold v_heldStringS
  refine Tot.val (.flb (.iter (fun m (st : Int × Int) => ∃ i : Nat, m + i = n ∧ st.1 = k + i ∧ st.2 = (i : Int)) (n := n) ⟨0, by omega, by show k = k + 0; omega, rfl⟩ ?_))
  rintro m ⟨b, w⟩ ⟨i, hm, hb, hw⟩
  dsimp only at hb hw
  subst hb; subst hw
  unfold v_heldStringS_L1
  dsimp only
  refine .iteP (fun hlt => ?_) (fun hge => .dn ⟨fun r e => (by cases e), fun u e => (by cases e; exact .ok (by omega))⟩)
  have e2 : (mS n k)[i]? = some (mt (k + i)) := by unfold mS; exact rng_at _ (by omega)
  rw [ixs e2, Option.bind_some, mt_eq (by omega) (by unfold BIG; omega), Option.bind_some, if_neg (by simp), w64_id (x := k + (i : Int) + 1) (by omega)]
  exact .nx ⟨m - 1, by omega, i + 1, by omega, by show k + i + 1 = k + ((i + 1 : Nat) : Int); omega, w64_succ (by omega)⟩
theorem heldI_eq (n : Nat) {k : Int} (h0 : 1 ≤ k) (h1 : k + n ≤ BIG) : v_heldIntS (mI n k) k = some (k + n) := by
  unfold BIG at h1
  have hlen : (mI n k).length = n := by unfold mI; simp
  unfold v_heldIntS
  refine Tot.val (.flb (.iter (fun m (st : Int × Int) => ∃ i : Nat, m + i = n ∧ st.1 = k + i ∧ st.2 = (i : Int)) (n := n) ⟨0, by omega, by show k = k + 0; omega, rfl⟩ ?_))
  rintro m ⟨b, w⟩ ⟨i, hm, hb, hw⟩
  dsimp only at hb hw
  subst hb; subst hw
  unfold v_heldIntS_L1
  dsimp only
  refine .iteP (fun hlt => ?_) (fun hge => .dn ⟨fun r e => (by cases e), fun u e => (by cases e; exact .ok (by omega))⟩)
  have e2 : (mI n k)[i]? = some (k + i) := by unfold mI; exact rng_at _ (by omega)
  rw [ixs e2, Option.bind_some, if_neg (by simp), w64_id (x := k + (i : Int) + 1) (by omega)]
  exact .nx ⟨m - 1, by omega, i + 1, by omega, by show k + i + 1 = k + ((i + 1 : Nat) : Int); omega, w64_succ (by omega)⟩
def szL (x : Line) : Int := 1 + x.Stops.length + x.Runs.length
noncomputable def mLn (x : Line) (k : Int) : Line := ⟨mt k, mI x.Stops.length (k + 1), mI x.Runs.length (k + 1 + x.Stops.length)⟩
noncomputable def mLs : List Line → Int → List Line
  | [], _ => []
  | x :: l, k => mLn x k :: mLs l (k + szL x)
def sumL (l : List Line) : Int := (l.map szL).sum
theorem sumL_app (a b : List Line) : sumL (a ++ b) = sumL a + sumL b := by unfold sumL; rw [List.map_append, List.sum_append]
theorem sumL_nn (l : List Line) : 0 ≤ sumL l := by
  induction l with
  | nil => simp [sumL]
  | cons x l ih => unfold sumL at *; simp only [List.map_cons, List.sum_cons]; have : szL x = 1 + x.Stops.length + x.Runs.length := rfl; omega
theorem mLs_len : ∀ (l : List Line) (k : Int), (mLs l k).length = l.length
  | [], _ => rfl
  | x :: l, k => by show (mLs l _).length + 1 = _; rw [mLs_len l]; rfl
theorem mLs_app : ∀ (a b : List Line) (k : Int), mLs (a ++ b) k = mLs a k ++ mLs b (k + sumL a)
  | [], b, k => by simp [mLs, sumL]
  | x :: a, b, k => by
    show mLn x k :: mLs (a ++ b) (k + szL x) = mLn x k :: (mLs a (k + szL x) ++ _)
    rw [mLs_app a b]
    congr 3
    unfold sumL; simp only [List.map_cons, List.sum_cons]; omega
theorem mLs_at {l : List Line} {i : Nat} {x : Line} (k : Int) (h : l[i]? = some x) : (mLs l k)[i]? = some (mLn x (k + sumL (l.take i))) := by
  have hi := get_lt h
  have e : l = l.take i ++ x :: l.drop (i + 1) := by
    obtain ⟨h1, h2⟩ := List.getElem?_eq_some_iff.1 h
    rw [← h2, ← List.drop_eq_getElem_cons h1, List.take_append_drop]
  have e2 : mLs l k = mLs (l.take i) k ++ mLs (x :: l.drop (i + 1)) (k + sumL (l.take i)) := by
    rw [← mLs_app, ← e]
  have hl : (mLs (l.take i) k).length = i := by rw [mLs_len, List.length_take]; omega
  rw [e2, List.getElem?_append_right (by omega), hl, Nat.sub_self]
  rfl
theorem sumL_succ {l : List Line} {i : Nat} {x : Line} (h : l[i]? = some x) : sumL (l.take (i + 1)) = sumL (l.take i) + szL x := by
  rw [take_succ h, sumL_app]; simp [sumL]
theorem sumL_le {l : List Line} (i : Nat) : sumL (l.take i) ≤ sumL l := by
  have := sumL_app (l.take i) (l.drop i)
  rw [List.take_append_drop] at this
  have := sumL_nn (l.drop i)
  omega
theorem markL_eq (a : List Line) {k : Int} (h0 : 1 ≤ k) (hl : a.length ≤ 100000000) (h1 : k + sumL a ≤ BIG) : v_markLineS_w a k = some (k + sumL a, mLs a k) := by
  unfold BIG at h1
  unfold v_markLineS_w
  refine Tot.val (.call (P := fun o => o = (k + sumL a, mLs a k)) (.iter (fun m (st : Int × Int × List Line) => ∃ i : Nat, m + i = a.length ∧ st.1 = k + sumL (a.take i) ∧ st.2.1 = (i : Int) ∧ st.2.2 = mLs (a.take i) k ++ a.drop i) (n := a.length) ⟨0, by omega, by simp [sumL], rfl, by simp [mLs]⟩ ?_) fun o ho => .ok (by subst ho; rfl))
  rintro m ⟨b, w, l⟩ ⟨i, hm, hb, hw, hl2⟩
  dsimp only at hb hw hl2
  subst hb; subst hw; subst hl2
  have hnn := sumL_nn (a.take i)
  have hml : (mLs (a.take i) k).length = i := by rw [mLs_len, List.length_take]; omega
  have hlen : (mLs (a.take i) k ++ a.drop i).length = a.length := by rw [List.length_append, hml, List.length_drop]; omega
  unfold v_markLineS_w_L1
  dsimp only
  refine .iteP (fun hlt => ?_) (fun hge => .dn ?_)
  · obtain ⟨x, hx⟩ := get_ex (l := a) (i := i) (by omega)
    have hs := sumL_succ hx
    have hle := sumL_le (l := a) (i + 1)
    unfold szL at hs
    have e2 := (set_step (y := x) hml hx).2
    have st : ∀ y : Line, (mLs (a.take i) k ++ a.drop i).set i y = (mLs (a.take i) k ++ [y]) ++ a.drop (i + 1) := fun y => (set_step hml hx).1
    have g : ∀ y : Line, ((mLs (a.take i) k ++ [y]) ++ a.drop (i + 1))[i]? = some y := fun y => by rw [List.append_assoc, List.getElem?_append_right (by omega), hml, Nat.sub_self]; rfl
    have st2 : ∀ y z : Line, ((mLs (a.take i) k ++ [y]) ++ a.drop (i + 1)).set i z = (mLs (a.take i) k ++ [z]) ++ a.drop (i + 1) := fun y z => by rw [List.append_assoc, List.set_append_right _ _ (by omega), hml, Nat.sub_self]; simp
    rw [mt_eq (by omega) (by unfold BIG; omega), Option.bind_some, ixs e2, Option.bind_some, Int.toNat_natCast, st, ixs (g _), Option.bind_some, w64_id (x := k + sumL (a.take i) + 1) (by omega)]
    rw [markI_eq _ (by omega) (by unfold BIG; omega), Option.bind_some, st2, ixs (g _), Option.bind_some]
    dsimp only
    rw [markI_eq _ (by omega) (by unfold BIG; omega), Option.bind_some, st2]
    refine .nx ⟨m - 1, by omega, i + 1, by omega, by rw [hs]; dsimp only; omega, w64_succ (by omega), ?_⟩
    rw [take_succ hx, mLs_app]
    rfl
  · have e : i = a.length := by omega
    subst e
    rw [List.drop_length, List.append_nil, List.take_length]
theorem heldL_eq (a : List Line) {k : Int} (h0 : 1 ≤ k) (hl : a.length ≤ 100000000) (h1 : k + sumL a ≤ BIG) : v_heldLineS (mLs a k) k = some (k + sumL a) := by
  unfold BIG at h1
  have hlen := mLs_len a k
  unfold v_heldLineS
  refine Tot.val (.flb (.iter (fun m (st : Int × Int) => ∃ i : Nat, m + i = a.length ∧ st.1 = k + sumL (a.take i) ∧ st.2 = (i : Int)) (n := a.length) ⟨0, by omega, by simp [sumL], rfl⟩ ?_))
  rintro m ⟨b, w⟩ ⟨i, hm, hb, hw⟩
  dsimp only at hb hw
  subst hb; subst hw
  have hnn := sumL_nn (a.take i)
  unfold v_heldLineS_L1
  dsimp only
  refine .iteP (fun hlt => ?_) (fun hge => .dn ⟨fun r e => (by cases e), fun u e => (by cases e; exact .ok (by rw [show i = a.length by omega, List.take_length]))⟩)
  obtain ⟨x, hx⟩ := get_ex (l := a) (i := i) (by omega)
  have hs := sumL_succ hx
  have hle := sumL_le (l := a) (i + 1)
  unfold szL at hs
  have e2 := mLs_at k hx
  rw [ixs e2, Option.bind_some, mt_eq (by omega) (by unfold BIG; omega), Option.bind_some, if_neg (by simp [mLn]), Option.bind_some, w64_id (x := k + sumL (a.take i) + 1) (by omega)]
  have i1 : v_heldIntS (mLn x (k + sumL (a.take i))).Stops (k + sumL (a.take i) + 1) = some (k + sumL (a.take i) + 1 + x.Stops.length) := heldI_eq _ (by omega) (by unfold BIG; omega)
  have i2 : v_heldIntS (mLn x (k + sumL (a.take i))).Runs (k + sumL (a.take i) + 1 + x.Stops.length) = some (k + sumL (a.take i) + 1 + x.Stops.length + x.Runs.length) := heldI_eq _ (by omega) (by unfold BIG; omega)
  rw [i1, Option.bind_some, if_neg (by rw [decide_eq_true_eq]; omega), Option.bind_some, i2, Option.bind_some, if_neg (by rw [decide_eq_true_eq]; omega)]
  exact .nx ⟨m - 1, by omega, i + 1, by omega, by rw [hs]; dsimp only; omega, w64_succ (by omega)⟩
def mT (n : Nat) (k : Int) : List Trip := (List.range n).map fun (i : Nat) => ⟨k + 3 * (i : Int), k + 3 * (i : Int) + 1, k + 3 * (i : Int) + 1 + 1⟩
theorem markT_eq (a : List Trip) {k : Int} (h0 : 1 ≤ k) (hl : a.length ≤ 100000000) (h1 : k + 3 * a.length ≤ BIG) : v_markTripS_w a k = some (k + 3 * a.length, mT a.length k) := by
  unfold BIG at h1
  unfold v_markTripS_w
  refine Tot.val (.call (P := fun o => o = (k + 3 * a.length, mT a.length k)) (.iter (fun m (st : Int × Int × List Trip) => ∃ i : Nat, m + i = a.length ∧ st.1 = k + 3 * i ∧ st.2.1 = (i : Int) ∧ st.2.2 = mT i k ++ a.drop i) (n := a.length) ⟨0, by omega, by show k = k + 3 * 0; omega, rfl, rfl⟩ ?_) fun o ho => .ok (by subst ho; rfl))
  rintro m ⟨b, w, l⟩ ⟨i, hm, hb, hw, hl2⟩
  dsimp only at hb hw hl2
  subst hb; subst hw; subst hl2
  have hml : (mT i k).length = i := by unfold mT; simp
  have hlen : (mT i k ++ a.drop i).length = a.length := by rw [List.length_append, hml, List.length_drop]; omega
  unfold v_markTripS_w_L1
  dsimp only
  refine .iteP (fun hlt => ?_) (fun hge => .dn ?_)
  · obtain ⟨x, hx⟩ := get_ex (l := a) (i := i) (by omega)
    have e2 := (set_step (y := x) hml hx).2
    have st : ∀ y : Trip, (mT i k ++ a.drop i).set i y = (mT i k ++ [y]) ++ a.drop (i + 1) := fun y => (set_step hml hx).1
    have g : ∀ y : Trip, ((mT i k ++ [y]) ++ a.drop (i + 1))[i]? = some y := fun y => by rw [List.append_assoc, List.getElem?_append_right (by omega), hml, Nat.sub_self]; rfl
    have st2 : ∀ y z : Trip, ((mT i k ++ [y]) ++ a.drop (i + 1)).set i z = (mT i k ++ [z]) ++ a.drop (i + 1) := fun y z => by rw [List.append_assoc, List.set_append_right _ _ (by omega), hml, Nat.sub_self]; simp
    rw [ixs e2, Option.bind_some, Int.toNat_natCast, st, ixs (g _), Option.bind_some, st2, ixs (g _), Option.bind_some, st2]
    rw [w64_id (x := k + 3 * (i : Int) + 1) (by omega), w64_id (x := k + 3 * (i : Int) + 1 + 1) (by omega), w64_id (x := k + 3 * (i : Int) + 1 + 1 + 1) (by omega)]
    refine .nx ⟨m - 1, by omega, i + 1, by omega, by show _ = k + 3 * ((i + 1 : Nat) : Int); dsimp only; omega, w64_succ (by omega), ?_⟩
    show _ = mT (i + 1) k ++ _
    unfold mT; rw [rng_succ]
  · have e : i = a.length := by omega
    subst e
    rw [List.drop_length, List.append_nil]
theorem heldT_eq (n : Nat) {k : Int} (h0 : 1 ≤ k) (hn : n ≤ 100000000) (h1 : k + 3 * n ≤ BIG) : v_heldTripS (mT n k) k = some (k + 3 * n) := by
  unfold BIG at h1
  have hlen : (mT n k).length = n := by unfold mT; simp
  unfold v_heldTripS
  refine Tot.val (.flb (.iter (fun m (st : Int × Int) => ∃ i : Nat, m + i = n ∧ st.1 = k + 3 * i ∧ st.2 = (i : Int)) (n := n) ⟨0, by omega, by show k = k + 3 * 0; omega, rfl⟩ ?_))
  rintro m ⟨b, w⟩ ⟨i, hm, hb, hw⟩
  dsimp only at hb hw
  subst hb; subst hw
  unfold v_heldTripS_L1
  dsimp only
  refine .iteP (fun hlt => ?_) (fun hge => .dn ⟨fun r e => (by cases e), fun u e => (by cases e; exact .ok (by omega))⟩)
  have e2 : (mT n k)[i]? = some ⟨k + 3 * (i : Int), k + 3 * (i : Int) + 1, k + 3 * (i : Int) + 1 + 1⟩ := by unfold mT; exact rng_at _ (by omega)
  rw [w64_id (x := k + 3 * (i : Int) + 1) (by omega), w64_id (x := k + 3 * (i : Int) + 1 + 1) (by omega), w64_id (x := k + 3 * (i : Int) + 1 + 1 + 1) (by omega), ixs e2]
  simp only [Option.bind_some, bne_self_eq_false, Bool.false_eq_true, if_false]
  exact .nx ⟨m - 1, by omega, i + 1, by omega, by show _ = k + 3 * ((i + 1 : Nat) : Int); dsimp only; omega, w64_succ (by omega)⟩
theorem sumL_bd {l : List Line} (h : ∀ x ∈ l, x.Stops.length ≤ 1100000 ∧ x.Runs.length ≤ 1100000) : sumL l ≤ 2200001 * l.length := by
  induction l with
  | nil => simp [sumL]
  | cons x l ih =>
    have h1 := h x (List.mem_cons_self ..)
    have h2 := ih fun y hy => h y (List.mem_cons_of_mem _ hy)
    unfold sumL at *
    simp only [List.map_cons, List.sum_cons, List.length_cons]
    have : szL x = 1 + x.Stops.length + x.Runs.length := rfl
    omega
/-- A timetable marked, and looked at again. -/
theorem marks_ok {t : Timetable} (hb : TB t) : ∃ (K : Int) (A : List ByteArray) (B : List Line) (C : List Trip), v_markTimetable_a t 1 = some (K, A, B, C) ∧ 1 ≤ K ∧ v_heldTimetable ⟨⟨A, B⟩, C⟩ 1 = some K := by
  obtain ⟨⟨b1, b2, b3⟩, b4⟩ := hb
  have hs := sumL_bd (l := t.Network.Lines) fun x hx => by have := b3 x hx; omega
  have hn := sumL_nn t.Network.Lines
  refine ⟨1 + t.Network.Stops.length + sumL t.Network.Lines + 3 * t.Trips.length, mS t.Network.Stops.length 1, mLs t.Network.Lines (1 + t.Network.Stops.length), mT t.Trips.length (1 + t.Network.Stops.length + sumL t.Network.Lines), ?_, by omega, ?_⟩
  · unfold v_markTimetable_a v_markNetwork_a
    dsimp only
    rw [markS_eq _ (by omega) (by unfold BIG; omega), Option.bind_some, markL_eq _ (by omega) (by omega) (by unfold BIG; omega), Option.bind_some, Option.bind_some, markT_eq _ (by omega) (by omega) (by unfold BIG; omega), Option.bind_some]
  · unfold v_heldTimetable v_heldNetwork
    dsimp only
    rw [heldS_eq _ (by omega) (by unfold BIG; omega), Option.bind_some, if_neg (by rw [decide_eq_true_eq]; omega), heldL_eq _ (by omega) (by omega) (by unfold BIG; omega), Option.bind_some, if_neg (by rw [decide_eq_true_eq]; omega), Option.bind_some, if_neg (by rw [decide_eq_true_eq]; omega), heldT_eq _ (by omega) (by omega) (by unfold BIG; omega), Option.bind_some, if_neg (by rw [decide_eq_true_eq]; omega)]
theorem newconsole_true (aT : Timetable) (hq : QTt aT) : v_FnExactNewConsole aT = some true := by
  unfold v_FnExactNewConsole
  refine Tot.val (.call (szTt_ok _ ⟨hq.1, hq.2.1⟩ (by decide) (by decide)) fun r hr => .iteP (fun _ => .ok rfl) (fun k => ?_))
  obtain ⟨_, hb⟩ := hr.resolve_left k
  have hC := newC_tb hb
  have sC := sameCo (newC aT).1 hC
  obtain ⟨K, A, B, C, m1, m2, m3⟩ := marks_ok hb
  obtain ⟨K2, A2, B2, C2, n1, n2, n3⟩ := marks_ok hC
  rw [toTt_eq _ hb, Option.bind_some, snew_eq hb, Option.bind_some, Option.bind_some]
  have e1 : i_NewConsole (⟨(⟨aT.Network.Stops, aT.Network.Lines⟩ : Network), aT.Trips⟩ : Timetable) = some (newC aT) := inew_eq hb
  have e2 : v_eqConsole (⟨(⟨(⟨(newC aT).1.Timetable.Network.Stops, (newC aT).1.Timetable.Network.Lines⟩ : Network), (newC aT).1.Timetable.Trips⟩ : Timetable), (newC aT).1.Change, (newC aT).1.Log⟩ : Console) (newC aT).1 = some true := sC
  have e3 : v_eqTimetable (⟨(⟨aT.Network.Stops, aT.Network.Lines⟩ : Network), aT.Trips⟩ : Timetable) (⟨(⟨aT.Network.Stops, aT.Network.Lines⟩ : Network), aT.Trips⟩ : Timetable) = some true := sameTt aT hb
  have e4 : v_markTimetable_a (⟨(⟨aT.Network.Stops, aT.Network.Lines⟩ : Network), aT.Trips⟩ : Timetable) 1 = some (K, A, B, C) := m1
  have e5 : v_markConsole_a (⟨(⟨(⟨(newC aT).1.Timetable.Network.Stops, (newC aT).1.Timetable.Network.Lines⟩ : Network), (newC aT).1.Timetable.Trips⟩ : Timetable), (newC aT).1.Change, (newC aT).1.Log⟩ : Console) 1 = some (K2, A2, B2, C2) := by
    unfold v_markConsole_a
    have : v_markTimetable_a (⟨(⟨(newC aT).1.Timetable.Network.Stops, (newC aT).1.Timetable.Network.Lines⟩ : Network), (newC aT).1.Timetable.Trips⟩ : Timetable) 1 = some (K2, A2, B2, C2) := n1
    dsimp only
    rw [this]; rfl
  have e6 : ∀ (x : Int) (y : Log), v_heldConsole (⟨(⟨(⟨A2, B2⟩ : Network), C2⟩ : Timetable), x, y⟩ : Console) 1 = some K2 := fun x y => by
    unfold v_heldConsole
    dsimp only
    rw [n3, Option.bind_some, if_neg (by rw [decide_eq_true_eq]; omega)]
  have k1 : decide (K < 0) = false := decide_eq_false (by omega)
  have k2 : decide (K2 < 0) = false := decide_eq_false (by omega)
  rw [e1, Option.bind_some, e2, Option.bind_some]
  simp only [Bool.not_true, Bool.false_eq_true, if_false, beq_self_eq_true, Option.bind_some]
  rw [e3, Option.bind_some]
  simp only [Bool.not_true, Bool.false_eq_true, if_false]
  rw [e4, Option.bind_some, e5, Option.bind_some]
  simp only [k1, Bool.false_eq_true, if_false, Option.bind_some, Bool.not_true, e6, k2, bne_self_eq_false]
  rw [e1, Option.bind_some, e2, Option.bind_some]
  simp only [Bool.not_true, Bool.false_eq_true, if_false, beq_self_eq_true, Option.bind_some]
  exact .ok rfl
end Go.Proofs.Ytjahononbnbjnaa
