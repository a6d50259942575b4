/- The plain law: what the models compute, no program in sight. -/
import Derived.Test.YtjahononbnbjnaaSwM
import Derived.Test.YtjahononbnbjnaaAbTot
namespace Go.Proofs.Ytjahononbnbjnaa
open Go Go.Ab
set_option maxHeartbeats 4000000
set_option linter.unusedVariables false
set_option linter.unusedSimpArgs false
theorem qb {α β : Type} (a : α) (f : α → Option β) : (some a).bind f = f a := rfl
def Cur (k : Nat) (c : l1Cur) : Prop := 0 ≤ c.at_ ∧ c.at_ ≤ k
theorem Cur.mono {k k' : Nat} {c : l1Cur} (h : Cur k c) (hk : k ≤ k') : Cur k' c := ⟨h.1, by have := h.2; omega⟩
theorem next_ok {k : Nat} {c : l1Cur} (h : Cur k c) (hk : k ≤ 4000000000) : ∃ r, zq58 c = some r ∧ Cur (k + 1) r.2 ∧ 0 ≤ r.1 ∧ r.1 ≤ 255 := by
 obtain ⟨h0, h1⟩ := h
 have hw : w64 (c.at_ + 1) = c.at_ + 1 := w64_id (by omega)
 have hcur : ∀ s, Cur (k + 1) ⟨c.code_, w64 (c.at_ + 1), s⟩ := fun s => by rw [hw]; exact ⟨by show 0 ≤ c.at_ + 1; omega, by show c.at_ + 1 ≤ _; omega⟩
 unfold zq58
 have hv : ∃ v, (if (decide (c.at_ < (c.code_.length : Int))) = true then (idx c.code_ c.at_).bind fun e1 => some (w64 ((e1.toNat : Int))) else some 0) = some v ∧ 0 ≤ v ∧ v ≤ 255 := by
  by_cases hlt : c.at_ < c.code_.length
  ·obtain ⟨x, hx, _, _⟩ := idx_lt h0 hlt
   have := x.toNat_lt
   refine ⟨(x.toNat : Int), ?_, by omega, by omega⟩
   simp only [hlt, decide_true, if_true, hx, qb]
   rw [w64_id (by omega)]
  ·exact ⟨0, by simp [hlt], by omega, by omega⟩
 obtain ⟨v, hv, hv0, hv1⟩ := hv
 rw [hv]
 simp only [qb]
 split
 ·exact ⟨_, rfl, hcur _, hv0, hv1⟩
 ·rw [chk_of (by omega)]
  exact ⟨_, rfl, hcur _, and255 _⟩
theorem pick_ok {k : Nat} {c : l1Cur} (n : Int) (h : Cur k c) (hk : k ≤ 3000000000) : ∃ r, zq62 c n = some r ∧ Cur (k + 2) r.2 ∧ 0 ≤ r.1 ∧ (r.1 < n ∨ r.1 = 0) := by
 unfold zq62
 by_cases hn : n ≤ 1
 ·exact ⟨(0, c), by simp [hn], h.mono (by omega), by simp, .inr rfl⟩
 ·obtain ⟨r, hr, hc, h0, h1⟩ := next_ok h (by omega)
  have hn' : decide (n ≤ 1) = false := by simpa using hn
  simp only [hn', Bool.false_eq_true, if_false, hr, qb]
  have hne : chk (n ≠ 0) = some () := chk_of (by omega)
  by_cases h2 : 200 < n
  ·obtain ⟨r', hr', hc', h0', h1'⟩ := next_ok hc (by omega)
   have e1 : w64 (r.1 * 256) = r.1 * 256 := w64_id (by omega)
   have e2 : w64 (r.1 * 256 + r'.1) = r.1 * 256 + r'.1 := w64_id (by omega)
   have h3 := tmod_rng (a := r.1 * 256 + r'.1) (b := n) (by omega) (by omega)
   simp only [h2, decide_true, if_true, hr', qb, hne, e1, e2]
   exact ⟨_, rfl, hc'.mono (by omega), h3.1, .inl h3.2⟩
  ·have h2' : decide (200 < n) = false := by simpa using h2
   have h3 := tmod_rng (a := r.1) (b := n) (by omega) (by omega)
   simp only [h2', Bool.false_eq_true, if_false, qb, hne]
   exact ⟨_, rfl, hc.mono (by omega), h3.1, .inl h3.2⟩
theorem amongw_ok {k : Nat} {c : l1Cur} (l : List Int) (hl : l ≠ []) (h : Cur k c) (hk : k ≤ 3000000000) : ∃ r, zq49 c l = some r ∧ Cur (k + 2) r.2 ∧ r.1 ∈ l := by
 unfold zq49
 obtain ⟨r, hr, hc, h0, h1⟩ := pick_ok (l.length : Int) h hk
 have hpos : 0 < l.length := List.length_pos_iff.2 hl
 obtain ⟨x, hx, _, hm⟩ := idx_lt (l := l) h0 (by omega)
 simp only [hr, qb, hx]
 exact ⟨_, rfl, hc, hm⟩
theorem among_ok {k : Nat} {c : l1Cur} (l : List Int) (hl : l ≠ []) (h : Cur k c) (hk : k ≤ 3000000000) : ∃ r, zq48 c l = some r ∧ Cur (k + 2) r.2 ∧ r.1 ∈ l := by
 have : zq48 c l = zq49 c l := rfl
 rw [this]; exact amongw_ok l hl h hk
theorem one_ok {k : Nat} {c : l1Cur} (n : Int) (h : Cur k c) (hk : k ≤ 3000000000) : ∃ r, zq61 c n = some r ∧ Cur (k + 2) r.2 := by
 unfold zq61
 obtain ⟨r, hr, hc, _, _⟩ := pick_ok n h hk
 simp only [hr, qb]
 exact ⟨_, rfl, hc⟩
theorem of_ok {k : Nat} {c : l1Cur} (l : List ByteArray) (hl : l ≠ []) (h : Cur k c) (hk : k ≤ 3000000000) : ∃ r, zq59 c l = some r ∧ Cur (k + 2) r.2 ∧ r.1 ∈ l := by
 unfold zq59
 obtain ⟨r, hr, hc, h0, h1⟩ := pick_ok (l.length : Int) h hk
 have hpos : 0 < l.length := List.length_pos_iff.2 hl
 obtain ⟨x, hx, _, hm⟩ := idx_lt (l := l) h0 (by omega)
 simp only [hr, qb, hx]
 exact ⟨_, rfl, hc, hm⟩
theorem ofw_ok {k : Nat} {c : l1Cur} (l : List ByteArray) (hl : l ≠ []) (h : Cur k c) (hk : k ≤ 3000000000) : ∃ r, zq60 c l = some r ∧ Cur (k + 2) r.2 ∧ r.1 ∈ l := by
 have : zq60 c l = zq59 c l := rfl
 rw [this]; exact of_ok l hl h hk
theorem cur0 (code : List UInt8) : Cur 0 ⟨code, 0, ⟨0⟩⟩ := ⟨by show (0 : Int) ≤ 0; omega, by show (0 : Int) ≤ _; omega⟩
theorem within_eq (n lo hi : Int) : zq35 n lo hi = some (decide (lo ≤ n ∧ n ≤ hi)) := by
 unfold zq35
 by_cases h : lo ≤ n <;> simp [h]
theorem l1In_eq (n lo hi : Int) : zq67 n lo hi = some (decide (lo ≤ n ∧ n ≤ hi)) := by
 unfold zq67
 by_cases h : lo ≤ n <;> simp [h]
def ChOK (i : Nat) (c : UInt8) : Prop := (97 ≤ (c.toNat : Int) ∧ (c.toNat : Int) ≤ 122) ∨ (i ≠ 0 ∧ 48 ≤ (c.toNat : Int) ∧ (c.toNat : Int) ≤ 57)
def NameOK (s : ByteArray) : Prop := (1 ≤ s.size ∧ s.size ≤ 8) ∧ ∀ (i : Nat) c, s.data.toList[i]? = some c → ChOK i c
open Classical in
noncomputable instance (s : ByteArray) : Decidable (NameOK s) := Classical.propDecidable _
theorem size_list (s : ByteArray) : s.data.toList.length = s.size := by simp
theorem getD_of {α : Type} {l : List α} {i : Nat} {x d : α} (h : l[i]? = some x) : l.getD i d = x := by rw [List.getD_eq_getElem?_getD, h]; rfl
theorem isName_eq (s : ByteArray) : zq20 s = some (decide (NameOK s)) := by
 unfold zq20
 by_cases h1 : 1 ≤ s.size ∧ s.size ≤ 8
 ·have e1 : decide ((s.size : Int) < 1) = false := by simp; omega
  have e2 : decide (8 < (s.size : Int)) = false := by simp; omega
  simp only [e1, e2, Bool.false_eq_true, if_false, qb]
  have hsz := size_list s
  have key := Go.Ab.all_loop s.data.toList ChOK (step := zq20_L1 s) ?_ ?_ 0 0 rfl (by omega)
  ·rcases key with ⟨g1, g2⟩ | ⟨g1, g2⟩
   ·rw [g1, flb_go]
    have : NameOK s := ⟨h1, fun i c hc => g2 i c (by omega) hc⟩
    simp [this]
   ·rw [g1, flb_ret]
    have : ¬ NameOK s := fun hn => g2 fun i c _ hc => hn.2 i c hc
    simp [this]
  ·intro i x hx
   have hi := (List.getElem?_eq_some_iff.1 hx).1
   have hg : s.data.toList.getD (i : Int).toNat 0 = x := by rw [Int.toNat_natCast]; exact getD_of hx
   have hc : chk ((0 : Int) ≤ (i : Int) ∧ (i : Int) < (s.size : Int)) = some () := chk_of (by omega)
   have hlt : decide ((i : Int) < (s.size : Int)) = true := by simp; omega
   unfold zq20_L1
   simp only [hlt, if_true, hc, hg, qb, w64_succ (n := i) (by omega)]
   unfold ChOK
   by_cases a1 : (97 : Int) ≤ (x.toNat : Int)
   ·by_cases a2 : (x.toNat : Int) ≤ 122
    ·left; refine ⟨by simp [a1, a2], .inl ⟨a1, a2⟩⟩
    ·right
     refine ⟨?_, by omega⟩
     have b1 : decide ((x.toNat : Int) < 48) = false := by simp; omega
     have b2 : decide ((57 : Int) < (x.toNat : Int)) = true := by simp; omega
     have c1 : ¬ (x.toNat : Int) < 48 := by omega
     have c2 : (57 : Int) < (x.toNat : Int) := by omega
     by_cases hi0 : i = 0
     ·simp [a1, a2, hi0]
     ·have hi0' : ((i : Int) == 0) = false := by simp; omega
      simp [a1, a2, hi0', c1, c2]
   ·by_cases hi0 : i = 0
    ·right
     refine ⟨by simp [a1, hi0], by omega⟩
    ·have hi0' : ((i : Int) == 0) = false := by simp; omega
     by_cases b1 : (x.toNat : Int) < 48
     ·right
      refine ⟨by simp [a1, hi0', b1], by omega⟩
     ·by_cases b2 : (57 : Int) < (x.toNat : Int)
      ·right
       refine ⟨by simp [a1, hi0', b1, b2], by omega⟩
      ·left
       refine ⟨by simp [a1, hi0', b1, b2], .inr ⟨hi0, by omega, by omega⟩⟩
  ·unfold zq20_L1
   rw [hsz]
   simp
 ·have : ¬ NameOK s := fun h => h1 h.1
  have e : (if (decide ((s.size : Int) < 1)) = true then some true else some (decide (8 < (s.size : Int)))) = some true := by
   by_cases h2 : s.size < 1
   ·have : decide ((s.size : Int) < 1) = true := by simp; omega
    simp [this]
   ·have e1 : decide ((s.size : Int) < 1) = false := by simp; omega
    have e2 : decide (8 < (s.size : Int)) = true := by simp; omega
    simp [e1, e2]
  rw [e]
  simp [this]
theorem l2Name_eq (s : ByteArray) : zq79 s = some (decide (NameOK s)) := by
 unfold zq79
 rw [l1In_eq]
 simp only [qb]
 by_cases h1 : 1 ≤ s.size ∧ s.size ≤ 8
 ·have e1 : decide ((1 : Int) ≤ (s.size : Int) ∧ (s.size : Int) ≤ 8) = true := by simp; omega
  have hsz := size_list s
  obtain ⟨x0, hx0⟩ := get_ex (l := s.data.toList) (i := 0) (by omega)
  have hg0 : s.data.toList.getD (0 : Int).toNat 0 = x0 := getD_of hx0
  have hc0 : chk ((0 : Int) ≤ 0 ∧ 0 < (s.size : Int)) = some () := chk_of (by omega)
  simp only [e1, Bool.not_true, Bool.false_eq_true, if_false, hc0, hg0, qb]
  by_cases a0 : 97 ≤ (x0.toNat : Int) ∧ (x0.toNat : Int) ≤ 122
  ·have b1 : decide ((x0.toNat : Int) < 97) = false := by simp; omega
   have b2 : decide ((122 : Int) < (x0.toNat : Int)) = false := by simp; omega
   simp only [b1, b2, Bool.false_eq_true, if_false, qb]
   have key := Go.Ab.all_loop s.data.toList ChOK (step := zq79_L1 s) ?_ ?_ 0 0 rfl (by omega)
   ·rcases key with ⟨g1, g2⟩ | ⟨g1, g2⟩
    ·rw [g1, flb_go]
     have : NameOK s := ⟨h1, fun i c hc => g2 i c (by omega) hc⟩
     simp [this]
    ·rw [g1, flb_ret]
     have : ¬ NameOK s := fun hn => g2 fun i c _ hc => hn.2 i c hc
     simp [this]
   ·intro i x hx
    have hi := (List.getElem?_eq_some_iff.1 hx).1
    have hg : s.data.toList.getD (i : Int).toNat 0 = x := by rw [Int.toNat_natCast]; exact getD_of hx
    have hc : chk ((0 : Int) ≤ (i : Int) ∧ (i : Int) < (s.size : Int)) = some () := chk_of (by omega)
    have hlt : decide ((i : Int) < (s.size : Int)) = true := by simp; omega
    have h0 : i = 0 → x = x0 := fun h => by subst h; rw [hx0] at hx; cases hx; rfl
    unfold zq79_L1
    simp only [hlt, if_true, hc, hg, qb, w64_succ (n := i) (by omega)]
    unfold ChOK
    by_cases a1 : (x.toNat : Int) < 97
    ·have hi0 : i ≠ 0 := fun h => by have := h0 h; subst this; omega
     by_cases c1 : (x.toNat : Int) < 48
     ·right; refine ⟨by simp [a1, c1], by omega⟩
     ·by_cases c2 : (57 : Int) < (x.toNat : Int)
      ·right; refine ⟨by simp [a1, c1, c2], by omega⟩
      ·left; refine ⟨by simp [a1, c1, c2], .inr ⟨hi0, by omega, by omega⟩⟩
    ·by_cases a2 : (122 : Int) < (x.toNat : Int)
     ·right
      have c1 : ¬ (x.toNat : Int) < 48 := by omega
      have c2 : (57 : Int) < (x.toNat : Int) := by omega
      refine ⟨by simp [a1, a2, c1, c2], by omega⟩
     ·left; refine ⟨by simp [a1, a2], .inl ⟨by omega, by omega⟩⟩
   ·unfold zq79_L1
    rw [hsz]
    simp
  ·have : ¬ NameOK s := fun hn => by
    have := hn.2 0 x0 hx0
    unfold ChOK at this
    omega
   have e : (if (decide ((x0.toNat : Int) < 97)) = true then some true else some (decide ((122 : Int) < (x0.toNat : Int)))) = some true := by
    by_cases h2 : (x0.toNat : Int) < 97
    ·simp [h2]
    ·have : (122 : Int) < (x0.toNat : Int) := by omega
     simp [h2, this]
   rw [e]
   simp [this]
 ·have e1 : decide ((1 : Int) ≤ (s.size : Int) ∧ (s.size : Int) ≤ 8) = false := by simp; omega
  have : ¬ NameOK s := fun h => h1 h.1
  simp [e1, this]
theorem index_str_eq (l : List ByteArray) (hl : l.length ≤ 4000000000) (v : ByteArray) : zq97 l v = some (fixI (fun e => v.toList == e.toList) l) := by
 unfold zq97
 refine find_val l (fun e => v.toList == e.toList) (fun i x hx => ?_) (by unfold zq97_L1; simp)
 have hi := (List.getElem?_eq_some_iff.1 hx).1
 unfold zq97_L1
 have hlt : decide ((i : Int) < (l.length : Int)) = true := by simp; omega
 simp only [hlt, if_true, idx_nat, hx, qb, w64_succ (n := i) (by omega)]
 split <;> rfl
theorem index_int_eq (l : List Int) (hl : l.length ≤ 4000000000) (v : Int) : zq96 l v = some (fixI (fun e => v == e) l) := by
 unfold zq96
 refine find_val l (fun e => v == e) (fun i x hx => ?_) (by unfold zq96_L1; simp)
 have hi := (List.getElem?_eq_some_iff.1 hx).1
 unfold zq96_L1
 have hlt : decide ((i : Int) < (l.length : Int)) = true := by simp; omega
 simp only [hlt, if_true, idx_nat, hx, qb, w64_succ (n := i) (by omega)]
 split <;> rfl
theorem l2Place_eq (x : Line) (hl : x.Stops.length ≤ 4000000000) (v : Int) : zq82 x v = some (fixI (fun e => v == e) x.Stops) := by
 have hc : fixI (fun e => v == e) x.Stops = fixI (fun e => e == v) x.Stops := fixI_congr _ fun e => BEq.comm
 rw [hc]
 unfold zq82
 refine find_val x.Stops (fun e => e == v) (fun i y hx => ?_) (by unfold zq82_L1; simp)
 have hi := (List.getElem?_eq_some_iff.1 hx).1
 unfold zq82_L1
 have hlt : decide ((i : Int) < (x.Stops.length : Int)) = true := by simp; omega
 simp only [hlt, if_true, idx_nat, hx, qb, w64_succ (n := i) (by omega)]
 split <;> rfl
theorem bl_comm (a b : List UInt8) : (a == b) = (b == a) := BEq.comm
theorem l2Find_eq (l : List ByteArray) (hl : l.length ≤ 4000000000) (v : ByteArray) : zq75 l v = some (fixI (fun e => v.toList == e.toList) l) := by
 rw [fixI_congr l (q := fun e => e.toList == v.toList) fun e => bl_comm _ _]
 unfold zq75
 refine find_val l (fun e => e.toList == v.toList) (fun i x hx => ?_) (by unfold zq75_L1; simp)
 have hi := (List.getElem?_eq_some_iff.1 hx).1
 unfold zq75_L1
 have hlt : decide ((i : Int) < (l.length : Int)) = true := by simp; omega
 simp only [hlt, if_true, idx_nat, hx, qb, w64_succ (n := i) (by omega)]
 split <;> rfl
theorem l2LineNamed_eq (n : Network) (hl : n.Lines.length ≤ 4000000000) (v : ByteArray) : zq78 n v = some (fixI (fun e => v.toList == e.toList) (n.Lines.map (·.Name))) := by
 rw [fixI_map, fixI_congr n.Lines (q := fun e => e.Name.toList == v.toList) fun e => bl_comm _ _]
 unfold zq78
 refine find_val n.Lines (fun e => e.Name.toList == v.toList) (fun i x hx => ?_) (by unfold zq78_L1; simp)
 have hi := (List.getElem?_eq_some_iff.1 hx).1
 unfold zq78_L1
 have hlt : decide ((i : Int) < (n.Lines.length : Int)) = true := by simp; omega
 simp only [hlt, if_true, idx_nat, hx, qb, w64_succ (n := i) (by omega)]
 split <;> rfl
def NamesP (l : List ByteArray) : Prop := ∀ (i : Nat) x, l[i]? = some x → NameOK x ∧ fixI (fun e => x.toList == e.toList) l = (i : Int)
def LineP (st : Nat) (x : Line) : Prop := (2 ≤ x.Stops.length ∧ x.Stops.length ≤ 6) ∧ (x.Runs.length : Int) = (x.Stops.length : Int) - 1 ∧
 (∀ (i : Nat) e, x.Stops[i]? = some e → (0 ≤ e ∧ e < (st : Int)) ∧ fixI (fun y => e == y) x.Stops = (i : Int)) ∧ ∀ (i : Nat) r, x.Runs[i]? = some r → 1 ≤ r ∧ r ≤ 60
def Good (n : Network) : Prop := (2 ≤ n.Stops.length ∧ n.Stops.length ≤ 8) ∧ (1 ≤ n.Lines.length ∧ n.Lines.length ≤ 5) ∧ NamesP n.Stops ∧ NamesP (n.Lines.map (·.Name)) ∧ ∀ (i : Nat) x, n.Lines[i]? = some x → LineP n.Stops.length x
noncomputable instance (l : List ByteArray) : Decidable (NamesP l) := Classical.propDecidable _
noncomputable instance (st : Nat) (x : Line) : Decidable (LineP st x) := Classical.propDecidable _
noncomputable instance (n : Network) : Decidable (Good n) := Classical.propDecidable _
def Bd (n : Network) : Prop := n.Stops.length ≤ 1000 ∧ n.Lines.length ≤ 1000 ∧ ∀ x ∈ n.Lines, x.Stops.length ≤ 1000 ∧ x.Runs.length ≤ 1000
theorem areNames_eq (l : List ByteArray) (hl : l.length ≤ 1000) : zq10 l = some (decide (NamesP l)) := by
 unfold zq10
 rw [all_val (hd := Classical.propDecidable _) l (fun i x => NameOK x ∧ fixI (fun e => x.toList == e.toList) l = (i : Int)) (fun i x hx => ?_) (by unfold zq10_L1; simp)]
 ·by_cases h : NamesP l
  ·rw [if_pos (show ∀ (i : Nat) x, l[i]? = some x → NameOK x ∧ fixI (fun e => x.toList == e.toList) l = (i : Int) from h)]; simp [h]
  ·rw [if_neg (show ¬ ∀ (i : Nat) x, l[i]? = some x → NameOK x ∧ fixI (fun e => x.toList == e.toList) l = (i : Int) from h)]; simp [h]
 ·have hi := (List.getElem?_eq_some_iff.1 hx).1
  unfold zq10_L1
  have hlt : decide ((i : Int) < (l.length : Int)) = true := by simp; omega
  simp only [hlt, if_true, idx_nat, hx, qb, isName_eq, index_str_eq l (by omega), w64_succ (n := i) (by omega)]
  by_cases h1 : NameOK x
  ·by_cases h2 : fixI (fun e => x.toList == e.toList) l = (i : Int)
   ·left; simp [h1, h2]
   ·right; simp [h1, h2]
  ·right; simp [h1]
theorem lineNames_eq (n : Network) (hl : n.Lines.length ≤ 1000) : zq25 n = some (n.Lines.map (·.Name)) := by
 unfold zq25
 rw [chk_of (by omega)]
 simp only [qb]
 rw [fill_loop (fun x : Line => x.Name) n.Lines _ (by simp) (fun i a x y ha hy hx => ?_) (fun a ha => ?_)]
 ·rfl
 ·have hi := (List.getElem?_eq_some_iff.1 hx).1
  unfold zq25_L1
  have hlt : decide ((i : Int) < (n.Lines.length : Int)) = true := by simp; omega
  simp only [hlt, if_true, idx_nat, hx, hy, qb, w64_succ (n := i) (by omega), Int.toNat_natCast]
 ·unfold zq25_L1; simp
theorem isStop_eq (n : Network) (e : Int) : zq22 n e = some (decide (0 ≤ e ∧ e < (n.Stops.length : Int))) := by
 unfold zq22
 by_cases h : 0 ≤ e <;> simp [h]
theorem isLine_eq (n : Network) (e : Int) : zq19 n e = some (decide (0 ≤ e ∧ e < (n.Lines.length : Int))) := by
 unfold zq19
 by_cases h : 0 ≤ e <;> simp [h]
theorem isValidLine_eq (n : Network) (l : Line) (h1 : l.Stops.length ≤ 1000) (h2 : l.Runs.length ≤ 1000) : zq23 n l = some (decide (LineP n.Stops.length l)) := by
 unfold zq23
 rw [within_eq]
 have e0 : w64 ((l.Stops.length : Int) - 1) = (l.Stops.length : Int) - 1 := w64_id (by omega)
 simp only [qb, e0]
 by_cases a1 : 2 ≤ l.Stops.length ∧ l.Stops.length ≤ 6
 ·have d1 : decide ((2 : Int) ≤ (l.Stops.length : Int) ∧ (l.Stops.length : Int) ≤ 6) = true := by simp; omega
  simp only [d1, Bool.not_true, Bool.false_eq_true, if_false]
  by_cases a2 : (l.Runs.length : Int) = (l.Stops.length : Int) - 1
  ·have d2 : ((l.Runs.length : Int) != (l.Stops.length : Int) - 1) = false := by simp [a2]
   simp only [d2, qb, Bool.false_eq_true, if_false]
   rw [all_val (hd := Classical.propDecidable _) l.Stops (fun i e => (0 ≤ e ∧ e < (n.Stops.length : Int)) ∧ fixI (fun y => e == y) l.Stops = (i : Int)) (fun i x hx => ?_) (by unfold zq23_L1; simp)]
   ·rw [all_val (hd := Classical.propDecidable _) l.Runs (fun i r => 1 ≤ r ∧ r ≤ 60) (fun i x hx => ?_) (by unfold zq23_L2; simp)]
    ·by_cases b1 : ∀ (i : Nat) e, l.Stops[i]? = some e → (0 ≤ e ∧ e < (n.Stops.length : Int)) ∧ fixI (fun y => e == y) l.Stops = (i : Int)
     ·rw [if_pos b1]
      by_cases b2 : ∀ (i : Nat) r, l.Runs[i]? = some r → 1 ≤ r ∧ r ≤ 60
      ·rw [if_pos b2]
       have : LineP n.Stops.length l := ⟨a1, a2, b1, b2⟩
       simp [this]
      ·rw [if_neg b2]
       have : ¬ LineP n.Stops.length l := fun h => b2 h.2.2.2
       simp [this]
     ·rw [if_neg b1]
      have : ¬ LineP n.Stops.length l := fun h => b1 h.2.2.1
      simp [this]
    ·have hi := (List.getElem?_eq_some_iff.1 hx).1
     unfold zq23_L2
     have hlt : decide ((i : Int) < (l.Runs.length : Int)) = true := by simp; omega
     simp only [hlt, if_true, idx_nat, hx, qb, within_eq, w64_succ (n := i) (by omega)]
     by_cases b : 1 ≤ x ∧ x ≤ 60
     ·left; simp [b]
     ·right; simp [b]
   ·have hi := (List.getElem?_eq_some_iff.1 hx).1
    unfold zq23_L1
    have hlt : decide ((i : Int) < (l.Stops.length : Int)) = true := by simp; omega
    simp only [hlt, if_true, idx_nat, hx, qb, isStop_eq, index_int_eq l.Stops (by omega), w64_succ (n := i) (by omega)]
    by_cases b1 : 0 ≤ x ∧ x < (n.Stops.length : Int)
    ·by_cases b2 : fixI (fun y => x == y) l.Stops = (i : Int)
     ·left; simp [b1, b2]
     ·right; simp [b1, b2]
    ·right; simp [b1]
  ·have d2 : ((l.Runs.length : Int) != (l.Stops.length : Int) - 1) = true := by simp [a2]
   have : ¬ LineP n.Stops.length l := fun h => a2 h.2.1
   simp [d2, this]
 ·have d1 : decide ((2 : Int) ≤ (l.Stops.length : Int) ∧ (l.Stops.length : Int) ≤ 6) = false := by simp; omega
  have : ¬ LineP n.Stops.length l := fun h => a1 h.1
  simp [d1, this]
theorem l2Line_eq (l : Line) (st : Nat) (hst : st ≤ 1000) (h1 : l.Stops.length ≤ 1000) (h2 : l.Runs.length ≤ 1000) : zq77 l (st : Int) = some (decide (NameOK l.Name ∧ LineP st l)) := by
 unfold zq77
 rw [l2Name_eq]
 have e0 : w64 ((l.Stops.length : Int) - 1) = (l.Stops.length : Int) - 1 := w64_id (by omega)
 have e1 : w64 ((st : Int) - 1) = (st : Int) - 1 := w64_id (by omega)
 simp only [qb, e0, l1In_eq]
 by_cases a0 : NameOK l.Name
 ·simp only [a0, decide_true, Bool.not_true, Bool.false_eq_true, if_false, true_and]
  by_cases a1 : 2 ≤ l.Stops.length ∧ l.Stops.length ≤ 6
  ·have d1 : decide ((2 : Int) ≤ (l.Stops.length : Int) ∧ (l.Stops.length : Int) ≤ 6) = true := by simp; omega
   simp only [d1, Bool.not_true, Bool.false_eq_true, if_false]
   by_cases a2 : (l.Runs.length : Int) = (l.Stops.length : Int) - 1
   ·have d2 : ((l.Runs.length : Int) != (l.Stops.length : Int) - 1) = false := by simp [a2]
    simp only [d2, qb, Bool.false_eq_true, if_false]
    rw [all_val (hd := Classical.propDecidable _) l.Stops (fun i e => (0 ≤ e ∧ e < (st : Int)) ∧ fixI (fun y => e == y) l.Stops = (i : Int)) (fun i x hx => ?_) (by unfold zq77_L1; simp)]
    ·rw [all_val (hd := Classical.propDecidable _) l.Runs (fun i r => 1 ≤ r ∧ r ≤ 60) (fun i x hx => ?_) (by unfold zq77_L2; simp)]
     ·by_cases b1 : ∀ (i : Nat) e, l.Stops[i]? = some e → (0 ≤ e ∧ e < (st : Int)) ∧ fixI (fun y => e == y) l.Stops = (i : Int)
      ·rw [if_pos b1]
       by_cases b2 : ∀ (i : Nat) r, l.Runs[i]? = some r → 1 ≤ r ∧ r ≤ 60
       ·rw [if_pos b2]
        have : LineP st l := ⟨a1, a2, b1, b2⟩
        simp [this]
       ·rw [if_neg b2]
        have : ¬ LineP st l := fun h => b2 h.2.2.2
        simp [this]
      ·rw [if_neg b1]
       have : ¬ LineP st l := fun h => b1 h.2.2.1
       simp [this]
     ·have hi := (List.getElem?_eq_some_iff.1 hx).1
      unfold zq77_L2
      have hlt : decide ((i : Int) < (l.Runs.length : Int)) = true := by simp; omega
      simp only [hlt, if_true, idx_nat, hx, qb, l1In_eq, w64_succ (n := i) (by omega)]
      by_cases b : 1 ≤ x ∧ x ≤ 60
      ·left; simp [b]
      ·right; simp [b]
    ·have hi := (List.getElem?_eq_some_iff.1 hx).1
     unfold zq77_L1
     have hlt : decide ((i : Int) < (l.Stops.length : Int)) = true := by simp; omega
     simp only [hlt, if_true, idx_nat, hx, qb, l1In_eq, e1, l2Place_eq l (by omega), w64_succ (n := i) (by omega)]
     by_cases b1 : 0 ≤ x ∧ x < (st : Int)
     ·have d3 : decide (0 ≤ x ∧ x ≤ (st : Int) - 1) = true := by simp; omega
      by_cases b2 : fixI (fun y => x == y) l.Stops = (i : Int)
      ·left; simp only [d3]; simp [b1, b2]
      ·right; simp only [d3]; simp [b1, b2]
     ·have d3 : decide (0 ≤ x ∧ x ≤ (st : Int) - 1) = false := by simp; omega
      right; simp only [d3]; simp [b1]
   ·have d2 : ((l.Runs.length : Int) != (l.Stops.length : Int) - 1) = true := by simp [a2]
    have : ¬ LineP st l := fun h => a2 h.2.1
    simp [d2, this]
  ·have d1 : decide ((2 : Int) ≤ (l.Stops.length : Int) ∧ (l.Stops.length : Int) ≤ 6) = false := by simp; omega
   have : ¬ LineP st l := fun h => a1 h.1
   simp [d1, this]
 ·simp [a0]
theorem valid_eq (n : Network) (h : Bd n) : zq4 n = some (decide (Good n)) := by
 obtain ⟨h1, h2, h3⟩ := h
 unfold zq4
 simp only [within_eq, qb, areNames_eq n.Stops h1, lineNames_eq n h2, areNames_eq (n.Lines.map (·.Name)) (by simpa using h2)]
 by_cases a1 : 2 ≤ n.Stops.length ∧ n.Stops.length ≤ 8
 ·have d1 : decide ((2 : Int) ≤ (n.Stops.length : Int) ∧ (n.Stops.length : Int) ≤ 8) = true := by simp; omega
  simp only [d1, Bool.not_true, Bool.false_eq_true, if_false]
  by_cases a2 : 1 ≤ n.Lines.length ∧ n.Lines.length ≤ 5
  ·have d2 : decide ((1 : Int) ≤ (n.Lines.length : Int) ∧ (n.Lines.length : Int) ≤ 5) = true := by simp; omega
   simp only [d2, Bool.not_true, Bool.false_eq_true, if_false]
   by_cases a3 : NamesP n.Stops
   ·simp only [a3, decide_true, Bool.not_true, Bool.false_eq_true, if_false]
    by_cases a4 : NamesP (n.Lines.map (·.Name))
    ·simp only [a4, decide_true, Bool.not_true, qb, Bool.false_eq_true, if_false]
     rw [all_val (hd := Classical.propDecidable _) n.Lines (fun i x => LineP n.Stops.length x) (fun i x hx => ?_) (by unfold zq4_L1; simp)]
     ·by_cases b1 : ∀ (i : Nat) x, n.Lines[i]? = some x → LineP n.Stops.length x
      ·rw [if_pos b1]
       have : Good n := ⟨a1, a2, a3, a4, b1⟩
       simp [this]
      ·rw [if_neg b1]
       have : ¬ Good n := fun h => b1 h.2.2.2.2
       simp [this]
     ·have hi := (List.getElem?_eq_some_iff.1 hx).1
      obtain ⟨g1, g2⟩ := h3 x (List.mem_of_getElem? hx)
      unfold zq4_L1
      have hlt : decide ((i : Int) < (n.Lines.length : Int)) = true := by simp; omega
      simp only [hlt, if_true, idx_nat, hx, qb, isValidLine_eq n x g1 g2, w64_succ (n := i) (by omega)]
      by_cases b : LineP n.Stops.length x
      ·left; simp [b]
      ·right; simp [b]
    ·have : ¬ Good n := fun h => a4 h.2.2.2.1
     simp [a4, this]
   ·have : ¬ Good n := fun h => a3 h.2.2.1
    simp [a3, this]
  ·have d2 : decide ((1 : Int) ≤ (n.Lines.length : Int) ∧ (n.Lines.length : Int) ≤ 5) = false := by simp; omega
   have : ¬ Good n := fun h => a2 h.2.1
   simp [d2, this]
 ·have d1 : decide ((2 : Int) ≤ (n.Stops.length : Int) ∧ (n.Stops.length : Int) ≤ 8) = false := by simp; omega
  have : ¬ Good n := fun h => a1 h.1
  simp [d1, this]
theorem good_eq (n : Network) (h : Bd n) : zq76 n = some (decide (Good n)) := by
 obtain ⟨h1, h2, h3⟩ := h
 unfold zq76
 simp only [l1In_eq, qb]
 by_cases a1 : 2 ≤ n.Stops.length ∧ n.Stops.length ≤ 8
 ·have d1 : decide ((2 : Int) ≤ (n.Stops.length : Int) ∧ (n.Stops.length : Int) ≤ 8) = true := by simp; omega
  simp only [d1, Bool.not_true, Bool.false_eq_true, if_false]
  by_cases a2 : 1 ≤ n.Lines.length ∧ n.Lines.length ≤ 5
  ·have d2 : decide ((1 : Int) ≤ (n.Lines.length : Int) ∧ (n.Lines.length : Int) ≤ 5) = true := by simp; omega
   simp only [d2, Bool.not_true, qb, Bool.false_eq_true, if_false]
   rw [all_val (hd := Classical.propDecidable _) n.Stops (fun i x => NameOK x ∧ fixI (fun e => x.toList == e.toList) n.Stops = (i : Int)) (fun i x hx => ?_) (by unfold zq76_L1; simp)]
   ·rw [all_val (hd := Classical.propDecidable _) n.Lines (fun i x => (NameOK x.Name ∧ LineP n.Stops.length x) ∧ fixI (fun e => x.Name.toList == e.toList) (n.Lines.map (·.Name)) = (i : Int)) (fun i x hx => ?_) (by unfold zq76_L2; simp)]
    ·by_cases b1 : NamesP n.Stops
     ·rw [if_pos (show ∀ (i : Nat) x, n.Stops[i]? = some x → NameOK x ∧ fixI (fun e => x.toList == e.toList) n.Stops = (i : Int) from b1)]
      by_cases b2 : ∀ (i : Nat) x, n.Lines[i]? = some x → (NameOK x.Name ∧ LineP n.Stops.length x) ∧ fixI (fun e => x.Name.toList == e.toList) (n.Lines.map (·.Name)) = (i : Int)
      ·rw [if_pos b2]
       have : Good n := ⟨a1, a2, b1, fun i y hy => by
        rw [List.getElem?_map] at hy
        obtain ⟨x, hx, rfl⟩ := Option.map_eq_some_iff.1 hy
        exact ⟨(b2 i x hx).1.1, (b2 i x hx).2⟩, fun i x hx => (b2 i x hx).1.2⟩
       simp [this]
      ·rw [if_neg b2]
       have : ¬ Good n := fun h => b2 fun i x hx => by
        have h4 := h.2.2.2.1 i x.Name (by rw [List.getElem?_map, hx]; rfl)
        exact ⟨⟨h4.1, h.2.2.2.2 i x hx⟩, h4.2⟩
       simp [this]
     ·rw [if_neg (show ¬ ∀ (i : Nat) x, n.Stops[i]? = some x → NameOK x ∧ fixI (fun e => x.toList == e.toList) n.Stops = (i : Int) from b1)]
      have : ¬ Good n := fun h => b1 h.2.2.1
      simp [this]
    ·have hi := (List.getElem?_eq_some_iff.1 hx).1
     obtain ⟨g1, g2⟩ := h3 x (List.mem_of_getElem? hx)
     unfold zq76_L2
     have hlt : decide ((i : Int) < (n.Lines.length : Int)) = true := by simp; omega
     simp only [hlt, if_true, idx_nat, hx, qb, l2Line_eq x n.Stops.length h1 g1 g2, l2LineNamed_eq n (by omega), w64_succ (n := i) (by omega)]
     by_cases b1 : NameOK x.Name ∧ LineP n.Stops.length x
     ·by_cases b2 : fixI (fun e => x.Name.toList == e.toList) (n.Lines.map (·.Name)) = (i : Int)
      ·left; simp [b1, b2]
      ·right; simp [b1, b2]
     ·right; simp [b1]
   ·have hi := (List.getElem?_eq_some_iff.1 hx).1
    unfold zq76_L1
    have hlt : decide ((i : Int) < (n.Stops.length : Int)) = true := by simp; omega
    simp only [hlt, if_true, idx_nat, hx, qb, l2Name_eq, l2Find_eq n.Stops (by omega), w64_succ (n := i) (by omega)]
    by_cases b1 : NameOK x
    ·by_cases b2 : fixI (fun e => x.toList == e.toList) n.Stops = (i : Int)
     ·left; simp [b1, b2]
     ·right; simp [b1, b2]
    ·right; simp [b1]
  ·have d2 : decide ((1 : Int) ≤ (n.Lines.length : Int) ∧ (n.Lines.length : Int) ≤ 5) = false := by simp; omega
   have : ¬ Good n := fun h => a2 h.2.1
   simp [d2, this]
 ·have d1 : decide ((2 : Int) ≤ (n.Stops.length : Int) ∧ (n.Stops.length : Int) ≤ 8) = false := by simp; omega
  have : ¬ Good n := fun h => a1 h.1
  simp [d1, this]
theorem l1Own_eq (l : List Int) (h : l.length ≤ 1000) : zq72 l = some l := by
 unfold zq72
 rw [chk_of (by simp; omega)]; rfl
theorem l2Own_eq (n : Network) (h : Bd n) : zq80 n = some n := by
 obtain ⟨h1, h2, h3⟩ := h
 unfold zq80
 rw [chk_of (by simp; omega)]
 simp only [qb]
 rw [app_loop (fun x : Line => x) n.Lines (fun i a x ha hx => ?_) (fun a ha => ?_)]
 ·simp only [qb, List.map_id', List.nil_append]
 ·have hi := (List.getElem?_eq_some_iff.1 hx).1
  obtain ⟨g1, g2⟩ := h3 x (List.mem_of_getElem? hx)
  unfold zq80_L1
  have hlt : decide ((i : Int) < (n.Lines.length : Int)) = true := by simp; omega
  have hch : ∀ y : Line, chk (a.length + ([y] : List Line).length ≤ 4294967296) = some () := fun y => chk_of (by simp; omega)
  simp only [hlt, if_true, idx_nat, hx, qb, l1Own_eq _ g1, l1Own_eq _ g2, hch, w64_succ (n := i) (by omega)]
 ·unfold zq80_L1; simp
theorem l2Own_t_eq (n : Network) (h : Bd n) : zq81 n = some n := by
 have : zq81 n = zq80 n := rfl
 rw [this]; exact l2Own_eq n h
theorem l2Back_eq (s : List Int) (hs : s.length ≤ 1000) : zq73 s = some s.reverse := by
 unfold zq73
 have e0 : w64 ((s.length : Int) - 1) = (s.length : Int) - 1 := w64_id (by omega)
 rw [e0]
 have h := iter_rule (step := zq73_L1 s) (fun m a => ∃ j : Nat, a.1 = (s.length : Int) - 1 - j ∧ m + j = s.length ∧ a.2 = s.reverse.take j) (fun b => b = s.reverse) ?_ (k := s.length) (a := ((s.length : Int) - 1, [])) ⟨0, by simp, by omega, by simp⟩
 ·obtain ⟨b, hb, rfl⟩ := h
  rw [hb]; rfl
 rintro m ⟨v, i⟩ ⟨j, hv, hm, hi⟩
 simp only at hv hi
 subst hv
 by_cases hlt : j < s.length
 ·left
  have ev : (s.length : Int) - 1 - j = ((s.length - 1 - j : Nat) : Int) := by omega
  rw [ev]
  obtain ⟨e, he⟩ := get_ex (l := s) (i := s.length - 1 - j) (by omega)
  have hd : decide ((0 : Int) ≤ ((s.length - 1 - j : Nat) : Int)) = true := by simp
  have hlen : i.length = j := by rw [hi]; simp; omega
  have hch : chk (i.length + ([e] : List Int).length ≤ 4294967296) = some () := chk_of (by simp; omega)
  have ev2 : w64 (((s.length - 1 - j : Nat) : Int) - 1) = (s.length : Int) - 1 - ((j + 1 : Nat) : Int) := by rw [w64_id (by omega)]; omega
  refine ⟨((s.length : Int) - 1 - ((j + 1 : Nat) : Int), i ++ [e]), m - 1, ?_, by omega, j + 1, rfl, by omega, ?_⟩
  ·unfold zq73_L1
   simp only [hd, if_true, idx_nat, he, hch, qb, ev2]
  ·show i ++ [e] = _
   rw [take_succ (x := e) (by rw [List.getElem?_reverse hlt]; exact he), hi]
 ·right
  have ej : j = s.length := by omega
  subst ej
  have hd : decide ((0 : Int) ≤ (s.length : Int) - 1 - (s.length : Int)) = false := by simp; omega
  refine ⟨i, by unfold zq73_L1; simp only [hd, Bool.false_eq_true, if_false], ?_⟩
  rw [hi, List.take_of_length_le (by simp)]
theorem l2BackF_eq (s : List Int) (hs : s.length ≤ 1000) : zq74 s = some s.reverse := l2Back_eq s hs
def LB (x : Line) : Prop := (2 ≤ x.Stops.length ∧ x.Stops.length ≤ 10) ∧ 1 ≤ x.Runs.length ∧ x.Runs.length ≤ 10
def NB (n : Network) : Prop := (2 ≤ n.Stops.length ∧ n.Stops.length ≤ 6) ∧ (1 ≤ n.Lines.length ∧ n.Lines.length ≤ 8) ∧ ∀ x ∈ n.Lines, LB x
theorem NB.bd {n : Network} (h : NB n) : Bd n := ⟨by have := h.1; omega, by have := h.2.1; omega, fun x hx => by have := h.2.2 x hx; unfold LB at this; omega⟩
theorem l1Num_ok (n : Int) (h0 : 0 ≤ n) (h1 : n < 10) : ∃ r, zq70 n = some r ∧ r.size ≤ 10 := by
 have e : zq70 n = zq70_F (zq70_k 4294967295) n := rfl
 rw [e]
 unfold zq70_F
 have d1 : decide (n < 0) = false := by simp; omega
 have d2 : decide (n < 10) = true := by simp; omega
 have e1 : w64 (n + 1) = n + 1 := w64_id (by omega)
 have hs : (str [48, 49, 50, 51, 52, 53, 54, 55, 56, 57]).size = 10 := rfl
 simp only [d1, d2, Bool.false_eq_true, if_false, if_true, e1, hs]
 rw [chk_of (by omega)]
 refine ⟨_, rfl, ?_⟩
 rw [ByteArray.size_extract, hs]
 omega
theorem line_ok {k : Nat} {c : l1Cur} (name : ByteArray) (stops : Int) (hs : 2 ≤ stops ∧ stops ≤ 1000) (h : Cur k c) (hk : k ≤ 1000000000) : ∃ r, zq54 c name stops = some r ∧ Cur (k + 40) r.2 ∧ LB r.1 := by
 unfold zq54
 obtain ⟨r, hr, hc, h0, h1⟩ := pick_ok stops h (by omega)
 obtain ⟨r1, hr1, hc1, h10, h11⟩ := pick_ok 3 hc (by omega)
 simp only [hr, hr1, qb]
 have e1 : w64 (2 + r1.1) = ((2 + r1.1.toNat : Nat) : Int) := by rw [w64_id (by omega)]; omega
 rw [e1]
 have loop : ∃ b, iter (zq54_L1 name stops) (r.1, ((2 + r1.1.toNat : Nat) : Int), r1.2.code_, r1.2.at_, r1.2.seed_.v, []) = some b ∧ (Cur (k + 4 + 2 * 4) ⟨b.1, b.2.1, ⟨b.2.2.1⟩⟩ ∧ 1 ≤ b.2.2.2.length ∧ b.2.2.2.length ≤ 4) := by
  refine iter_rule (fun m a => (0 ≤ a.1 ∧ a.1 < stops) ∧ a.2.1 = (m : Int) ∧ m + a.2.2.2.2.2.length ≤ 4 ∧ (1 ≤ m ∨ 1 ≤ a.2.2.2.2.2.length) ∧ Cur (k + 4 + 2 * (4 - m)) ⟨a.2.2.1, a.2.2.2.1, ⟨a.2.2.2.2.1⟩⟩) _ ?_ (k := 2 + r1.1.toNat) ⟨⟨h0, by show r.1 < stops; omega⟩, rfl, by simp; omega, .inl (by omega), hc1.mono (by omega)⟩
  rintro m ⟨v, v1, v2, v3, v4, v5⟩ ⟨hv, hv1, hl, hne, hcur⟩
  simp only at hv hv1 hl hne hcur
  subst hv1
  unfold zq54_L1
  cases m with
  | zero => right; exact ⟨_, by simp; rfl, hcur, by show 1 ≤ v5.length; omega, by show v5.length ≤ 4; omega⟩
  | succ m =>
   left
   have hpos : decide ((0 : Int) < ((m + 1 : Nat) : Int)) = true := by simp
   obtain ⟨r3, hr3, hc3, h30, h31⟩ := pick_ok 2 hcur (by omega)
   have hpl := l2Place_eq (⟨name, v5, []⟩ : Line) (by show v5.length ≤ _; omega) v
   have hch : chk (v5.length + ([v] : List Int).length ≤ 4294967296) = some () := chk_of (by simp; omega)
   have hne0 : chk (stops ≠ 0) = some () := chk_of (by omega)
   have w1 : w64 (v + 1) = v + 1 := w64_id (by omega)
   have w2 : w64 (v + 1 + r3.1) = v + 1 + r3.1 := w64_id (by omega)
   have ht := tmod_rng (a := v + 1 + r3.1) (b := stops) (by omega) (by omega)
   simp only [hpos, if_true, hpl, hch, hr3, hne0, w1, w2, qb]
   have w3 : w64 (((m + 1 : Nat) : Int) - 1) = (m : Int) := w64_pred (by omega)
   split
   ·refine ⟨_, m, by simp only [qb]; rfl, by omega, ht, w3, ?_, .inr ?_, ?_⟩
    ·simp; omega
    ·simp
    ·exact hc3.mono (by omega)
   ·rename_i hn
    refine ⟨_, m, by simp only [qb]; rfl, by omega, ht, w3, ?_, .inr ?_, ?_⟩
    ·show m + v5.length ≤ 4; omega
    ·show 1 ≤ v5.length
     cases v5 with
     | nil => simp [fixI] at hn
     | cons a l => simp
    ·exact hc3.mono (by omega)
 obtain ⟨⟨v7, v8, v9, v10⟩, hb, hcb, hlb⟩ := loop
 simp only at hcb hlb
 rw [hb]
 simp only [qb]
 -- at least two stops
 have two : ∃ v11 : List Int, (if decide ((v10.length : Int) < 2) = true then (idx v10 0).bind fun e1 => (chk ((stops : Int) ≠ 0)).bind fun u4 => (chk (v10.length + ([((w64 (e1 + 1)).tmod stops)] : List Int).length ≤ 4294967296)).bind fun u5 => some (v10 ++ ([((w64 (e1 + 1)).tmod stops)] : List Int)) else some v10) = some v11 ∧ 2 ≤ v11.length ∧ v11.length ≤ 5 := by
  by_cases h2 : (v10.length : Int) < 2
  ·obtain ⟨e, he, _⟩ := idx_lt (l := v10) (i := 0) (by omega) (by omega)
   have hch : ∀ y : Int, chk (v10.length + ([y] : List Int).length ≤ 4294967296) = some () := fun y => chk_of (by simp; omega)
   have hne0 : chk (stops ≠ 0) = some () := chk_of (by omega)
   refine ⟨v10 ++ [(w64 (e + 1)).tmod stops], by simp only [h2, decide_true, if_true, he, hne0, hch, qb], ?_, ?_⟩
   ·simp; omega
   ·simp; omega
  ·exact ⟨v10, by simp [h2], by omega, by omega⟩
 obtain ⟨v11, hv11, l1, l2⟩ := two
 rw [hv11]
 simp only [qb]
 have loop2 : ∃ b, iter (zq54_L2 v11) (1, v7, v8, v9, []) = some b ∧ (Cur (k + 40) ⟨b.1, b.2.1, ⟨b.2.2.1⟩⟩ ∧ b.2.2.2.length + 1 = v11.length) := by
  refine iter_rule (fun m a => ∃ i : Nat, a.1 = (i : Int) ∧ m + i = v11.length ∧ a.2.2.2.2.length + 1 = i ∧ Cur (k + 12 + 2 * i) ⟨a.2.1, a.2.2.1, ⟨a.2.2.2.1⟩⟩) _ ?_ (k := v11.length - 1) ⟨1, rfl, by omega, rfl, hcb.mono (by omega)⟩
  rintro m ⟨v12, v13, v14, v15, v16⟩ ⟨i, hi, hm, hl, hcur⟩
  simp only at hi hl hcur
  subst hi
  unfold zq54_L2
  by_cases hlt : i < v11.length
  ·left
   have hd : decide ((i : Int) < (v11.length : Int)) = true := by simp; omega
   obtain ⟨r5, hr5, hc5, _⟩ := pick_ok 12 hcur (by omega)
   have hch : ∀ y : Int, chk (v16.length + ([y] : List Int).length ≤ 4294967296) = some () := fun y => chk_of (by simp; omega)
   refine ⟨_, m - 1, by simp only [hd, if_true, hr5, hch, qb, w64_succ (n := i) (by omega)]; rfl, by omega, i + 1, rfl, by omega, ?_, ?_⟩
   ·simp; omega
   ·exact hc5.mono (by omega)
  ·right
   have hd : decide ((i : Int) < (v11.length : Int)) = false := by simp; omega
   refine ⟨_, by simp only [hd, Bool.false_eq_true, if_false]; rfl, ?_, ?_⟩
   ·exact hcur.mono (by omega)
   ·show v16.length + 1 = _; omega
 obtain ⟨⟨v17, v18, v19, v20⟩, hb2, hcb2, hl2⟩ := loop2
 simp only at hcb2 hl2
 rw [hb2]
 simp only [qb]
 exact ⟨_, rfl, hcb2, ⟨l1, by show v11.length ≤ 10; omega⟩, by show 1 ≤ v20.length; omega, by show v20.length ≤ 10; omega⟩
theorem lineF_ok {k : Nat} {c : l1Cur} (name : ByteArray) (stops : Int) (hs : 2 ≤ stops ∧ stops ≤ 1000) (h : Cur k c) (hk : k ≤ 1000000000) : ∃ r, zq55 c name stops = some r ∧ Cur (k + 40) r.2 ∧ LB r.1 := line_ok name stops hs h hk
theorem six_len (i : Nat) (h2 : 2 ≤ i) (h6 : i ≤ 6) (l : List ByteArray) (hl : l.length = 6) : 2 ≤ ((l.take i).drop (0 : Int).toNat).length ∧ ((l.take i).drop (0 : Int).toNat).length ≤ 6 := by
 simp; omega
theorem networkT_ok {k : Nat} {c : l1Cur} (h : Cur k c) (hk : k ≤ 500000000) : ∃ r, zq57 c = some r ∧ Cur (k + 300) r.2 ∧ NB r.1 := by
 unfold zq57
 obtain ⟨r, hr, hc, h0, h1⟩ := pick_ok 5 h (by omega)
 have e1 : w64 (2 + r.1) = 2 + r.1 := w64_id (by omega)
 have hsix : ([(str [112, 111, 114, 116]), (str [109, 105, 108, 108]), (str [112, 97, 114, 107]), (str [104, 97, 108, 108]), (str [100, 111, 99, 107]), (str [102, 97, 105, 114])] : List ByteArray).length = 6 := rfl
 simp only [hr, qb, e1, hsix]
 rw [chk_of (by omega)]
 obtain ⟨r1, hr1, hc1, h10, h11⟩ := pick_ok 3 hc (by omega)
 have e2 : w64 (1 + r1.1) = ((1 + r1.1.toNat : Nat) : Int) := by rw [w64_id (by omega)]; omega
 simp only [hr1, qb, e2]
 have loop : ∃ b, iter (zq57_L1 r) (((1 + r1.1.toNat : Nat) : Int), r1.2.code_, r1.2.at_, r1.2.seed_.v, []) = some b ∧ (Cur (k + 4 + 40 * 3) ⟨b.1, b.2.1, ⟨b.2.2.1⟩⟩ ∧ (1 ≤ b.2.2.2.length ∧ b.2.2.2.length ≤ 3) ∧ ∀ x ∈ b.2.2.2, LB x) := by
  refine iter_rule (fun m a => a.1 = (m : Int) ∧ m + a.2.2.2.2.length ≤ 3 ∧ 1 ≤ m + a.2.2.2.2.length ∧ (∀ x ∈ a.2.2.2.2, LB x) ∧ Cur (k + 4 + 40 * (3 - m)) ⟨a.2.1, a.2.2.1, ⟨a.2.2.2.1⟩⟩) _ ?_ (k := 1 + r1.1.toNat) ⟨rfl, by simp; omega, by simp, by simp, hc1.mono (by omega)⟩
  rintro m ⟨x, v, v1, v2, v3⟩ ⟨hx, hl, hl1, hlb, hcur⟩
  simp only at hx hl hl1 hlb hcur
  subst hx
  unfold zq57_L1
  cases m with
  | zero => right; exact ⟨_, by simp; rfl, hcur, ⟨by show 1 ≤ v3.length; omega, by show v3.length ≤ 3; omega⟩, hlb⟩
  | succ m =>
   left
   have hpos : decide ((0 : Int) < ((m + 1 : Nat) : Int)) = true := by simp
   obtain ⟨r4, hr4, hs4⟩ := l1Num_ok ((m + 1 : Nat) : Int) (by omega) (by omega)
   have hs : (str [108]).size = 1 := rfl
   have hch : chk ((str [108]).size + r4.size ≤ 4294967296) = some () := chk_of (by omega)
   obtain ⟨r5, hr5, hc5, hb5⟩ := lineF_ok (str [108] ++ r4) (2 + r.1) (by omega) hcur (by omega)
   have hch2 : ∀ y : Line, chk (v3.length + ([y] : List Line).length ≤ 4294967296) = some () := fun y => chk_of (by simp; omega)
   refine ⟨_, m, by simp only [hpos, if_true, hr4, hch, e1, hr5, hch2, qb]; rfl, by omega, ?_, ?_, ?_, ?_, ?_⟩
   ·exact w64_pred (by omega)
   ·simp; omega
   ·simp; omega
   ·intro y hy
    rcases List.mem_append.1 hy with hy | hy
    ·exact hlb y hy
    ·simp at hy; subst hy; exact hb5
   ·exact hc5.mono (by omega)
 obtain ⟨⟨v4, v5, v6, v7⟩, hb, hcb, hlb, hall⟩ := loop
 simp only at hcb hlb hall
 rw [hb]
 simp only [qb]
 obtain ⟨r6, hr6, hc6⟩ := one_ok 2 hcb (by omega)
 simp only [hr6, qb]
 have fin : ∀ (v8 : List UInt8) (v9 v10 : Int) (v11 : List Line), Cur (k + 200) ⟨v8, v9, ⟨v10⟩⟩ → (1 ≤ v11.length ∧ v11.length ≤ 8) → (∀ x ∈ v11, LB x) →
   ∃ r', ((zq81 (⟨((([(str [112, 111, 114, 116]), (str [109, 105, 108, 108]), (str [112, 97, 114, 107]), (str [104, 97, 108, 108]), (str [100, 111, 99, 107]), (str [102, 97, 105, 114])] : List ByteArray).take (2 + r.1).toNat).drop (0 : Int).toNat), v11⟩ : Network)).bind fun r11 => some ((⟨r11.Stops, r11.Lines⟩ : Network), (⟨v8, v9, (⟨v10⟩ : IK .u64)⟩ : l1Cur))) = some r' ∧ Cur (k + 300) r'.2 ∧ NB r'.1 := by
  intro v8 v9 v10 v11 g1 g2 g3
  have hst := six_len (2 + r.1).toNat (by omega) (by omega) _ hsix
  have hnb : NB (⟨((([(str [112, 111, 114, 116]), (str [109, 105, 108, 108]), (str [112, 97, 114, 107]), (str [104, 97, 108, 108]), (str [100, 111, 99, 107]), (str [102, 97, 105, 114])] : List ByteArray).take (2 + r.1).toNat).drop (0 : Int).toNat), v11⟩ : Network) := ⟨hst, g2, g3⟩
  rw [l2Own_t_eq _ hnb.bd]
  exact ⟨_, rfl, g1.mono (by omega), hnb⟩
 split
 ·obtain ⟨e, he, _, hem⟩ := idx_lt (l := v7) (i := 0) (by omega) (by omega)
  obtain ⟨g1, g2⟩ := hall e hem
  have hch2 : ∀ y : Line, chk (v7.length + ([y] : List Line).length ≤ 4294967296) = some () := fun y => chk_of (by simp; omega)
  simp only [he, l2BackF_eq e.Stops (by omega), l2BackF_eq e.Runs (by omega), hch2, qb]
  refine fin _ _ _ _ (hc6.mono (by omega)) (by simp; omega) fun y hy => ?_
  rcases List.mem_append.1 hy with hy | hy
  ·exact hall y hy
  ·simp at hy; subst hy
   exact ⟨by simpa using g1, by simpa using g2⟩
 ·simp only [qb]
  exact fin _ _ _ _ (hc6.mono (by omega)) (by omega) hall
theorem anyNetwork_ok {k : Nat} {c : l1Cur} (h : Cur k c) (hk : k ≤ 200000000) : ∃ r, zq50 c = some r ∧ Cur (k + 1000) r.2 ∧ Bd r.1 := by
 unfold zq50
 obtain ⟨r, hr, hc, hnb⟩ := networkT_ok h (by omega)
 obtain ⟨n1, n2, n3⟩ := hnb
 obtain ⟨r1, hr1, hc1, h10, h11⟩ := pick_ok (r.1.Lines.length : Int) hc (by omega)
 obtain ⟨e, he, he2, hem⟩ := idx_lt (l := r.1.Lines) (i := r1.1) h10 (by omega)
 obtain ⟨g1, g2⟩ := n3 e hem
 obtain ⟨r2, hr2, hc2, _⟩ := pick_ok 24 hc1 (by omega)
 simp only [hr, hr1, he, hr2, qb]
 have fin : ∀ (v : List UInt8) (v1 v2 : Int) (v3 : ByteArray) (v4 : List ByteArray) (v5 : List Line) (v6 : List Int), Cur (k + 900) ⟨v, v1, ⟨v2⟩⟩ → v4.length ≤ 6 → v5.length = r.1.Lines.length → (∀ x ∈ v5, LB x) → v6.length ≤ 11 →
   ∃ r', ((idx v5 r1.1).bind fun e9 => some ((⟨v4, (v5.set r1.1.toNat (⟨v3, e9.Stops, v6⟩ : Line))⟩ : Network), (⟨v, v1, (⟨v2⟩ : IK .u64)⟩ : l1Cur))) = some r' ∧ Cur (k + 1000) r'.2 ∧ Bd r'.1 := by
  intro v v1 v2 v3 v4 v5 v6 q1 q2 q3 q4 q5
  obtain ⟨e9, he9, _, hm9⟩ := idx_lt (l := v5) (i := r1.1) h10 (by omega)
  rw [he9]
  refine ⟨_, rfl, q1.mono (by omega), by show v4.length ≤ _; omega, by simp; omega, fun x hx => ?_⟩
  rcases List.mem_or_eq_of_mem_set hx with hx | hx
  ·have := q4 x hx
   unfold LB at this; omega
  ·subst hx
   have := q4 e9 hm9
   unfold LB at this
   exact ⟨by show e9.Stops.length ≤ _; omega, by show v6.length ≤ _; omega⟩
 split
 ·obtain ⟨r4, hr4, hc4, _⟩ := ofw_ok ([(str [109, 105, 108, 108]), (str []), (str [65]), (str [97, 98, 99, 100, 101, 102, 103, 104]), (str [97, 98, 99, 100, 101, 102, 103, 104, 105])] : List ByteArray) (by simp) hc2 (by omega)
  obtain ⟨e2, he2', _⟩ := idx_lt (l := r.1.Stops) (i := 0) (by omega) (by omega)
  simp only [hr4, he2', qb, flb_go]
  exact fin _ _ _ _ _ _ _ (hc4.mono (by omega)) (by simp; omega) rfl n3 (by omega)
 split
 ·obtain ⟨r5, hr5, hc5, _⟩ := ofw_ok ([(str [114, 49]), (str [108, 49]), (str []), (str [88])] : List ByteArray) (by simp) hc2 (by omega)
  simp only [hr5, qb, flb_go]
  exact fin _ _ _ _ _ _ _ (hc5.mono (by omega)) (by omega) rfl n3 (by omega)
 split
 ·obtain ⟨r8, hr8, hc8, h80, h81⟩ := pick_ok (e.Stops.length : Int) hc2 (by omega)
  obtain ⟨r9, hr9, hc9, _⟩ := pick_ok 10 hc8 (by omega)
  obtain ⟨e4, he4, _⟩ := idx_lt (l := e.Stops) (i := r8.1) h80 (by omega)
  simp only [hr8, hr9, he4, qb, flb_go]
  refine fin _ _ _ _ _ _ _ (hc9.mono (by omega)) (by omega) (by simp) (fun x hx => ?_) (by show e.Runs.length ≤ 11; omega)
  rcases List.mem_or_eq_of_mem_set hx with hx | hx
  ·exact n3 x hx
  ·subst hx; exact ⟨by simpa using g1, g2⟩
 split
 ·obtain ⟨r12, hr12, hc12, h120, h121⟩ := pick_ok (e.Runs.length : Int) hc2 (by omega)
  obtain ⟨r13, hr13, hc13, _⟩ := amongw_ok ([0, 60, 61, (-1)] : List Int) (by simp) hc12 (by omega)
  obtain ⟨e6, he6, _⟩ := idx_lt (l := e.Runs) (i := r12.1) h120 (by omega)
  simp only [hr12, hr13, he6, qb, flb_go]
  refine fin _ _ _ _ _ _ _ (hc13.mono (by omega)) (by omega) (by simp) (fun x hx => ?_) (by simp; omega)
  rcases List.mem_or_eq_of_mem_set hx with hx | hx
  ·exact n3 x hx
  ·subst hx; exact ⟨g1, by simpa using g2⟩
 split
 ·have hch : chk (e.Runs.length + ([3] : List Int).length ≤ 4294967296) = some () := chk_of (by simp; omega)
  simp only [hch, qb, flb_go]
  exact fin _ _ _ _ _ _ _ (hc2.mono (by omega)) (by omega) rfl n3 (by simp; omega)
 split
 ·simp only [flb_ret]
  exact ⟨_, rfl, hc2.mono (by omega), by show r.1.Stops.length ≤ _; omega, by simp, by simp⟩
 split
 ·have loop : ∃ b, iter (zq50_L1 r) (0, r2.2.code_, r2.2.at_, r2.2.seed_.v, r.1.Lines) = some b ∧ (Cur (k + 900) ⟨b.1, b.2.1, ⟨b.2.2.1⟩⟩ ∧ b.2.2.2.length ≤ 20 ∧ ∀ x ∈ b.2.2.2, LB x) := by
   refine iter_rule (fun m a => ∃ i : Nat, a.1 = (i : Int) ∧ m + i = 8 ∧ i ≤ 7 ∧ a.2.2.2.2.length ≤ 8 + i ∧ (∀ x ∈ a.2.2.2.2, LB x) ∧ Cur (k + 310 + 50 * i) ⟨a.2.1, a.2.2.1, ⟨a.2.2.2.1⟩⟩) _ ?_ (k := 8) ⟨0, rfl, rfl, by omega, by simpa using n2.2, n3, hc2.mono (by omega)⟩
   rintro m ⟨v7, v8, v9, v10, v11⟩ ⟨i, hi, hm, hi7, hl, hlb, hcur⟩
   simp only at hi hl hlb hcur
   subst hi
   unfold zq50_L1
   obtain ⟨r16, hr16, hc16, h160, h161⟩ := pick_ok 2 hcur (by omega)
   have w1 : w64 (5 + r16.1) = 5 + r16.1 := w64_id (by omega)
   simp only [hr16, w1, qb]
   by_cases a1 : (v11.length : Int) < 5 + r16.1 ∧ (i : Int) < 7
   ·left
    have d1 : decide ((v11.length : Int) < 5 + r16.1) = true := by simp; omega
    have d2 : decide ((i : Int) < 7) = true := by simp; omega
    obtain ⟨r19, hr19, hs19⟩ := l1Num_ok (i : Int) (by omega) (by omega)
    have hs : (str [120]).size = 1 := rfl
    have hch : chk ((str [120]).size + r19.size ≤ 4294967296) = some () := chk_of (by omega)
    obtain ⟨r20, hr20, hc20, hb20⟩ := line_ok (str [120] ++ r19) (r.1.Stops.length : Int) (by omega) hc16 (by omega)
    have hch2 : ∀ y : Line, chk (v11.length + ([y] : List Line).length ≤ 4294967296) = some () := fun y => chk_of (by simp; omega)
    refine ⟨_, m - 1, by simp only [d1, d2, if_true, hr19, hch, hr20, hch2, qb, w64_succ (n := i) (by omega)]; rfl, by omega, i + 1, rfl, by omega, by omega, ?_, fun x hx => ?_, ?_⟩
    ·simp; omega
    ·rcases List.mem_append.1 hx with hx | hx
     ·exact hlb x hx
     ·simp at hx; subst hx; exact hb20
    ·exact hc20.mono (by omega)
   ·right
    have hcond : (if decide ((v11.length : Int) < 5 + r16.1) = true then some (decide ((i : Int) < 7)) else some false) = some false := by
     by_cases b1 : (v11.length : Int) < 5 + r16.1
     ·have : decide ((i : Int) < 7) = false := by simp; omega
      simp [b1, this]
     ·simp [b1]
    refine ⟨_, by simp only [hcond, qb, Bool.false_eq_true, if_false]; rfl, ?_, ?_, hlb⟩
    ·exact hc16.mono (by omega)
    ·show v11.length ≤ 20; omega
  obtain ⟨⟨v13, v14, v15, v16⟩, hb, hcb, hlb, hall⟩ := loop
  simp only at hcb hlb hall
  rw [hb]
  simp only [qb, flb_ret]
  refine ⟨_, rfl, hcb.mono (by omega), by show r.1.Stops.length ≤ _; omega, by show v16.length ≤ _; omega, fun x hx => ?_⟩
  have := hall x hx
  unfold LB at this; omega
 ·simp only [flb_go]
  exact fin _ _ _ _ _ _ _ (hc2.mono (by omega)) (by omega) rfl n3 (by omega)
def TB (t : Timetable) : Prop := Bd t.Network ∧ t.Trips.length ≤ 1000
def TripP (n : Network) (x : Trip) : Prop := (1 ≤ x.Id ∧ x.Id ≤ 999) ∧ ∃ l, idx n.Lines x.Line = some l ∧ (0 ≤ x.Start ∧ x.Start ≤ 1799) ∧ 0 ≤ x.Start + l.Runs.sum ∧ x.Start + l.Runs.sum ≤ 1799
def GoodT (t : Timetable) : Prop := Good t.Network ∧ t.Trips.length ≤ 12 ∧ (∀ (i : Nat) x, t.Trips[i]? = some x → TripP t.Network x) ∧ ∀ (i : Nat) a b, t.Trips[i]? = some a → t.Trips[i + 1]? = some b → a.Id < b.Id
noncomputable instance (t : Timetable) : Decidable (GoodT t) := Classical.propDecidable _
noncomputable instance (n : Network) (x : Trip) : Decidable (TripP n x) := Classical.propDecidable _
theorem time_eq (t : Int) : zq5 t = some (decide (0 ≤ t ∧ t ≤ 1799)) := by
 unfold zq5; rw [within_eq]; rfl
theorem l4Time_eq (t : Int) : zq84 t = some (decide (0 ≤ t ∧ t ≤ 1799)) := by
 unfold zq84; rw [l1In_eq]; rfl
theorem total_eq (l : List Int) (h1 : l.length ≤ 1000000) (h2 : ∀ x ∈ l, 0 ≤ x ∧ x ≤ 1000000) : zq31 l = some l.sum := by
 unfold zq31
 rw [sum_loop (fun x : Int => x) l h1 h2 (fun i s x hx => ?_) (fun s => ?_)]
 ·simp
 ·have := get_lt hx
  unfold zq31_L1
  simp (disch := omega) only [if_pos, if_neg, decide_eq_true_eq, decide_true, decide_false, Bool.not_true, Bool.not_false, Bool.false_eq_true, Bool.not_eq_true', decide_eq_false_iff_not, if_true, if_false, w64_id, chk_of, idx_nat, qb, Option.map_some, Int.toNat_natCast, not_true_eq_false, not_false_eq_true, true_and, and_true, and_self, false_and, and_false, reduceIte, flb_go, flb_ret, beq_self_eq_true, ne_eq, bne_self_eq_false, Int.ofNat_lt.2 this, hx]
 ·unfold zq31_L1; simp
theorem l2Run_eq (x : Line) (a b : Nat) (hab : a ≤ b) (hb : b ≤ x.Runs.length) (hl : x.Runs.length ≤ 1000) (h2 : ∀ r ∈ x.Runs, 0 ≤ r ∧ r ≤ 1000000) : zq83 x (a : Int) (b : Int) = some (((x.Runs.take b).drop a).sum) := by
 unfold zq83
 refine Tot.val (.call (P := fun v => v = ((x.Runs.take b).drop a).sum) ?_ fun v h => .ok h)
 refine .iter (fun m s => ∃ k : Nat, s.2 = ((a + k : Nat) : Int) ∧ m + k = b - a ∧ s.1 = (((x.Runs.take b).drop a).take k).sum) (n := b - a) ⟨0, by simp, by omega, by simp⟩ ?_
 rintro m ⟨s, v⟩ ⟨k, hk, hm, hs⟩
 simp only at hk hs
 subst hk
 unfold zq83_L1
 refine .iteP (fun hc => ?_) (fun hc => .dn ?_)
 ·obtain ⟨r, hr⟩ := get_ex (l := x.Runs) (i := a + k) (by omega)
  have hr2 : ((x.Runs.take b).drop a)[k]? = some r := by
   rw [List.getElem?_drop, List.getElem?_take_of_lt (by omega)]; exact hr
  have hb1 := h2 r (List.mem_of_getElem? hr)
  have hb2 := sum_bd (l := ((x.Runs.take b).drop a).take k) (M := 1000000) fun y hy => h2 y (List.mem_of_mem_take (List.mem_of_mem_drop (List.mem_of_mem_take hy)))
  have hlen : ((((x.Runs.take b).drop a).take k).length : Int) ≤ 1000 := by simp; omega
  rw [← hs] at hb2
  refine .eq (by rw [idx_nat]; exact hr) (.nx ⟨m - 1, by omega, k + 1, ?_, by omega, ?_⟩)
  ·show w64 (((a + k : Nat) : Int) + 1) = _
   rw [w64_id (by omega)]; omega
  ·show w64 (s + r) = _
   rw [w64_id (by omega), sum_take_succ hr2, hs]
 ·rw [hs, List.take_of_length_le (by rw [List.length_drop, List.length_take]; omega)]
theorem good_line {n : Network} (h : Good n) {k : Int} {l : Line} (hl : idx n.Lines k = some l) : LineP n.Stops.length l := h.2.2.2.2 _ l (idx_some hl).2.2
theorem line_stop {st : Nat} {l : Line} (h : LineP st l) {j : Nat} {s : Int} (hs : l.Stops[j]? = some s) : 0 ≤ s ∧ s < (st : Int) := (h.2.2.1 j s hs).1
theorem line_runs {st : Nat} {l : Line} (h : LineP st l) : (l.Runs.length + 1 = l.Stops.length ∧ 1 ≤ l.Runs.length ∧ l.Runs.length ≤ 5) ∧ ∀ r ∈ l.Runs, 1 ≤ r ∧ r ≤ 60 := by
 obtain ⟨h1, h2, h3, h4⟩ := h
 refine ⟨by omega, fun r hr => ?_⟩
 obtain ⟨i, hi⟩ := List.getElem?_of_mem hr
 exact h4 i r hi
theorem runs_sum {st : Nat} {l : Line} (h : LineP st l) (k : Nat) : 0 ≤ (l.Runs.take k).sum ∧ (l.Runs.take k).sum ≤ 300 := by
 obtain ⟨⟨h1, h2, h3⟩, h4⟩ := line_runs h
 have := sum_bd (l := l.Runs.take k) (M := 60) fun x hx => by have := h4 x (List.mem_of_mem_take hx); omega
 have hl : ((l.Runs.take k).length : Int) ≤ 5 := by simp; omega
 omega
theorem runs_sum' {st : Nat} {l : Line} (h : LineP st l) : 0 ≤ l.Runs.sum ∧ l.Runs.sum ≤ 300 := by
 have := runs_sum h l.Runs.length
 rwa [List.take_length] at this
theorem endOf_eq {t : Timetable} (hg : Good t.Network) {x : Trip} {l : Line} (hl : idx t.Network.Lines x.Line = some l) (hs : 0 ≤ x.Start ∧ x.Start ≤ 1799) : zq16 t x = some (x.Start + l.Runs.sum) := by
 have h := good_line hg hl
 obtain ⟨⟨h1, h2, h3⟩, h4⟩ := line_runs h
 have h5 := runs_sum' h
 unfold zq16
 rw [hl]
 simp only [qb]
 rw [total_eq l.Runs (by omega) (fun x hx => by have := h4 x hx; omega)]
 simp (disch := omega) only [if_pos, if_neg, decide_eq_true_eq, decide_true, decide_false, Bool.not_true, Bool.not_false, Bool.false_eq_true, Bool.not_eq_true', decide_eq_false_iff_not, if_true, if_false, w64_id, chk_of, idx_nat, qb, Option.map_some, Int.toNat_natCast, not_true_eq_false, not_false_eq_true, true_and, and_true, and_self, false_and, and_false, reduceIte, flb_go, flb_ret, beq_self_eq_true, ne_eq, bne_self_eq_false]
theorem l5Line_eq {t : Timetable} {i : Nat} {x : Trip} {l : Line} (hx : t.Trips[i]? = some x) (hl : idx t.Network.Lines x.Line = some l) : zq89 t (i : Int) = some l := by
 unfold zq89
 simp (disch := omega) only [if_pos, if_neg, decide_eq_true_eq, decide_true, decide_false, Bool.not_true, Bool.not_false, Bool.false_eq_true, Bool.not_eq_true', decide_eq_false_iff_not, if_true, if_false, w64_id, chk_of, idx_nat, qb, Option.map_some, Int.toNat_natCast, not_true_eq_false, not_false_eq_true, true_and, and_true, and_self, false_and, and_false, reduceIte, flb_go, flb_ret, beq_self_eq_true, ne_eq, bne_self_eq_false, hx, hl]
theorem l5Stops_eq {t : Timetable} {i : Nat} {x : Trip} {l : Line} (hx : t.Trips[i]? = some x) (hl : idx t.Network.Lines x.Line = some l) : zq90 t (i : Int) = some l.Stops := by
 unfold zq90
 rw [l5Line_eq hx hl]; rfl
theorem l5At_eq {t : Timetable} (hg : Good t.Network) {i : Nat} {x : Trip} {l : Line} (hx : t.Trips[i]? = some x) (hl : idx t.Network.Lines x.Line = some l) (hs : 0 ≤ x.Start ∧ x.Start ≤ 1799) {k : Nat} (hk : k ≤ l.Runs.length) : zq85 t (i : Int) (k : Int) = some (x.Start + (l.Runs.take k).sum) := by
 have h := good_line hg hl
 obtain ⟨⟨h1, h2, h3⟩, h4⟩ := line_runs h
 have h5 := runs_sum h k
 have e := l2Run_eq l 0 k (by omega) hk (by omega) (fun x hx => by have := h4 x hx; omega)
 rw [List.drop_zero] at e
 have e' : zq83 l 0 (k : Int) = some (l.Runs.take k).sum := e
 unfold zq85
 simp (disch := omega) only [if_pos, if_neg, decide_eq_true_eq, decide_true, decide_false, Bool.not_true, Bool.not_false, Bool.false_eq_true, Bool.not_eq_true', decide_eq_false_iff_not, if_true, if_false, w64_id, chk_of, idx_nat, qb, Option.map_some, Int.toNat_natCast, not_true_eq_false, not_false_eq_true, true_and, and_true, and_self, false_and, and_false, reduceIte, flb_go, flb_ret, beq_self_eq_true, ne_eq, bne_self_eq_false, hx, l5Line_eq hx hl, e']
theorem l5End_eq {t : Timetable} (hg : Good t.Network) {i : Nat} {x : Trip} {l : Line} (hx : t.Trips[i]? = some x) (hl : idx t.Network.Lines x.Line = some l) (hs : 0 ≤ x.Start ∧ x.Start ≤ 1799) : zq86 t (i : Int) = some (x.Start + l.Runs.sum) := by
 have h := good_line hg hl
 obtain ⟨⟨h1, h2, h3⟩, h4⟩ := line_runs h
 have e : w64 ((l.Stops.length : Int) - 1) = (l.Runs.length : Int) := by rw [w64_id (by omega)]; omega
 unfold zq86
 rw [l5Stops_eq hx hl]
 simp only [qb, e, l5At_eq hg hx hl hs (Nat.le_refl _), List.take_length]
def TripsP (t : Timetable) : Prop := (∀ (i : Nat) x, t.Trips[i]? = some x → TripP t.Network x) ∧ ∀ (i : Nat) a b, t.Trips[i]? = some a → t.Trips[i + 1]? = some b → a.Id < b.Id
noncomputable instance (t : Timetable) : Decidable (TripsP t) := Classical.propDecidable _
theorem trip_i {t : Timetable} (hb : TB t) (hg : Good t.Network) (x : Trip) (last : Int) (hlast : 0 ≤ last) : ((if (decide (x.Id ≤ last)) = true then some true else if (decide (999 < x.Id)) = true then some true else (zq19 t.Network x.Line).bind fun r =>
   if (!r) = true then some true else (zq5 x.Start).bind fun r1 =>
   if (!r1) = true then some true else (zq16 t x).bind fun r2 =>
   (zq5 r2).bind fun r3 =>
   some (!r3))) = some (!decide (last < x.Id ∧ TripP t.Network x)) := by
 by_cases c1 : x.Id ≤ last
 ·have : ¬ (last < x.Id ∧ TripP t.Network x) := fun h => by omega
  simp [c1, this]
 ·by_cases c2 : 999 < x.Id
  ·have : ¬ (last < x.Id ∧ TripP t.Network x) := fun h => by have := h.2.1; omega
   simp [c1, c2, this]
  ·simp only [isLine_eq, time_eq, qb, c1, c2, decide_false, Bool.false_eq_true, if_false]
   by_cases c3 : 0 ≤ x.Line ∧ x.Line < (t.Network.Lines.length : Int)
   ·obtain ⟨l, hl, _⟩ := idx_lt (l := t.Network.Lines) c3.1 c3.2
    by_cases c4 : 0 ≤ x.Start ∧ x.Start ≤ 1799
    ·have hT : (last < x.Id ∧ TripP t.Network x) ↔ (0 ≤ x.Start + l.Runs.sum ∧ x.Start + l.Runs.sum ≤ 1799) := by
      constructor
      ·rintro ⟨_, _, l', hl', _, h⟩
       rw [hl] at hl'; cases hl'; exact h
      ·intro h; exact ⟨by omega, ⟨by omega, by omega⟩, l, hl, c4, h⟩
     simp only [c3, c4, and_self, decide_true, Bool.not_true, Bool.false_eq_true, if_false, endOf_eq hg hl c4, time_eq, qb, hT]
    ·have : ¬ (last < x.Id ∧ TripP t.Network x) := fun h => by
      obtain ⟨_, _, l', _, h4, _⟩ := h
      exact c4 h4
     simp only [c3, c4, this, and_self, decide_true, decide_false, Bool.not_true, Bool.not_false, Bool.false_eq_true, if_false, if_true]
   ·have : ¬ (last < x.Id ∧ TripP t.Network x) := fun h => by
     obtain ⟨_, _, l', hl', _⟩ := h
     have := idx_some hl'
     exact c3 ⟨this.1, this.2.1⟩
    simp only [c3, this, decide_false, Bool.not_false, if_true]
theorem areTrips_eq {t : Timetable} (hb : TB t) (hg : Good t.Network) : zq11 t = some (decide (t.Trips.length ≤ 12 ∧ TripsP t)) := by
 unfold zq11
 by_cases h12 : t.Trips.length ≤ 12
 ·have d : decide ((12 : Int) < (t.Trips.length : Int)) = false := by simp; omega
  have e : decide (t.Trips.length ≤ 12 ∧ TripsP t) = decide (TripsP t) := by simp [h12]
  rw [d, e]
  simp only [Bool.false_eq_true, if_false]
  refine flb_dec (.iter (fun m a => ∃ i : Nat, a.2 = (i : Int) ∧ m + i = t.Trips.length ∧ 0 ≤ a.1 ∧ (∀ y, 0 < i → t.Trips[i - 1]? = some y → a.1 = y.Id) ∧ (i = 0 → a.1 = 0) ∧ (∀ (j : Nat) x, j < i → t.Trips[j]? = some x → TripP t.Network x) ∧ ∀ (j : Nat) a b, j + 1 < i → t.Trips[j]? = some a → t.Trips[j + 1]? = some b → a.Id < b.Id)
   (n := t.Trips.length) ⟨0, rfl, rfl, by simp, by simp, by simp, fun j x h => by omega, fun j a b h => by omega⟩ ?_)
  rintro m ⟨last, v⟩ ⟨i, hv, hm, h0, h1, h2, h3, h4⟩
  simp only at hv h0 h1 h2
  subst hv
  unfold zq11_L1
  refine .iteP (fun hc => ?_) (fun hc => .dn (.inl ⟨rfl, fun j x hx => h3 j x (by have := get_lt hx; omega) hx, fun j a b ha hb' => h4 j a b (by have := get_lt hb'; omega) ha hb'⟩))
  obtain ⟨x, hx⟩ := get_ex (l := t.Trips) (i := i) (by omega)
  refine .eq (by rw [idx_nat]; exact hx) (.eq (trip_i hb hg x last h0) (.iteN (fun hn => .dn (.inr ⟨rfl, fun hp => hn ⟨?_, hp.1 i x hx⟩⟩)) (fun hp => .nx ⟨m - 1, by omega, i + 1, w64_succ (by omega), by omega, ?_, ?_, by simp, ?_, ?_⟩)))
  ·by_cases hi : i = 0
   ·rw [h2 hi]; have := (hp.1 i x hx).1; omega
   ·obtain ⟨y, hy⟩ := get_ex (l := t.Trips) (i := i - 1) (by omega)
    rw [h1 y (by omega) hy]
    exact hp.2 (i - 1) y x hy (by rw [show i - 1 + 1 = i by omega]; exact hx)
  ·show 0 ≤ x.Id
   have := hp.2.1; omega
  ·intro y _ hy
   rw [show i + 1 - 1 = i by omega, hx] at hy; cases hy; rfl
  ·intro j y hj hy
   by_cases hji : j = i
   ·subst hji; rw [hx] at hy; cases hy; exact hp.2
   ·exact h3 j y (by omega) hy
  ·intro j a b hj ha hb'
   by_cases hji : j + 1 = i
   ·subst hji; rw [hx] at hb'; cases hb'
    have := h1 a (by omega) (by simpa using ha)
    omega
   ·exact h4 j a b (by omega) ha hb'
 ·have d : decide ((12 : Int) < (t.Trips.length : Int)) = true := by simp; omega
  simp [d, h12]
def TripQ (t : Timetable) (i : Nat) (x : Trip) : Prop := TripP t.Network x ∧ ∀ y, 0 < i → t.Trips[i - 1]? = some y → y.Id < x.Id
noncomputable instance (t : Timetable) (i : Nat) (x : Trip) : Decidable (TripQ t i x) := Classical.propDecidable _
theorem goodT_iff (t : Timetable) : GoodT t ↔ Good t.Network ∧ t.Trips.length ≤ 12 ∧ TripsP t := Iff.rfl
theorem validT_eq {t : Timetable} (hb : TB t) : zq6 t = some (decide (GoodT t)) := by
 unfold zq6
 rw [valid_eq _ hb.1]
 by_cases hg : Good t.Network
 ·simp only [hg, decide_true, if_true, qb, areTrips_eq hb hg, goodT_iff, true_and]
 ·have : ¬ GoodT t := fun h => hg h.1
  simp [hg, this]
theorem goodT_eq {t : Timetable} (hb : TB t) : zq88 t = some (decide (GoodT t)) := by
 unfold zq88
 rw [good_eq _ hb.1]
 by_cases hg : Good t.Network
 ·by_cases h12 : t.Trips.length ≤ 12
  ·have d : decide ((12 : Int) < (t.Trips.length : Int)) = false := by simp; omega
   have e : decide (GoodT t) = decide (TripsP t) := by rw [decide_eq_decide, goodT_iff]; simp [hg, h12]
   simp only [hg, decide_true, Bool.not_true, Bool.false_eq_true, if_false, qb, d, e]
   refine flb_dec (.iter (fun m a => ∃ i : Nat, a = (i : Int) ∧ m + i = t.Trips.length ∧ (∀ (j : Nat) x, j < i → t.Trips[j]? = some x → TripP t.Network x) ∧ ∀ (j : Nat) a b, j + 1 < i → t.Trips[j]? = some a → t.Trips[j + 1]? = some b → a.Id < b.Id)
    (n := t.Trips.length) ⟨0, rfl, rfl, fun j x h => by omega, fun j a b h => by omega⟩ ?_)
   rintro m v ⟨i, hv, hm, h3, h4⟩
   subst hv
   unfold zq88_L1
   refine .iteP (fun hc => ?_) (fun hc => .dn (.inl ⟨rfl, fun j x hx => h3 j x (by have := get_lt hx; omega) hx, fun j a b ha hb' => h4 j a b (by have := get_lt hb'; omega) ha hb'⟩))
   obtain ⟨x, hx⟩ := get_ex (l := t.Trips) (i := i) (by omega)
   refine .eq (by rw [idx_nat]; exact hx) ?_
   have hll := hg.2.1
   have ew : w64 ((t.Network.Lines.length : Int) - 1) = (t.Network.Lines.length : Int) - 1 := w64_id (by omega)
   have key : ((zq67 x.Id 1 999).bind fun r6 =>
   (if (!r6) = true then some true else (zq67 x.Line 0 (w64 ((t.Network.Lines.length : Int) - 1))).bind fun r7 =>
   if (!r7) = true then some true else (zq84 x.Start).bind fun r8 =>
   if (!r8) = true then some true else (zq86 t (i : Int)).bind fun r9 =>
   (zq84 r9).bind fun r10 =>
   if (!r10) = true then some true else if (decide (0 < (i : Int))) = true then (idx t.Trips (w64 ((i : Int) - 1))).bind fun e2 =>
   some (decide (x.Id ≤ e2.Id)) else some false)) = some (!decide (TripQ t i x)) := by
    have no : ¬ TripP t.Network x → (!decide (TripQ t i x)) = true := fun h => (by simp [show ¬ TripQ t i x from fun q => h q.1])
    simp only [l1In_eq, l4Time_eq, ew, qb]
    by_cases c1 : 1 ≤ x.Id ∧ x.Id ≤ 999
    ·by_cases c3 : 0 ≤ x.Line ∧ x.Line ≤ (t.Network.Lines.length : Int) - 1
     ·obtain ⟨l, hl, _⟩ := idx_lt (l := t.Network.Lines) c3.1 (by omega)
      by_cases c4 : 0 ≤ x.Start ∧ x.Start ≤ 1799
      ·simp only [c1, c3, c4, and_self, decide_true, Bool.not_true, Bool.false_eq_true, if_false, l5End_eq hg hx hl c4, l4Time_eq, qb]
       by_cases c5 : 0 ≤ x.Start + l.Runs.sum ∧ x.Start + l.Runs.sum ≤ 1799
       ·have hT : TripP t.Network x := ⟨c1, l, hl, c4, c5⟩
        simp only [c5, and_self, decide_true, Bool.not_true, Bool.false_eq_true, if_false, ]
        by_cases c6 : 0 < i
        ·obtain ⟨y, hy⟩ := get_ex (l := t.Trips) (i := i - 1) (by omega)
         have e1 : w64 ((i : Int) - 1) = ((i - 1 : Nat) : Int) := by rw [w64_id (by omega)]; omega
         have c6' : (0 : Int) < (i : Int) := by omega
         simp only [c6', decide_true, if_true, e1, idx_nat, hy, qb, Option.some.injEq]
         by_cases c7 : x.Id ≤ y.Id
         ·have : ¬ TripQ t i x := fun h => by have := h.2 y c6 hy; omega
          simp only [c7, decide_true, this, decide_false, Bool.not_false]
         ·have : TripQ t i x := ⟨hT, fun z _ hz => by rw [hy] at hz; cases hz; omega⟩
          simp only [c7, decide_false, this, decide_true, Bool.not_true]
        ·have c6' : ¬ (0 : Int) < (i : Int) := by omega
         have : TripQ t i x := ⟨hT, fun z h0 _ => absurd h0 c6⟩
         simp only [c6', decide_false, Bool.false_eq_true, if_false, this, decide_true, Bool.not_true]
       ·rw [no (fun hT => by
         obtain ⟨_, l', hl', _, h⟩ := hT
         rw [hl] at hl'; cases hl'; exact c5 h)]
        simp only [c5, decide_false, Bool.not_false, if_true]
      ·rw [no (fun hT => by obtain ⟨_, l', _, h, _⟩ := hT; exact c4 h)]
       simp only [c1, c3, c4, and_self, decide_true, decide_false, Bool.not_true, Bool.not_false, Bool.false_eq_true, if_false, if_true]
     ·rw [no (fun hT => by
       obtain ⟨_, l', hl', _⟩ := hT
       have := idx_some hl'
       exact c3 ⟨this.1, by omega⟩)]
      simp only [c1, c3, and_self, decide_true, decide_false, Bool.not_true, Bool.not_false, Bool.false_eq_true, if_false, if_true]
    ·rw [no (fun hT => c1 hT.1)]
     simp only [c1, decide_false, Bool.not_false, if_true]
   rw [bind_assoc', key]
   refine .iteN (fun hn => .dn (.inr ⟨rfl, fun hp => hn ⟨hp.1 i x hx, fun y hi hy => hp.2 (i - 1) y x hy (by rw [show i - 1 + 1 = i by omega]; exact hx)⟩⟩)) (fun hp => .nx ⟨m - 1, by omega, i + 1, w64_succ (by omega), by omega, ?_, ?_⟩)
   ·intro j y hj hy
    by_cases hji : j = i
    ·subst hji; rw [hx] at hy; cases hy; exact hp.1
    ·exact h3 j y (by omega) hy
   ·intro j a b hj ha hb'
    by_cases hji : j + 1 = i
    ·subst hji; rw [hx] at hb'; cases hb'
     exact hp.2 a (by omega) (by simpa using ha)
    ·exact h4 j a b (by omega) ha hb'
  ·have d : decide ((12 : Int) < (t.Trips.length : Int)) = true := by simp; omega
   have : ¬ GoodT t := fun h => h12 h.2.1
   simp [hg, d, this]
 ·have : ¬ GoodT t := fun h => hg h.1
  simp [hg, this]
theorem tripIndex_eq (t : Timetable) (h : t.Trips.length ≤ 1000) (id : Int) : zq32 t id = some (fixI (fun x => x.Id == id) t.Trips) := by
 unfold zq32 zq95 zq94
 rw [find_val t.Trips (fun x => x.Id == id) (fun i x hx => ?_) (by unfold zq94_L1; simp)]
 ·rfl
 ·have := get_lt hx
  unfold zq94_L1 zq33
  simp (disch := omega) only [if_pos, if_neg, decide_eq_true_eq, decide_true, decide_false, Bool.not_true, Bool.not_false, Bool.false_eq_true, Bool.not_eq_true', decide_eq_false_iff_not, if_true, if_false, w64_id, chk_of, idx_nat, qb, Option.map_some, Int.toNat_natCast, not_true_eq_false, not_false_eq_true, true_and, and_true, and_self, false_and, and_false, reduceIte, flb_go, flb_ret, beq_self_eq_true, ne_eq, bne_self_eq_false, hx, Int.ofNat_lt.2 this]
  split <;> simp [*] <;> omega
theorem l5Find_eq (t : Timetable) (h : t.Trips.length ≤ 1000) (id : Int) : zq87 t id = some (fixI (fun x => x.Id == id) t.Trips) := by
 unfold zq87
 rw [find_val t.Trips (fun x => x.Id == id) (fun i x hx => ?_) (by unfold zq87_L1; simp)]
 have := get_lt hx
 unfold zq87_L1
 simp (disch := omega) only [if_pos, if_neg, decide_eq_true_eq, decide_true, decide_false, Bool.not_true, Bool.not_false, Bool.false_eq_true, Bool.not_eq_true', decide_eq_false_iff_not, if_true, if_false, w64_id, chk_of, idx_nat, qb, Option.map_some, Int.toNat_natCast, not_true_eq_false, not_false_eq_true, true_and, and_true, and_self, false_and, and_false, reduceIte, flb_go, flb_ret, beq_self_eq_true, ne_eq, bne_self_eq_false, hx, Int.ofNat_lt.2 this]
 split <;> simp [*] <;> omega
theorem lineOf_eq {t : Timetable} {x : Trip} {l : Line} (hl : idx t.Network.Lines x.Line = some l) : zq26 t x = some l := by
 unfold zq26; rw [hl]; rfl
theorem trip_line {t : Timetable} (h : GoodT t) {i : Nat} {x : Trip} (hx : t.Trips[i]? = some x) : ∃ l, idx t.Network.Lines x.Line = some l ∧ LineP t.Network.Stops.length l ∧ (1 ≤ x.Id ∧ x.Id ≤ 999) ∧ (0 ≤ x.Start ∧ x.Start ≤ 1799) ∧ 0 ≤ x.Start + l.Runs.sum ∧ x.Start + l.Runs.sum ≤ 1799 := by
 obtain ⟨h1, l, hl, h2, h3⟩ := h.2.2.1 i x hx
 exact ⟨l, hl, good_line h.1 hl, h1, h2, h3⟩
theorem ids_lt {t : Timetable} (h : GoodT t) {i j : Nat} {a b : Trip} (hij : i < j) (ha : t.Trips[i]? = some a) (hb : t.Trips[j]? = some b) : a.Id < b.Id := by
 induction j generalizing b with
 | zero => omega
 | succ j ih =>
  obtain ⟨c, hc⟩ := get_ex (l := t.Trips) (i := j) (by have := get_lt hb; omega)
  have h1 := h.2.2.2 j c b hc hb
  by_cases hji : i = j
  ·subst hji; rw [ha] at hc; cases hc; exact h1
  ·have := ih (by omega) hc; omega
theorem trip_fix {t : Timetable} (h : GoodT t) {i : Nat} {x : Trip} (hx : t.Trips[i]? = some x) : fixI (fun y => y.Id == x.Id) t.Trips = (i : Int) := by
 refine fixI_of hx (by simp) fun j y hj hy => ?_
 have := ids_lt h hj hy hx
 simp; omega
theorem network_ok {k : Nat} {c : l1Cur} (h : Cur k c) (hk : k ≤ 500000000) : ∃ r, zq56 c = some r ∧ Cur (k + 300) r.2 ∧ NB r.1 := networkT_ok h hk
theorem anyNet_ok {k : Nat} {c : l1Cur} (h : Cur k c) (hk : k ≤ 200000000) : Tot (zq50 c) fun r => Cur (k + 1000) r.2 ∧ Bd r.1 := anyNetwork_ok h hk
def DT (t : Timetable) : Prop := Bd t.Network ∧ t.Trips.length ≤ 30
theorem DT.tb {t : Timetable} (h : DT t) : TB t := ⟨h.1, by have := h.2; omega⟩
theorem timetable_ok {k : Nat} {c : l1Cur} (h : Cur k c) (hk : k ≤ 100000000) : Tot (zq64 c) fun r => Cur (k + 400) r.2 ∧ DT r.1 ∧ NB r.1.Network ∧ r.1.Trips.length ≤ 8 := by
 unfold zq64
 refine .call (networkT_ok h (by omega)) fun r ⟨hc, hn⟩ => .call (pick_ok 8 hc (by omega)) fun r1 ⟨hc1, h0, h1⟩ => ?_
 refine .call (P := fun o => Cur (k + 400) ⟨o.1, o.2.1, ⟨o.2.2.1⟩⟩ ∧ o.2.2.2.length ≤ 8) ?_ fun o ⟨ho1, ho2⟩ => .ok ⟨ho1, ⟨hn.bd, by show o.2.2.2.length ≤ 30; omega⟩, hn, ho2⟩
 refine .iter (fun m s => s.2.1 = (m : Int) ∧ m + s.2.2.2.2.2.length ≤ 8 ∧ Cur (k + 302 + 6 * (8 - m)) ⟨s.2.2.1, s.2.2.2.1, ⟨s.2.2.2.2.1⟩⟩) (n := r1.1.toNat) ⟨by show r1.1 = _; omega, by show r1.1.toNat + 0 ≤ 8; omega, hc1.mono (by omega)⟩ ?_
 rintro m ⟨n, v, v1, v2, v3, v4⟩ ⟨hv, hl, hcur⟩
 simp only at hv hl hcur
 subst hv
 unfold zq64_L1
 refine .iteP (fun hc => ?_) (fun hc => .dn ⟨hcur.mono (by omega), by show v4.length ≤ 8; omega⟩)
 refine .call (pick_ok 3 hcur (by omega)) fun r2 ⟨hc2, _⟩ => .call (pick_ok _ hc2 (by omega)) fun r5 ⟨hc5, _⟩ => .call (pick_ok 24 hc5 (by omega)) fun r6 ⟨hc6, _⟩ => .chk (by simp; omega) (.nx ⟨m - 1, by omega, ?_, ?_, ?_⟩)
 ·show w64 ((m : Int) - 1) = _; rw [w64_id (by omega)]; omega
 ·show m - 1 + (v4 ++ [_]).length ≤ 8; simp; omega
 ·exact hc6.mono (by omega)
theorem anyTimetable_ok {k : Nat} {c : l1Cur} (h : Cur k c) (hk : k ≤ 50000000) : Tot (zq51 c) fun r => Cur (k + 2000) r.2 ∧ DT r.1 := by
 unfold zq51
 refine .call (timetable_ok h (by omega)) fun r ⟨hc, hd, hn, hl⟩ => ?_
 refine .ite (fun _ => .ok ⟨hc.mono (by omega), hd⟩) fun he => ?_
 have hpos : 0 < r.1.Trips.length := by
  have : (r.1.Trips.length : Int) ≠ 0 := by simpa using he
  omega
 refine .call (pick_ok _ hc (by omega)) fun r1 ⟨hc1, h10, h11⟩ => ?_
 have h12 : r1.1 < (r.1.Trips.length : Int) := by omega
 refine .idx h10 h12 fun e _ => ?_
 have fin : ∀ (v : List UInt8) (v1 v2 : Int) (v3 : List Line) (v4 v5 v6 : Int) (v7 : List ByteArray), Cur (k + 2000) ⟨v, v1, ⟨v2⟩⟩ → Bd ⟨v7, v3⟩ → Tot ((idx r.1.Trips r1.1).bind fun e2 => some ((⟨(⟨v7, v3⟩ : Network), (r.1.Trips.set r1.1.toNat (⟨v4, v5, v6⟩ : Trip))⟩ : Timetable), (⟨v, v1, (⟨v2⟩ : IK .u64)⟩ : l1Cur))) fun r => Cur (k + 2000) r.2 ∧ DT r.1 := fun v v1 v2 v3 v4 v5 v6 v7 q1 q2 =>
  .idx h10 h12 fun e2 _ => .ok ⟨q1, q2, by show (r.1.Trips.set _ _).length ≤ 30; rw [List.length_set]; omega⟩
 refine .flb (.call (pick_ok 24 hc1 (by omega)) fun r2 ⟨hc2, _⟩ => ?_)
 refine .ite (fun _ => .call (among_ok _ (by simp) hc2 (by omega)) fun r3 ⟨hc3, _⟩ => .go (fin _ _ _ _ _ _ _ _ (hc3.mono (by omega)) hd.1)) fun _ => ?_
 refine .ite (fun _ => .call (pick_ok 7 hc2 (by omega)) fun r3 ⟨hc3, _⟩ => .go (fin _ _ _ _ _ _ _ _ (hc3.mono (by omega)) hd.1)) fun _ => ?_
 refine .ite (fun _ => .call (among_ok _ (by simp) hc2 (by omega)) fun r3 ⟨hc3, _⟩ => .go (fin _ _ _ _ _ _ _ _ (hc3.mono (by omega)) hd.1)) fun _ => ?_
 refine .ite (fun _ => .call (anyNet_ok hc2 (by omega)) fun r3 ⟨hc3, hb⟩ => .go (fin _ _ _ _ _ _ _ _ (hc3.mono (by omega)) hb)) fun _ => ?_
 refine .ite (fun _ => ?_) fun _ => .go (fin _ _ _ _ _ _ _ _ (hc2.mono (by omega)) hd.1)
 refine .call (P := fun o => Cur (k + 2000) ⟨o.1, o.2.1, ⟨o.2.2.1⟩⟩ ∧ o.2.2.2.length ≤ 30) ?_ fun o ⟨ho1, ho2⟩ => .ret ⟨ho1, hd.1, ho2⟩
 refine .iter (fun m s => ∃ i : Nat, s.1 = (i : Int) ∧ m + i = 14 ∧ s.2.2.2.2.length ≤ 8 + i ∧ Cur (k + 500 + 2 * i) ⟨s.2.1, s.2.2.1, ⟨s.2.2.2.1⟩⟩) (n := 14) ⟨0, rfl, rfl, by simpa using hl, hc2.mono (by omega)⟩ ?_
 rintro m ⟨v8, v9, v10, v11, v12⟩ ⟨i, hv, hm, hl12, hcur⟩
 simp only at hv hl12 hcur
 subst hv
 unfold zq51_L1
 refine .call (pick_ok 2 hcur (by omega)) fun r8 ⟨hc8, _⟩ => ?_
 refine .call (P := fun b => b = true → i < 14) (.ite (fun _ => .ok fun hb => by simp at hb; omega) fun _ => .ok fun hb => by cases hb) fun b hb => ?_
 refine .ite (fun ht => .chk (by simp; omega) (.nx ⟨m - 1, by have := hb ht; omega, i + 1, w64_succ (by omega), by have := hb ht; omega, ?_, hc8.mono (by omega)⟩)) (fun _ => .dn ⟨hc8.mono (by omega), by show v12.length ≤ 30; omega⟩)
 show (v12 ++ [_]).length ≤ 8 + (i + 1); simp; omega
theorem trips_ok {k : Nat} {c : l1Cur} (h : Cur k c) (hk : k ≤ 40000000) : Tot (zq65 c) fun r => Cur (k + 3000) r.2 ∧ DT r.1 := by
 unfold zq65
 refine .call (one_ok 16 h (by omega)) fun r hc => ?_
 refine .ite (fun _ => .call (anyTimetable_ok hc (by omega)) fun r1 ⟨hc1, hd⟩ => .ok ⟨hc1.mono (by omega), hd⟩) fun _ => ?_
 refine .call (networkT_ok hc (by omega)) fun r2 ⟨hc2, hn⟩ => .call (pick_ok 6 hc2 (by omega)) fun r3 ⟨hc3, h30, h31⟩ => ?_
 refine .call (P := fun o => Cur (k + 3000) ⟨o.1, o.2.1, ⟨o.2.2.1⟩⟩ ∧ o.2.2.2.length ≤ 10) ?_ fun o ⟨ho1, ho2⟩ => ?_
 ·refine .iter (fun m s => s.1 = (m : Int) ∧ m + s.2.2.2.2.length ≤ 10 ∧ Cur (k + 310 + 6 * (10 - m)) ⟨s.2.1, s.2.2.1, ⟨s.2.2.2.1⟩⟩) (n := 3 + r3.1.toNat) ⟨by show w64 (3 + r3.1) = _; rw [w64_id (by omega)]; omega, by show 3 + r3.1.toNat + 0 ≤ 10; omega, hc3.mono (by omega)⟩ ?_
  rintro m ⟨i, v, v1, v2, v3⟩ ⟨hv, hl, hcur⟩
  simp only at hv hl hcur
  subst hv
  unfold zq65_L1
  refine .iteP (fun hc => ?_) (fun hc => .dn ⟨hcur.mono (by omega), by show v3.length ≤ 10; omega⟩)
  refine .call (pick_ok 2 hcur (by omega)) fun r7 ⟨hc7, _⟩ => .call (pick_ok _ hc7 (by omega)) fun r8 ⟨hc8, _⟩ => .call (pick_ok 16 hc8 (by omega)) fun r9 ⟨hc9, _⟩ => .chk (by simp; omega) (.nx ⟨m - 1, by omega, ?_, ?_, ?_⟩)
  ·show w64 ((m : Int) - 1) = _; rw [w64_id (by omega)]; omega
  ·show m - 1 + (v3 ++ [_]).length ≤ 10; simp; omega
  ·exact hc9.mono (by omega)
 ·refine .call (P := fun l => l.length ≤ 10) ?_ fun l hl => .ok ⟨ho1, hn.bd, by show l.length ≤ 30; omega⟩
  refine .iter (fun m s => ∃ i : Nat, s.1 = (i : Int) ∧ 1 ≤ i ∧ m + i = 11 ∧ s.2.length ≤ 10) (n := 10) ⟨1, rfl, by omega, by omega, ho2⟩ ?_
  rintro m ⟨x, v8⟩ ⟨i, hx, h1, hm, hl⟩
  simp only at hx hl
  subst hx
  unfold zq65_L2
  refine .iteP (fun hc => ?_) (fun hc => .dn hl)
  have e1 : w64 ((i : Int) - 1) = (i : Int) - 1 := w64_id (by omega)
  refine .idx (by omega) hc fun e _ => ?_
  rw [e1]
  refine .idx (by omega) (by omega) fun e2 _ => ?_
  refine .call (P := fun _ => True) ?_ fun r11 _ => .idx (by omega) hc fun e3 _ => .nx ⟨m - 1, by omega, i + 1, w64_succ (by omega), by omega, by omega, by show (v8.set _ _).length ≤ 10; rw [List.length_set]; exact hl⟩
  unfold zq69
  exact .ite (fun _ => .ok trivial) fun _ => .ok trivial
theorem idOf_ok {k : Nat} {c : l1Cur} (t : Timetable) (h : Cur k c) (hk : k ≤ 1000000000) : Tot (zq53 c t) fun r => Cur (k + 4) r.2 := by
 unfold zq53
 refine .call (P := fun o => Cur (k + 2) ⟨o.2.1, o.2.2.1, ⟨o.2.2.2⟩⟩ ∧ (o.1 = false → 0 < t.Trips.length)) (.ite (fun _ => .ok ⟨h.mono (by omega), fun h => by cases h⟩) fun he => .call (one_ok 8 h (by omega)) fun r hc => .ok ⟨hc, fun _ => ?_⟩) fun o ⟨ho, hz⟩ => ?_
 ·have : (t.Trips.length : Int) ≠ 0 := by simpa using he
  omega
 ·refine .ite (fun _ => .call (pick_ok 30 ho (by omega)) fun r1 ⟨hc1, _⟩ => .ok (hc1.mono (by omega))) fun hf => ?_
  have := hz hf
  refine .call (pick_ok _ ho (by omega)) fun r3 ⟨hc3, h0, h1⟩ => .idx h0 (by omega) fun e _ => .ok (hc3.mono (by omega))
theorem t_pick {k : Nat} {c : l1Cur} (n : Int) (h : Cur k c) (hk : k ≤ 3000000000) : Tot (zq62 c n) fun r => Cur (k + 2) r.2 ∧ 0 ≤ r.1 ∧ (r.1 < n ∨ r.1 = 0) := pick_ok n h hk
theorem t_one {k : Nat} {c : l1Cur} (n : Int) (h : Cur k c) (hk : k ≤ 3000000000) : Tot (zq61 c n) fun r => Cur (k + 2) r.2 := one_ok n h hk
theorem t_amongw {k : Nat} {c : l1Cur} (l : List Int) (hl : l ≠ []) (h : Cur k c) (hk : k ≤ 3000000000) : Tot (zq49 c l) fun r => Cur (k + 2) r.2 ∧ r.1 ∈ l := amongw_ok l hl h hk
theorem vBig_eq (code : List UInt8) : zq98 code = some (decide (65536 < (code.length : Int))) := rfl
theorem compare_int (x y : Int) : zq0 x y = some (if x < y then -1 else if y < x then 1 else 0) := by
 unfold zq0 zq2
 by_cases h : x < y
 ·simp [h]
 ·by_cases h2 : y < x <;> simp [h, h2]
theorem idx0 {α : Type} (l : List α) : idx l 0 = l[0]? := idx_nat l 0
theorem vInts_refl (a : List Int) (h : a.length ≤ 1000) : zq99 a a = some true := by
 unfold zq99
 simp only [bne_self_eq_false, Bool.false_eq_true, if_false]
 rw [all_val (hd := Classical.propDecidable _) a (fun _ _ => True) (fun i x hx => ?_) (by unfold zq99_L1; simp)]
 ·rw [if_pos (fun _ _ _ => trivial)]
 ·have hi := (List.getElem?_eq_some_iff.1 hx).1
  unfold zq99_L1
  have hlt : decide ((i : Int) < (a.length : Int)) = true := by simp; omega
  left
  simp only [hlt, if_true, idx_nat, hx, qb, bne_self_eq_false, Bool.false_eq_true, if_false, w64_succ (n := i) (by omega), and_self]
theorem l1Has_eq (l : List Int) (hl : l.length ≤ 100000) (x : Int) : zq66 l x = some (decide (x ∈ l)) := by
 unfold zq66
 rw [find_loop l (fun e => e == x) (fun _ => true) (fun i y hy => ?_) (by unfold zq66_L1; simp)]
 ·by_cases h : x ∈ l
  ·have : l.findIdx? (fun e => e == x) ≠ none := fun hn => by
    have := List.findIdx?_eq_none_iff.1 hn x h
    simp at this
   cases hf : l.findIdx? (fun e => e == x) with
   | none => exact absurd hf this
   | some i => simp [h]
  ·have : l.findIdx? (fun e => e == x) = none := List.findIdx?_eq_none_iff.2 fun y hy => by
    simp only [beq_eq_false_iff_ne, ne_eq]
    intro e; subst e; exact h hy
   rw [this]; simp [h]
 ·have hi := get_lt hy
  unfold zq66_L1
  have hlt : decide ((i : Int) < (l.length : Int)) = true := by simp; omega
  simp only [hlt, if_true, idx_nat, hy, qb, w64_succ (n := i) (by omega)]
  split <;> rfl
def RowP (st : Nat) (a : Nat) (row : List Int) : Prop := row.length = st ∧ row[a]? = some 0 ∧ ∀ d ∈ row, 0 ≤ d ∧ d ≤ 120
def FleetP (n : Network) (f : Fleet) : Prop := f.Dead.length = n.Stops.length ∧ (0 ≤ f.Turn ∧ f.Turn ≤ 30) ∧ ∀ (a : Nat) row, f.Dead[a]? = some row → RowP n.Stops.length a row
def RowsP (st : Nat) (f : Fleet) : Prop := ∀ (a : Nat) row, f.Dead[a]? = some row → RowP st a row
noncomputable instance (st : Nat) (f : Fleet) : Decidable (RowsP st f) := Classical.propDecidable _
noncomputable instance (n : Network) (f : Fleet) : Decidable (FleetP n f) := Classical.propDecidable _
noncomputable instance (st a : Nat) (row : List Int) : Decidable (RowP st a row) := Classical.propDecidable _
def FB (f : Fleet) : Prop := f.Dead.length ≤ 1000 ∧ ∀ row ∈ f.Dead, row.length ≤ 1000
theorem dead_rowI (e : List Int) (he : e.length ≤ 1000) : Tot (iter (zq18_L1 e) (0 : Int)) fun b => (b = .go () ∧ ∀ d ∈ e, 0 ≤ d ∧ d ≤ 120) ∨ (b = .ret (.dn (.ret false)) ∧ ¬ ∀ d ∈ e, 0 ≤ d ∧ d ≤ 120) := by
 refine .iter (fun m v => ∃ i : Nat, v = (i : Int) ∧ m + i = e.length ∧ ∀ (j : Nat) d, j < i → e[j]? = some d → 0 ≤ d ∧ d ≤ 120) (n := e.length) ⟨0, rfl, rfl, fun j d h => by omega⟩ ?_
 rintro m v ⟨i, rfl, hm, h3⟩
 unfold zq18_L1
 refine .iteP (fun hc => ?_) (fun hc => .dn (.inl ⟨rfl, fun d hd => ?_⟩))
 ·obtain ⟨d, hd⟩ := get_ex (l := e) (i := i) (by omega)
  refine .eq (ixs hd) (.eq (within_eq _ _ _) (.iteN (fun hn => .dn (.inr ⟨rfl, fun h => hn (h d (List.mem_of_getElem? hd))⟩)) (fun hp => .nx ⟨m - 1, by omega, i + 1, w64_succ (by omega), by omega, fun j x hj hx => ?_⟩)))
  by_cases hji : j = i
  ·subst hji; rw [hd] at hx; cases hx; exact hp
  ·exact h3 j x (by omega) hx
 ·obtain ⟨j, hj⟩ := List.getElem?_of_mem hd
  exact h3 j d (by have := get_lt hj; omega) hj
theorem dead_rowS {f : Fleet} {a : Nat} {e : List Int} (ha : f.Dead[a]? = some e) (he : e.length ≤ 1000) : Tot (iter (zq44_L1 f (a : Int)) (0 : Int)) fun b => (b = .go () ∧ ∀ d ∈ e, 0 ≤ d ∧ d ≤ 120) ∨ (b = .ret (.dn (.ret false)) ∧ ¬ ∀ d ∈ e, 0 ≤ d ∧ d ≤ 120) := by
 refine .iter (fun m v => ∃ i : Nat, v = (i : Int) ∧ m + i = e.length ∧ ∀ (j : Nat) d, j < i → e[j]? = some d → 0 ≤ d ∧ d ≤ 120) (n := e.length) ⟨0, rfl, rfl, fun j d h => by omega⟩ ?_
 rintro m v ⟨i, rfl, hm, h3⟩
 unfold zq44_L1
 refine .eq (ixs ha) (.iteP (fun hc => ?_) (fun hc => .dn (.inl ⟨rfl, fun d hd => ?_⟩)))
 ·obtain ⟨d, hd⟩ := get_ex (l := e) (i := i) (by omega)
  refine .eq (ixs ha) (.eq (ixs hd) (.eq (l1In_eq _ _ _) (.iteN (fun hn => .dn (.inr ⟨rfl, fun h => hn (h d (List.mem_of_getElem? hd))⟩)) (fun hp => .nx ⟨m - 1, by omega, i + 1, w64_succ (by omega), by omega, fun j x hj hx => ?_⟩))))
  by_cases hji : j = i
  ·subst hji; rw [hd] at hx; cases hx; exact hp
  ·exact h3 j x (by omega) hx
 ·obtain ⟨j, hj⟩ := List.getElem?_of_mem hd
  exact h3 j d (by have := get_lt hj; omega) hj
theorem row_test {st a : Nat} {e : List Int} (ha : a < st) : ((if ((e.length : Int) != (st : Int)) = true then some true else (idx e (a : Int)).bind fun e1 => some (e1 != 0))) = some (!decide (e.length = st ∧ e[a]? = some 0)) := by
 by_cases h1 : e.length = st
 ·obtain ⟨x, hx⟩ := get_ex (l := e) (i := a) (by omega)
  have hb : ((e.length : Int) != (st : Int)) = false := by simp; omega
  rw [hb, idx_nat, hx]
  by_cases h2 : x = 0
  ·subst h2; simp [h1]
  ·simp [h1, h2]
 ·have hb : ((e.length : Int) != (st : Int)) = true := by simp; omega
  simp [hb, h1]
theorem isFleet_eq {n : Network} (hn : n.Stops.length ≤ 1000) {f : Fleet} (hf : FB f) : zq18 n f = some (decide (FleetP n f)) := by
 unfold zq18
 rw [within_eq]
 by_cases h1 : f.Dead.length = n.Stops.length
 ·have hb : ((f.Dead.length : Int) != (n.Stops.length : Int)) = false := by simp; omega
  by_cases h2 : 0 ≤ f.Turn ∧ f.Turn ≤ 30
  ·simp only [hb, h2, and_self, decide_true, Bool.not_true, Bool.false_eq_true, if_false, qb]
   have e : decide (FleetP n f) = decide (RowsP n.Stops.length f) := by
    rw [decide_eq_decide]; unfold FleetP RowsP; simp [h1, h2]
   rw [e]
   refine flb_dec (.iter (fun m v => ∃ i : Nat, v = (i : Int) ∧ m + i = f.Dead.length ∧ ∀ (j : Nat) row, j < i → f.Dead[j]? = some row → RowP n.Stops.length j row) (n := f.Dead.length) ⟨0, rfl, rfl, fun j d h => by omega⟩ ?_)
   rintro m v ⟨i, rfl, hm, h3⟩
   unfold zq18_L2
   refine .iteP (fun hc => ?_) (fun hc => .dn (.inl ⟨rfl, fun j row hj => h3 j row (by have := get_lt hj; omega) hj⟩))
   obtain ⟨row, hr⟩ := get_ex (l := f.Dead) (i := i) (by omega)
   have hrl := hf.2 row (List.mem_of_getElem? hr)
   refine .eq (ixs hr) (.eq (row_test (by omega)) (.iteN (fun hneg => .dn (.inr ⟨rfl, fun h => hneg ⟨(h i row hr).1, (h i row hr).2.1⟩⟩)) (fun hp => .flb ((dead_rowI row hrl).mono fun b hb' => ⟨fun r hr' => ?_, fun u hu => ?_⟩))))
   ·rcases hb' with ⟨h4, _⟩ | ⟨h4, h5⟩
    ·rw [h4] at hr'; cases hr'
    ·rw [h4] at hr'; cases hr'
     exact ⟨fun a' h => (by cases h), fun b h => (by cases h; exact .inr ⟨rfl, fun h => h5 (h i row hr).2.2⟩)⟩
   ·rcases hb' with ⟨_, h5⟩ | ⟨h4, _⟩
    ·refine .nx ⟨m - 1, by omega, i + 1, w64_succ (by omega), by omega, fun j x hj hx => ?_⟩
     by_cases hji : j = i
     ·subst hji; rw [hr] at hx; cases hx; exact ⟨hp.1, hp.2, h5⟩
     ·exact h3 j x (by omega) hx
    ·rw [h4] at hu; cases hu
  ·have : ¬ FleetP n f := fun h => h2 h.2.1
   simp [hb, h2, this]
 ·have hb : ((f.Dead.length : Int) != (n.Stops.length : Int)) = true := by simp; omega
  have : ¬ FleetP n f := fun h => h1 h.1
  simp [hb, this]
theorem l11Fleet_eq {n : Network} (hn : Bd n) {f : Fleet} (hf : FB f) : zq44 n f = some (decide (Good n ∧ FleetP n f)) := by
 have hn1 := hn.1
 unfold zq44
 rw [good_eq n hn, l1In_eq]
 by_cases h0 : Good n
 ·by_cases h1 : f.Dead.length = n.Stops.length
  ·have hb : ((f.Dead.length : Int) != (n.Stops.length : Int)) = false := by simp; omega
   by_cases h2 : 0 ≤ f.Turn ∧ f.Turn ≤ 30
   ·simp only [h0, hb, h2, and_self, decide_true, Bool.not_true, Bool.false_eq_true, if_false, qb, true_and]
    have e : decide (FleetP n f) = decide (RowsP n.Stops.length f) := by
     rw [decide_eq_decide]; unfold FleetP RowsP; simp [h1, h2]
    rw [e]
    refine flb_dec (.iter (fun m v => ∃ i : Nat, v = (i : Int) ∧ m + i = f.Dead.length ∧ ∀ (j : Nat) row, j < i → f.Dead[j]? = some row → RowP n.Stops.length j row) (n := f.Dead.length) ⟨0, rfl, rfl, fun j d h => by omega⟩ ?_)
    rintro m v ⟨i, rfl, hm, h3⟩
    unfold zq44_L2
    refine .iteP (fun hc => ?_) (fun hc => .dn (.inl ⟨rfl, fun j row hj => h3 j row (by have := get_lt hj; omega) hj⟩))
    obtain ⟨row, hr⟩ := get_ex (l := f.Dead) (i := i) (by omega)
    have hrl := hf.2 row (List.mem_of_getElem? hr)
    have ht : ((if ((row.length : Int) != (n.Stops.length : Int)) = true then some true else (idx f.Dead (i : Int)).bind fun e4 => (idx e4 (i : Int)).bind fun e5 => some (e5 != 0))) = some (!decide (row.length = n.Stops.length ∧ row[i]? = some 0)) := by
     rw [ixs hr]; exact row_test (by omega)
    refine .eq (ixs hr) (.eq ht (.iteN (fun hneg => .dn (.inr ⟨rfl, fun h => hneg ⟨(h i row hr).1, (h i row hr).2.1⟩⟩)) (fun hp => .flb ((dead_rowS hr hrl).mono fun b hb' => ⟨fun r hr' => ?_, fun u hu => ?_⟩))))
    ·rcases hb' with ⟨h4, _⟩ | ⟨h4, h5⟩
     ·rw [h4] at hr'; cases hr'
     ·rw [h4] at hr'; cases hr'
      exact ⟨fun a' h => (by cases h), fun b h => (by cases h; exact .inr ⟨rfl, fun h => h5 (h i row hr).2.2⟩)⟩
    ·rcases hb' with ⟨_, h5⟩ | ⟨h4, _⟩
     ·refine .nx ⟨m - 1, by omega, i + 1, w64_succ (by omega), by omega, fun j x hj hx => ?_⟩
      by_cases hji : j = i
      ·subst hji; rw [hr] at hx; cases hx; exact ⟨hp.1, hp.2, h5⟩
      ·exact h3 j x (by omega) hx
     ·rw [h4] at hu; cases hu
   ·have : ¬ FleetP n f := fun h => h2 h.2.1
    simp [h0, hb, h2, this]
  ·have hb : ((f.Dead.length : Int) != (n.Stops.length : Int)) = true := by simp; omega
   have : ¬ FleetP n f := fun h => h1 h.1
   simp [h0, hb, this]
 ·simp [h0]
def AskF (t : Timetable) (f : Fleet) : Prop := GoodT t ∧ FleetP t.Network f
noncomputable instance (t : Timetable) (f : Fleet) : Decidable (AskF t f) := Classical.propDecidable _
theorem isRun_eq {t : Timetable} (hb : TB t) {f : Fleet} (hf : FB f) : zq21 t f = some (decide (AskF t f)) := by
 unfold zq21 AskF
 rw [validT_eq hb, isFleet_eq hb.1.1 hf]
 by_cases h : GoodT t <;> simp [h]
theorem l11Asked_eq {t : Timetable} (hb : TB t) {f : Fleet} (hf : FB f) : zq39 t f = some (decide (AskF t f)) := by
 unfold zq39 AskF
 rw [goodT_eq hb, l11Fleet_eq hb.1 hf]
 by_cases h : GoodT t
 ·have h2 : Good t.Network := h.1
  simp [h, h2]
 ·simp [h]
noncomputable def dv (t : Timetable) (f : Fleet) (x y : Trip) : Int := (zq15 t f x y).getD 0
noncomputable def ev (t : Timetable) (x : Trip) : Int := (zq16 t x).getD 0
theorem dead_both {t : Timetable} {f : Fleet} (h : AskF t f) {i k : Nat} {x y : Trip} (hx : t.Trips[i]? = some x) (hy : t.Trips[k]? = some y) : (0 ≤ dv t f x y ∧ dv t f x y ≤ 120) ∧ zq15 t f x y = some (dv t f x y) ∧ zq43 t f (i : Int) (k : Int) = some (dv t f x y) := by
 obtain ⟨hg, hf1, hf2, hf3⟩ := h
 obtain ⟨la, hla, hpa, _⟩ := trip_line hg hx
 obtain ⟨lb, hlb, hpb, _⟩ := trip_line hg hy
 obtain ⟨⟨a1, a2, a3⟩, a4⟩ := line_runs hpa
 obtain ⟨⟨b1, b2, b3⟩, b4⟩ := line_runs hpb
 obtain ⟨s, hs⟩ := get_ex (l := la.Stops) (i := la.Stops.length - 1) (by omega)
 obtain ⟨u, hu⟩ := get_ex (l := lb.Stops) (i := 0) (by omega)
 have s1 := line_stop hpa hs
 have u1 := line_stop hpb hu
 have ws : w64 ((la.Stops.length : Int) - 1) = ((la.Stops.length - 1 : Nat) : Int) := by rw [w64_id (by omega)]; omega
 obtain ⟨row, hrow⟩ := get_ex (l := f.Dead) (i := s.toNat) (by omega)
 have hR := hf3 s.toNat row hrow
 obtain ⟨d, hd⟩ := get_ex (l := row) (i := u.toNat) (by rw [hR.1]; omega)
 have hdb := hR.2.2 d (List.mem_of_getElem? hd)
 have e1 : zq15 t f x y = some d := by
  unfold zq15 zq24 zq17
  rw [lineOf_eq hla, lineOf_eq hlb]
  simp only [qb, ws, idx_nat, hs, idx_of s1.1 hrow, idx0, hu, idx_of u1.1 hd]
 have e2 : zq43 t f (i : Int) (k : Int) = some d := by
  unfold zq43
  rw [l5Stops_eq hx hla, l5Stops_eq hy hlb]
  simp only [qb, ws, idx_nat, hs, idx_of s1.1 hrow, idx0, hu, idx_of u1.1 hd]
 have e3 : dv t f x y = d := by unfold dv; rw [e1]; rfl
 rw [e3]
 exact ⟨hdb, e1, e2⟩
theorem end_both {t : Timetable} (hg : GoodT t) {i : Nat} {x : Trip} (hx : t.Trips[i]? = some x) : (x.Start < ev t x ∧ ev t x ≤ 1799) ∧ (0 ≤ x.Start ∧ x.Start ≤ 1799) ∧ zq16 t x = some (ev t x) ∧ zq86 t (i : Int) = some (ev t x) := by
 obtain ⟨l, hl, hp, _, hs, h1, h2⟩ := trip_line hg hx
 have e1 := endOf_eq hg.1 hl hs
 have e2 := l5End_eq hg.1 hx hl hs
 have e3 : ev t x = x.Start + l.Runs.sum := by unfold ev; rw [e1]; rfl
 obtain ⟨⟨a1, a2, a3⟩, a4⟩ := line_runs hp
 have hpos : 1 ≤ l.Runs.sum := by
  cases hr : l.Runs with
  | nil => rw [hr] at a2; simp at a2
  | cons r rs =>
   rw [hr] at a4
   have q1 := a4 r (by simp)
   have q2 := sum_nonneg (l := rs) fun z hz => by have := a4 z (by simp [hz]); omega
   rw [List.sum_cons]; omega
 rw [e3]
 exact ⟨⟨by omega, h2⟩, hs, e1, e2⟩
def Fol (t : Timetable) (f : Fleet) (x y : Trip) : Prop := ev t x + f.Turn + dv t f x y ≤ y.Start
noncomputable instance (t : Timetable) (f : Fleet) (x y : Trip) : Decidable (Fol t f x y) := Classical.propDecidable _
theorem fol_lt {t : Timetable} {f : Fleet} (h : AskF t f) {i k : Nat} {x y : Trip} (hx : t.Trips[i]? = some x) (hy : t.Trips[k]? = some y) (hf : Fol t f x y) : x.Start < y.Start := by
 have h1 := (dead_both h hx hy).1
 have h2 := end_both h.1 hx
 have h3 := h.2.2.1
 unfold Fol at hf; omega
theorem follow_both {t : Timetable} {f : Fleet} (h : AskF t f) {i k : Nat} {x y : Trip} (hx : t.Trips[i]? = some x) (hy : t.Trips[k]? = some y) : zq12 t f x y = some (decide (Fol t f x y)) ∧ zq45 t f (i : Int) (k : Int) = some (decide (Fol t f x y)) := by
 obtain ⟨h1, h2, h3⟩ := dead_both h hx hy
 obtain ⟨g1, g2, g3, g4⟩ := end_both h.1 hx
 have hT := h.2.2.1
 have w1 : w64 (w64 (ev t x + f.Turn) + dv t f x y) = ev t x + f.Turn + dv t f x y := by rw [w64_id (x := ev t x + f.Turn) (by omega), w64_id (by omega)]
 refine ⟨?_, ?_⟩
 ·unfold zq12
  rw [g3, h2]
  simp only [qb, w1]; exact congrArg some (decide_eq_decide.2 Iff.rfl)
 ·unfold zq45
  by_cases hik : i = k
  ·subst hik
   rw [hx] at hy; cases hy
   have : ¬ Fol t f x x := fun hf => by have := fol_lt h hx hx hf; omega
   simp [this]
  ·have hb : ((i : Int) != (k : Int)) = true := by simp; omega
   simp only [hb, if_true, idx_nat, hy, g4, h3, qb, w1]; exact congrArg some (decide_eq_decide.2 Iff.rfl)
theorem or64 {u a : Nat} (hu : u < 4096) (ha : a < 4096) : IntKind.i64.wrap (((BitVec.ofInt (IntKind.i64).bits (u : Int) ||| BitVec.ofInt (IntKind.i64).bits (a : Int)).toNat : Nat) : Int) = ((u ||| a : Nat) : Int) := by
 have h1 : (BitVec.ofInt (IntKind.i64).bits (u : Int)).toNat = u := by
  rw [BitVec.ofInt_natCast, BitVec.toNat_ofNat]
  exact Nat.mod_eq_of_lt (by show u < 2 ^ 64; omega)
 have h2 : (BitVec.ofInt (IntKind.i64).bits (a : Int)).toNat = a := by
  rw [BitVec.ofInt_natCast, BitVec.toNat_ofNat]
  exact Nat.mod_eq_of_lt (by show a < 2 ^ 64; omega)
 rw [BitVec.toNat_or, h1, h2]
 have h3 : u ||| a < 2 ^ 12 := Nat.or_lt_two_pow (by omega) (by omega)
 exact w64_id (x := ((u ||| a : Nat) : Int)) (by omega)
theorem w64_dn {n q : Nat} (hc : ((n - q : Nat) : Int) < (n : Int)) (hq : q ≤ n) (hn : n ≤ 1000000) : w64 (((n - q : Nat) : Int) + 1) = ((n - (q - 1) : Nat) : Int) := by
 rw [w64_id (by omega)]; omega
theorem bit_ok {n : Nat} (hn : n ≤ 9) {v : Int} (hv : v = -1 ∨ (0 ≤ v ∧ v < n)) : ∃ s : Nat, w64 (1 * 2 ^ (min ((IntKind.u64.wrap v) : Int).toNat (IntKind.i64).bits)) = (s : Int) ∧ s < 2 ^ n := by
 rcases hv with rfl | ⟨h0, h1⟩
 ·refine ⟨0, ?_, Nat.two_pow_pos n⟩
  kernel_rfl
 ·have e : IntKind.u64.wrap v = v := Int.emod_eq_of_lt h0 (by show v < (18446744073709551616 : Int); omega)
  rw [e]
  have hmin : min v.toNat (IntKind.i64).bits = v.toNat := Nat.min_eq_left (by show v.toNat ≤ 64; omega)
  rw [hmin]
  have hlt : 2 ^ v.toNat < 2 ^ n := Nat.pow_lt_pow_right (by omega) (by omega)
  have h9 : 2 ^ n ≤ 2 ^ 9 := Nat.pow_le_pow_right (by omega) hn
  refine ⟨2 ^ v.toNat, ?_, hlt⟩
  have e2 : (1 : Int) * 2 ^ v.toNat = ((2 ^ v.toNat : Nat) : Int) := by rw [Int.one_mul, Int.natCast_pow]; rfl
  rw [e2]
  generalize 2 ^ v.toNat = p at hlt ⊢
  generalize 2 ^ n = q at hlt h9
  exact w64_id (by omega)
theorem u64_nn (v : Int) : (0 : Int) ≤ IntKind.u64.wrap v := (u64_rng v).1
def KS (n : Nat) (kn : List (List Int)) : Prop := kn.length = n ∧ ∀ row ∈ kn, row.length = 2 ^ n
theorem ks_set {n : Nat} {kn : List (List Int)} (h : KS n kn) {i : Nat} {row : List Int} (hr : row.length = 2 ^ n) : KS n (kn.set i row) := by
 refine ⟨by rw [List.length_set]; exact h.1, fun r hm => ?_⟩
 rcases List.mem_or_eq_of_mem_set hm with hm | rfl
 ·exact h.2 r hm
 ·exact hr
theorem used_or {n : Nat} (hn : n ≤ 9) {u : Int} (hu : 0 ≤ u ∧ u < (2 ^ n : Nat)) {s : Nat} (hs : s < 2 ^ n) : 0 ≤ IntKind.i64.wrap (((BitVec.ofInt (IntKind.i64).bits u ||| BitVec.ofInt (IntKind.i64).bits (s : Int)).toNat : Nat) : Int) ∧ IntKind.i64.wrap (((BitVec.ofInt (IntKind.i64).bits u ||| BitVec.ofInt (IntKind.i64).bits (s : Int)).toNat : Nat) : Int) < (2 ^ n : Nat) := by
 have h9 : 2 ^ n ≤ 2 ^ 9 := Nat.pow_le_pow_right (by omega) hn
 obtain ⟨m, rfl⟩ : ∃ m : Nat, u = (m : Int) := ⟨u.toNat, by omega⟩
 rw [or64 (by omega) (by omega)]
 have := Nat.or_lt_two_pow (x := m) (y := s) (n := n) (by omega) hs
 omega
theorem cost_ok {t : Timetable} {f : Fleet} (h : AskF t f) (h9 : t.Trips.length ≤ 9) : ∀ (m N : Nat) (kn : List (List Int)) (i : Nat) (u : Int), m + i = t.Trips.length → m < N → KS t.Trips.length kn → (0 ≤ u ∧ u < (2 ^ t.Trips.length : Nat)) →
  Tot (zq47_k N ⟨t, f, kn⟩ (i : Int) u) fun r => KS t.Trips.length r.2
 | m, 0, kn, i, u, _, hN, _, _ => by omega
 | m, N + 1, kn, i, u, hm, hN, hk, hu => by
  show Tot (zq47_F (zq47_k N) ⟨t, f, kn⟩ (i : Int) u) _
  unfold zq47_F
  by_cases hi : i = t.Trips.length
  ·have hb : ((i : Int) == (t.Trips.length : Int)) = true := by simp; omega
   simp only [hb, if_true]
   exact .ok hk
  ·have hb : ((i : Int) == (t.Trips.length : Int)) = false := by simp; omega
   simp only [hb, Bool.false_eq_true, if_false]
   have getr : ∀ {kn : List (List Int)}, KS t.Trips.length kn → ∃ row, kn[i]? = some row ∧ row.length = 2 ^ t.Trips.length := fun {kn} hk => by
    obtain ⟨row, hr⟩ := get_ex (l := kn) (i := i) (by rw [hk.1]; omega)
    exact ⟨row, hr, hk.2 row (List.mem_of_getElem? hr)⟩
   obtain ⟨row, hr, hrl⟩ := getr hk
   have hw : w64 ((i : Int) + 1) = ((i + 1 : Nat) : Int) := w64_succ (by omega)
   refine .eq (ixs hr) (.idx hu.1 (by omega) fun e1 he1 => .iteP (fun _ => .eq (ixs hr) (.idx hu.1 (by omega) fun e3 _ => .ok hk)) fun _ => ?_)
   rw [hw]
   refine .call (cost_ok h h9 (m - 1) N kn (i + 1) u (by omega) (by omega) hk hu) fun r hr1 => ?_
   refine .call (P := fun o => KS t.Trips.length o.2) ?_ fun o ho => ?_
   ·refine .iter (fun q s => s.2.1 = ((t.Trips.length - q : Nat) : Int) ∧ q ≤ t.Trips.length ∧ KS t.Trips.length s.2.2) (n := t.Trips.length) ⟨by simp, Nat.le_refl _, hr1⟩ ?_
    rintro q ⟨v, v1, v2⟩ ⟨hv, hq, hkv⟩
    simp only at hv hkv
    subst hv
    unfold zq47_L1
    refine .iteP (fun hc => ?_) (fun hc => .dn hkv)
    have hq0 : 0 < q := by simp only at hc; omega
    obtain ⟨x, hx⟩ := get_ex (l := t.Trips) (i := t.Trips.length - q) (by omega)
    obtain ⟨y, hy⟩ := get_ex (l := t.Trips) (i := i) (by omega)
    have hfo := (follow_both h hx hy).2
    have hde := (dead_both h hx hy).2.2
    obtain ⟨s, hs1, hs2⟩ := bit_ok (n := t.Trips.length) h9 (v := ((t.Trips.length - q : Nat) : Int)) (.inr ⟨by omega, by omega⟩)
    refine .call (P := fun o => KS t.Trips.length o.2) (.chk (u64_nn _) (.call (P := fun _ => True) (.ite (fun _ => .eq hfo (.ok trivial)) fun _ => .ok trivial) fun v5 _ => .ite (fun _ => ?_) fun _ => .ok hkv)) fun o ho => .nx ⟨q - 1, by omega, ?_, by omega, ho⟩
    ·refine .eq hde (.chk (u64_nn _) ?_)
     rw [hs1, hw]
     refine .call (cost_ok h h9 (m - 1) N v2 (i + 1) _ (by omega) (by omega) hkv (used_or h9 hu hs2)) fun r7 h7 => ?_
     unfold zq68
     exact .call (P := fun _ => True) (.iteP (fun _ => .ok trivial) fun _ => .ok trivial) fun _ _ => .ok h7
    ·show w64 (((t.Trips.length - q : Nat) : Int) + 1) = _
     rw [w64_id (by omega)]; omega
   ·obtain ⟨v6, v7⟩ := o
    obtain ⟨row', hr', hrl'⟩ := getr ho
    refine .eq (ixs hr') (.idx hu.1 (by omega) fun e5 _ => .ok (ks_set ho (by rw [List.length_set]; exact hrl')))
theorem cost_all {t : Timetable} {f : Fleet} (h : AskF t f) (h9 : t.Trips.length ≤ 9) {kn : List (List Int)} {i : Nat} {u : Int} (hi : i ≤ t.Trips.length) (hk : KS t.Trips.length kn) (hu : 0 ≤ u ∧ u < (2 ^ t.Trips.length : Nat)) : Tot (zq47 ⟨t, f, kn⟩ (i : Int) u) fun r => KS t.Trips.length r.2 := by
 unfold zq47
 exact cost_ok h h9 (t.Trips.length - i) _ kn i u (by omega) (by omega) hk hu
def BeP (t : Timetable) (f : Fleet) (before : List Int) : Prop := before.length = t.Trips.length ∧ ∀ (i : Nat) b, before[i]? = some b → b = -1 ∨ ∃ (k : Nat) (x y : Trip), b = (k : Int) ∧ t.Trips[k]? = some x ∧ t.Trips[i]? = some y ∧ Fol t f x y
theorem before_ok {t : Timetable} {f : Fleet} (h : AskF t f) (h9 : t.Trips.length ≤ 9) : Tot (zq40 t f) (BeP t f) := by
 have hp9 : 2 ^ t.Trips.length ≤ 2 ^ 9 := Nat.pow_le_pow_right (by omega) h9
 have hpp := Nat.two_pow_pos t.Trips.length
 unfold zq40
 have hsz : w64 (1 * 2 ^ (min ((IntKind.u64.wrap (t.Trips.length : Int)) : Int).toNat (IntKind.i64).bits)) = ((2 ^ t.Trips.length : Nat) : Int) := by
  have e : IntKind.u64.wrap (t.Trips.length : Int) = (t.Trips.length : Int) := Int.emod_eq_of_lt (by omega) (by show (t.Trips.length : Int) < (18446744073709551616 : Int); omega)
  rw [e]
  have hmin : min ((t.Trips.length : Int)).toNat (IntKind.i64).bits = t.Trips.length := by rw [Int.toNat_natCast]; exact Nat.min_eq_left (by show t.Trips.length ≤ 64; omega)
  rw [hmin]
  have e2 : (1 : Int) * 2 ^ t.Trips.length = ((2 ^ t.Trips.length : Nat) : Int) := by rw [Int.one_mul, Int.natCast_pow]; rfl
  rw [e2]
  generalize 2 ^ t.Trips.length = p at hp9 ⊢
  exact w64_id (by omega)
 refine .call (P := KS t.Trips.length) ?_ fun v1 hv1 => .call (P := BeP t f) ?_ fun o ho => .ok ho
 ·refine .iter (fun q s => s.1 = ((t.Trips.length - q : Nat) : Int) ∧ q ≤ t.Trips.length ∧ s.2.length = t.Trips.length - q ∧ ∀ row ∈ s.2, row.length = 2 ^ t.Trips.length) (n := t.Trips.length) ⟨by simp, Nat.le_refl _, by simp, by simp⟩ ?_
  rintro q ⟨k, v⟩ ⟨hk, hq, hl, hr⟩
  simp only at hk hl hr
  subst hk
  unfold zq40_L2
  refine .iteP (fun hc => ?_) (fun hc => .dn ⟨by omega, hr⟩)
  rw [hsz]
  refine .chk (u64_nn _) (.chk ⟨by omega, by omega⟩ (.call (P := fun o => o.length = 2 ^ t.Trips.length) ?_ fun o ho => .chk (by simp; omega) (.nx ⟨q - 1, by omega, ?_, by omega, ?_, fun row hm => ?_⟩)))
  ·refine .iter (fun q s => s.1 = ((2 ^ t.Trips.length - q : Nat) : Int) ∧ q ≤ 2 ^ t.Trips.length ∧ s.2.length = 2 ^ t.Trips.length) (n := 2 ^ t.Trips.length) ⟨by simp, Nat.le_refl _, by show (List.replicate _ _).length = _; rw [List.length_replicate, Int.toNat_natCast]⟩ ?_
   rintro q ⟨k, o⟩ ⟨hk, hq, hl⟩
   simp only at hk hl
   subst hk
   unfold zq40_L1
   refine .iteP (fun hc => .idx (by omega) hc fun e _ => .nx ⟨q - 1, by omega, ?_, by omega, by rw [List.length_set]; exact hl⟩) (fun hc => .dn hl)
   show w64 (((2 ^ t.Trips.length - q : Nat) : Int) + 1) = _
   rw [w64_id (by omega)]; omega
  ·show w64 (((t.Trips.length - q : Nat) : Int) + 1) = _
   rw [w64_id (by omega)]; omega
  ·simp; omega
  ·rcases List.mem_append.1 hm with hm | hm
   ·exact hr row hm
   ·rw [List.mem_singleton.1 hm]; exact ho
 ·refine .iter (fun q (s : Int × Int × List Int × List (List Int)) => s.2.1 = ((t.Trips.length - q : Nat) : Int) ∧ q ≤ t.Trips.length ∧ s.2.2.1.length = t.Trips.length - q ∧ (0 ≤ s.1 ∧ s.1 < (2 ^ t.Trips.length : Nat)) ∧ KS t.Trips.length s.2.2.2 ∧ ∀ (i : Nat) b, s.2.2.1[i]? = some b → b = -1 ∨ ∃ (k : Nat) (x y : Trip), b = (k : Int) ∧ t.Trips[k]? = some x ∧ t.Trips[i]? = some y ∧ Fol t f x y) (n := t.Trips.length) ⟨by simp, Nat.le_refl _, by simp, ⟨Int.le_refl 0, Int.ofNat_lt.2 hpp⟩, hv1, by simp⟩ ?_
  rintro q ⟨want, before, i, v2⟩ ⟨hb, hq, hl, hu, hk, hB⟩
  simp only at hb hl hu hk hB
  subst hb
  unfold zq40_L4
  refine .iteP (fun hc => ?_) (fun hc => .dn ⟨by omega, hB⟩)
  have hw : w64 (((t.Trips.length - q : Nat) : Int) + 1) = ((t.Trips.length - q + 1 : Nat) : Int) := w64_succ (by omega)
  obtain ⟨y, hy⟩ := get_ex (l := t.Trips) (i := t.Trips.length - q) (by omega)
  refine .call (cost_all h h9 (by omega) hk hu) fun r hr => .call (P := fun (o : Int × Int × List (List Int)) => (0 ≤ o.1 ∧ o.1 < (2 ^ t.Trips.length : Nat)) ∧ KS t.Trips.length o.2.2 ∧ (o.2.1 = -1 ∨ ∃ (k : Nat) (x : Trip), o.2.1 = (k : Int) ∧ t.Trips[k]? = some x ∧ Fol t f x y)) ?_ fun ⟨want1, v3, v4⟩ hh => .chk (by clear hh; simp; omega) (.nx ⟨q - 1, by clear hh; omega, ?_, by clear hh; omega, ?_, hh.1, hh.2.1, fun j b hj => ?_⟩)
  ·rw [hw]
   refine .call (cost_all h h9 (by omega) hr hu) fun r1 hr1 => .ite (fun _ => ?_) fun _ => .ok ⟨hu, hr1, .inl rfl⟩
   refine .call (P := fun o => KS t.Trips.length o.2 ∧ (o.1 = -1 ∨ ∃ (k : Nat) (x : Trip), o.1 = (k : Int) ∧ t.Trips[k]? = some x ∧ Fol t f x y)) ?_ fun ⟨v13, v14⟩ ⟨g1, g2⟩ => .chk (u64_nn _) (.ok ?_)
   ·refine .iter (fun p s => s.2.1 = ((t.Trips.length - p : Nat) : Int) ∧ p ≤ t.Trips.length ∧ KS t.Trips.length s.2.2 ∧ (s.1 = -1 ∨ ∃ (k : Nat) (x : Trip), s.1 = (k : Int) ∧ t.Trips[k]? = some x ∧ Fol t f x y)) (n := t.Trips.length) ⟨by simp, Nat.le_refl _, hr1, .inl rfl⟩ ?_
    rintro p ⟨v5, v6, v7⟩ ⟨hv, hp, hkv, hok⟩
    simp only at hv hkv hok
    subst hv
    unfold zq40_L3
    refine .call (P := fun b => b = true → 0 < p) (.iteP (fun hc => .ok fun _ => by omega) fun _ => .ok fun h => by cases h) fun b hb => .ite (fun hbt => ?_) fun _ => .dn ⟨hkv, hok⟩
    have hp0 := hb hbt
    obtain ⟨x, hx⟩ := get_ex (l := t.Trips) (i := t.Trips.length - p) (by omega)
    have hfo := (follow_both h hx hy).2
    have hde := (dead_both h hx hy).2.2
    obtain ⟨s, hs1, hs2⟩ := bit_ok (n := t.Trips.length) h9 (v := ((t.Trips.length - p : Nat) : Int)) (.inr ⟨by omega, by omega⟩)
    refine .call (P := fun o => KS t.Trips.length o.2 ∧ (o.1 = -1 ∨ ∃ (k : Nat) (x : Trip), o.1 = (k : Int) ∧ t.Trips[k]? = some x ∧ Fol t f x y)) (.chk (u64_nn _) (.call (P := fun o => KS t.Trips.length o.2 ∧ (o.1 = true → Fol t f x y)) ?_ fun ⟨v11, v12⟩ ⟨a1, a2⟩ => .ite (fun ht => .ok ⟨a1, .inr ⟨_, x, rfl, hx, a2 ht⟩⟩) fun _ => .ok ⟨a1, hok⟩)) fun ⟨v9, v10⟩ ⟨b1, b2⟩ => .nx ⟨p - 1, by omega, ?_, by omega, b1, b2⟩
    ·refine .ite (fun _ => .eq hfo (.iteP (fun hF => .eq hde (.chk (u64_nn _) ?_)) fun _ => .ok ⟨hkv, fun h => by cases h⟩)) fun _ => .ok ⟨hkv, fun h => by cases h⟩
     rw [hs1, hw]
     exact .call (cost_all h h9 (by omega) hkv (used_or h9 hu hs2)) fun r4 h4 => .ok ⟨h4, fun _ => hF⟩
    ·show w64 (((t.Trips.length - p : Nat) : Int) + 1) = _
     rw [w64_id (by omega)]; omega
   ·obtain ⟨s, hs1, hs2⟩ := bit_ok (n := t.Trips.length) h9 (v := v13) (by
     rcases g2 with g2 | ⟨k, x, g2, hx, _⟩
     ·exact .inl g2
     ·have := get_lt hx
      exact .inr ⟨by simp only at g2; omega, by simp only at g2; omega⟩)
    dsimp only
    rw [hs1]
    exact ⟨used_or h9 hu hs2, g1, g2⟩
  ·exact w64_dn hc hq (by clear hh; omega)
  ·clear hh
   show (i ++ [v3]).length = _
   simp; omega
  ·have h3 := hh.2.2
   clear hh
   simp only at h3
   have hj : (i ++ [v3])[j]? = some b := hj
   rcases Nat.lt_or_ge j i.length with hji | hji
   ·rw [List.getElem?_append_left hji] at hj
    exact hB j b hj
   ·rw [List.getElem?_append_right hji] at hj
    have := get_lt hj
    simp only [List.length_singleton] at this
    have hj0 : j = t.Trips.length - q := by omega
    subst hj0
    rw [show t.Trips.length - q - i.length = 0 by omega] at hj
    simp only [List.getElem?_cons_zero, Option.some.injEq] at hj
    subst hj
    rcases h3 with h3 | ⟨k, x, h3, hx, hF⟩
    ·exact .inl h3
    ·exact .inr ⟨k, x, y, h3, hx, hy, hF⟩
theorem chainT_L1 (before : List Int) (hl : before.length ≤ 9) (k : Int) : Tot (iter (zq42_L1 before k) (((-1) : Int), (0 : Int))) fun v => v = -1 ∨ ∃ j : Nat, v = (j : Int) ∧ before[j]? = some k := by
 refine .iter (fun q s => s.2 = ((before.length - q : Nat) : Int) ∧ q ≤ before.length ∧ (s.1 = -1 ∨ ∃ j : Nat, s.1 = (j : Int) ∧ before[j]? = some k)) (n := before.length) ⟨by simp, Nat.le_refl _, .inl rfl⟩ ?_
 rintro q ⟨v, v1⟩ ⟨hv, hq, hok⟩
 simp only at hv hok
 subst hv
 unfold zq42_L1
 refine .iteP (fun hc => ?_) (fun hc => .dn hok)
 obtain ⟨b, hb⟩ := get_ex (l := before) (i := before.length - q) (by omega)
 refine .call (P := fun v => v = -1 ∨ ∃ j : Nat, v = (j : Int) ∧ before[j]? = some k) (.eq (ixs hb) (.ite (fun he => .ok (.inr ⟨_, rfl, by rw [hb]; simpa using he⟩)) fun _ => .ok hok)) fun v2 h2 => .nx ⟨q - 1, by omega, ?_, by omega, h2⟩
 exact w64_dn hc hq (by omega)
theorem chainT_L2 {t : Timetable} {f : Fleet} (h : AskF t f) (h9 : t.Trips.length ≤ 9) {before : List Int} (hB : BeP t f before) {i : Nat} (hi : i < before.length) : Tot (iter (zq42_L2 t before) ((i : Int), ([] : List Int))) fun b => 1 ≤ b.length ∧ b.length ≤ 1801 := by
 refine .iter (fun q s => s.2.length + q ≤ 1801 ∧ ((s.1 = -1 ∧ 1 ≤ s.2.length) ∨ ∃ (k : Nat) (x : Trip), s.1 = (k : Int) ∧ t.Trips[k]? = some x ∧ 1800 - x.Start ≤ (q : Int))) (n := 1801) ⟨by simp, .inr ?_⟩ ?_
 ·obtain ⟨x, hx⟩ := get_ex (l := t.Trips) (i := i) (by rw [← hB.1]; exact hi)
  have := (end_both h.1 hx).2.1
  exact ⟨i, x, rfl, hx, by omega⟩
 ·rintro q ⟨k, next⟩ ⟨hl, hk⟩
  simp only at hl hk
  unfold zq42_L2
  refine .iteP (fun hc => ?_) (fun hc => .dn ?_)
  ·rcases hk with ⟨hk, _⟩ | ⟨j, x, hk, hx, hs⟩
   ·omega
   ·subst hk
    have hst := (end_both h.1 hx).2.1
    refine .eq (ixs hx) (.chk (by simp; omega) (.call (chainT_L1 before (by rw [hB.1]; exact h9) (j : Int)) fun v3 h3 => .nx ⟨q - 1, by omega, by simp; omega, ?_⟩))
    rcases h3 with h3 | ⟨j', h3, hb⟩
    ·exact .inl ⟨h3, by simp⟩
    ·right
     rcases hB.2 j' _ hb with hb | ⟨k', x', y, e1, e2, e3, hF⟩
     ·omega
     ·have : k' = j := by omega
      subst this
      rw [hx] at e2; cases e2
      have := fol_lt h hx e3 hF
      exact ⟨j', y, h3, e3, by omega⟩
  ·rcases hk with ⟨_, hk⟩ | ⟨j, x, hk, _, _⟩
   ·exact ⟨hk, by omega⟩
   ·omega
theorem chainT_ok {t : Timetable} {f : Fleet} (h : AskF t f) (h9 : t.Trips.length ≤ 9) {before : List Int} (hB : BeP t f before) : Tot (zq42 t before) fun B => B.length ≤ 9 ∧ ∀ b ∈ B, 1 ≤ b.length ∧ b.length ≤ 1801 := by
 have hbl := hB.1
 unfold zq42
 refine .call (P := fun B => B.length ≤ 9 ∧ ∀ b ∈ B, 1 ≤ b.length ∧ b.length ≤ 1801) ?_ fun B hB => .ok hB
 refine .iter (fun q s => s.1 = ((before.length - q : Nat) : Int) ∧ q ≤ before.length ∧ s.2.length + q ≤ 9 ∧ ∀ b ∈ s.2, 1 ≤ b.length ∧ b.length ≤ 1801) (n := before.length) ⟨by simp, Nat.le_refl _, by simp; omega, by simp⟩ ?_
 rintro q ⟨v, B⟩ ⟨hv, hq, hl, hb⟩
 simp only at hv hl hb
 subst hv
 unfold zq42_L3
 refine .iteP (fun hc => ?_) (fun hc => .dn ⟨by omega, hb⟩)
 obtain ⟨e, he⟩ := get_ex (l := before) (i := before.length - q) (by omega)
 refine .call (P := fun B' => B'.length + (q - 1) ≤ 9 ∧ ∀ b ∈ B', 1 ≤ b.length ∧ b.length ≤ 1801) (.eq (ixs he) (.iteP (fun _ => .ok ⟨by omega, hb⟩) fun _ => .call (chainT_L2 h h9 hB (by omega)) fun b hb' => .chk (by simp; omega) (.ok ⟨by simp; omega, fun x hx => ?_⟩))) fun B' hB' => .nx ⟨q - 1, by omega, ?_, by omega, hB'⟩
 ·rcases List.mem_append.1 hx with hx | hx
  ·exact hb x hx
  ·rw [List.mem_singleton.1 hx]; exact hb'
 ·show w64 (((before.length - q : Nat) : Int) + 1) = _
  rw [w64_id (by omega)]; omega
def Pc {α : Type} (m : Option α) (Q : α → Prop) : Prop := ∀ r, m = some r → Q r
theorem Pc.call {α β : Type} {m : Option α} {P : α → Prop} {k : α → Option β} {Q : β → Prop} (h : Tot m P) (hk : ∀ x, P x → Pc (k x) Q) : Pc (m.bind k) Q := by
 obtain ⟨x, hx, hp⟩ := h
 subst hx
 exact hk x hp
theorem Pc.any {α β : Type} {m : Option α} {k : α → Option β} {Q : β → Prop} (hk : ∀ x, Pc (k x) Q) : Pc (m.bind k) Q := by
 intro r hr
 obtain ⟨x, _, hx⟩ := obind hr
 exact hk x r hx
theorem Pc.bind {α β : Type} {m : Option α} {k : α → Option β} {P : α → Prop} {Q : β → Prop} (h : Pc m P) (hk : ∀ x, P x → Pc (k x) Q) : Pc (m.bind k) Q := by
 intro r hr
 obtain ⟨x, hm, hx⟩ := obind hr
 exact hk x (h x hm) r hx
theorem Pc.ok {α : Type} {a : α} {Q : α → Prop} (h : Q a) : Pc (some a) Q := by intro r hr; cases hr; exact h
theorem Pc.ite {α : Type} {c : Bool} {a b : Option α} {Q : α → Prop} (h1 : Pc a Q) (h2 : Pc b Q) : Pc (if c = true then a else b) Q := by
 cases c
 ·exact h2
 ·exact h1
theorem Pc.flb {R V : Type} {m : Option (Fl R V)} {k : V → Option R} {Q : R → Prop} (h : Pc m fun v => (∀ r, v = .ret r → Q r) ∧ ∀ u, v = .go u → Pc (k u) Q) : Pc (Ab.flb m k) Q := by
 intro r hr
 obtain ⟨v, hv, h2⟩ := obind hr
 have := h v hv
 cases v with
 | ret r' => cases h2; exact this.1 _ rfl
 | go u => exact this.2 u rfl r h2
theorem Pc.go {R V : Type} {u : V} {Q : R → Prop} {P : V → Prop} (h : P u) : Pc (some (Fl.go u : Fl R V)) fun v => (∀ r, v = .ret r → Q r) ∧ ∀ u, v = .go u → P u := Pc.ok ⟨fun r h => (by cases h), fun u' h => by cases h; assumption⟩
theorem Pc.ret {R V : Type} {r : R} {Q : R → Prop} {P : V → Prop} (h : Q r) : Pc (some (Fl.ret r : Fl R V)) fun v => (∀ r, v = .ret r → Q r) ∧ ∀ u, v = .go u → P u := Pc.ok ⟨fun r' h => by cases h; assumption, fun u h => by cases h⟩
theorem Tot.pc {α : Type} {m : Option α} {P Q : α → Prop} (h : Tot m P) (hq : Pc m Q) : Tot m fun r => P r ∧ Q r := by
 obtain ⟨x, hx, hp⟩ := h
 exact ⟨x, hx, hp, hq x hx⟩
theorem anyNet_st {k : Nat} {c : l1Cur} (h : Cur k c) (hk : k ≤ 200000000) : Pc (zq50 c) fun r => 2 ≤ r.1.Stops.length := by
 unfold zq50
 refine .call (networkT_ok h (by omega)) fun r ⟨_, hn⟩ => .any fun r1 => .any fun e => .flb ?_
 have h2 := hn.1.1
 have fin : ∀ (v : List UInt8) (v1 v2 : Int) (v3 : ByteArray) (v4 : List ByteArray) (v5 : List Line) (v6 : List Int), 2 ≤ v4.length → Pc ((idx v5 r1.1).bind fun e9 => some ((⟨v4, (v5.set r1.1.toNat (⟨v3, e9.Stops, v6⟩ : Line))⟩ : Network), (⟨v, v1, (⟨v2⟩ : IK .u64)⟩ : l1Cur))) fun r => 2 ≤ r.1.Stops.length := fun v v1 v2 v3 v4 v5 v6 hv => .any fun e9 => .ok hv
 refine .any fun r2 => .ite (.any fun r4 => .any fun e2 => .go (fin _ _ _ _ _ _ _ (by rw [List.length_set]; exact h2))) (.ite (.any fun r5 => .go (fin _ _ _ _ _ _ _ h2)) (.ite (.any fun r8 => .any fun r9 => .any fun e4 => .go (fin _ _ _ _ _ _ _ h2)) (.ite (.any fun r12 => .any fun r13 => .any fun e6 => .go (fin _ _ _ _ _ _ _ h2)) (.ite (.any fun u => .go (fin _ _ _ _ _ _ _ h2)) (.ite (.ret h2) (.ite (.any fun ⟨v13, v14, v15, v16⟩ => .ret h2) (.go (fin _ _ _ _ _ _ _ h2))))))))
theorem anyTime_st {k : Nat} {c : l1Cur} (h : Cur k c) (hk : k ≤ 50000000) : Pc (zq51 c) fun r => 2 ≤ r.1.Network.Stops.length := by
 unfold zq51
 refine .call (timetable_ok h (by omega)) fun r ⟨hc, _, hn, hl⟩ => ?_
 have h2 := hn.1.1
 refine .ite (.ok h2) (.call (pick_ok _ hc (by omega)) fun r1 ⟨hc1, _⟩ => .any fun e => .flb (.call (pick_ok 24 hc1 (by omega)) fun r2 ⟨hc2, _⟩ => ?_))
 have fin : ∀ (v : List UInt8) (v1 v2 : Int) (v3 : List Line) (v4 v5 v6 : Int) (v7 : List ByteArray), 2 ≤ v7.length → Pc ((idx r.1.Trips r1.1).bind fun e2 => some ((⟨(⟨v7, v3⟩ : Network), (r.1.Trips.set r1.1.toNat (⟨v4, v5, v6⟩ : Trip))⟩ : Timetable), (⟨v, v1, (⟨v2⟩ : IK .u64)⟩ : l1Cur))) fun r => 2 ≤ r.1.Network.Stops.length := fun v v1 v2 v3 v4 v5 v6 v7 hv => .any fun e9 => .ok hv
 refine .ite (.any fun r3 => .go (fin _ _ _ _ _ _ _ _ h2)) (.ite (.any fun r4 => .go (fin _ _ _ _ _ _ _ _ h2)) (.ite (.any fun r5 => .go (fin _ _ _ _ _ _ _ _ h2)) (.ite (.bind (anyNet_st hc2 (by omega)) fun r6 h6 => .go (fin _ _ _ _ _ _ _ _ h6)) (.ite (.any fun ⟨v14, v15, v16, v17⟩ => .ret h2) (.go (fin _ _ _ _ _ _ _ _ h2))))))
theorem trips_st {k : Nat} {c : l1Cur} (h : Cur k c) (hk : k ≤ 40000000) : Pc (zq65 c) fun r => 2 ≤ r.1.Network.Stops.length := by
 unfold zq65
 refine .call (one_ok 16 h (by omega)) fun r hc => .ite (.bind (anyTime_st hc (by omega)) fun r1 h1 => .ok h1) (.call (network_ok hc (by omega)) fun r2 ⟨_, hn⟩ => .any fun r3 => .any fun ⟨v4, v5, v6, v7⟩ => .any fun v9 => .ok hn.1.1)
theorem fleet_ok {k : Nat} {c : l1Cur} {n : Network} (h : Cur k c) (hk : k ≤ 30000000) (hn : 2 ≤ n.Stops.length ∧ n.Stops.length ≤ 1000) : Tot (zq52 c n) fun r => Cur (k + 3000000) r.2 ∧ FB r.1 := by
 unfold zq52
 refine .call (t_amongw _ (by simp) h (by omega)) fun r ⟨hc, _⟩ => ?_
 refine .call (P := fun o => Cur (k + 2 + 2000 * n.Stops.length) ⟨o.1, o.2.1, ⟨o.2.2.1⟩⟩ ∧ o.2.2.2.length = n.Stops.length ∧ ∀ row ∈ o.2.2.2, row.length = n.Stops.length) ?_ fun ⟨v13, v14, v15, v16⟩ ⟨hc1, hl, hr⟩ => ?_
 ·refine .iter (fun q s => s.1 = ((n.Stops.length - q : Nat) : Int) ∧ q ≤ n.Stops.length ∧ s.2.2.2.2.length = n.Stops.length - q ∧ (∀ row ∈ s.2.2.2.2, row.length = n.Stops.length) ∧ Cur (k + 2 + 2000 * (n.Stops.length - q)) ⟨s.2.1, s.2.2.1, ⟨s.2.2.2.1⟩⟩) (n := n.Stops.length) ⟨by simp, Nat.le_refl _, by simp, by simp, hc.mono (by omega)⟩ ?_
  rintro q ⟨v, w1, w2, w3, w4⟩ ⟨hv, hq, hl, hr, hcur⟩
  simp only at hv hl hr hcur
  subst hv
  unfold zq52_L2
  refine .iteP (fun hcc => ?_) (fun hcc => .dn ⟨hcur.mono (by omega), by simp only; omega, hr⟩)
  have hq0 : 0 < q := by omega
  refine .call (P := fun o => Cur (k + 2 + 2000 * (n.Stops.length - q) + 2 * n.Stops.length) ⟨o.1, o.2.1, ⟨o.2.2.1⟩⟩ ∧ o.2.2.2.length = n.Stops.length) ?_ fun ⟨v9, v10, v11, v12⟩ ⟨hc2, hl2⟩ => .chk (by simp; omega) (.nx ⟨q - 1, by omega, ?_, by omega, ?_, fun row hm => ?_, hc2.mono (by omega)⟩)
  ·refine .iter (fun p s => s.1 = ((n.Stops.length - p : Nat) : Int) ∧ p ≤ n.Stops.length ∧ s.2.2.2.2.length = n.Stops.length - p ∧ Cur (k + 2 + 2000 * (n.Stops.length - q) + 2 * (n.Stops.length - p)) ⟨s.2.1, s.2.2.1, ⟨s.2.2.2.1⟩⟩) (n := n.Stops.length) ⟨by simp, Nat.le_refl _, by simp, hcur.mono (by omega)⟩ ?_
   rintro p ⟨v, x1, x2, x3, x4⟩ ⟨hv, hp, hl, hcur⟩
   simp only at hv hl hcur
   subst hv
   unfold zq52_L1
   refine .iteP (fun hcc => ?_) (fun hcc => .dn ⟨hcur.mono (by omega), by simp only; omega⟩)
   have hp0 : 0 < p := by omega
   refine .call (P := fun _ => True) (by unfold zq69; exact .iteP (fun _ => .ok trivial) fun _ => .ok trivial) fun r1 _ => .call (t_pick 4 hcur (by omega)) fun r2 ⟨hc2, _⟩ => .chk (by simp; omega) (.nx ⟨p - 1, by omega, ?_, by omega, by simp; omega, hc2.mono (by omega)⟩)
   show w64 (((n.Stops.length - p : Nat) : Int) + 1) = _
   rw [w64_id (by omega)]; omega
  ·show w64 (((n.Stops.length - q : Nat) : Int) + 1) = _
   rw [w64_id (by omega)]; omega
  ·simp; omega
  ·have hm : row ∈ w4 ++ [v12] := hm
   rcases List.mem_append.1 hm with hm | hm
   ·exact hr row hm
   ·rw [List.mem_singleton.1 hm]; exact hl2
 ·simp only at hc1 hl hr
  obtain ⟨e, he⟩ := get_ex (l := v16) (i := 0) (by omega)
  have hel := hr e (List.mem_of_getElem? he)
  have hz : idx v16 0 = some e := ixs he
  have hset : ∀ (row : List Int), row.length = n.Stops.length → FB ⟨v16.set (0 : Int).toNat row, r.1⟩ := fun row hrow => ⟨by show (v16.set _ _).length ≤ 1000; rw [List.length_set]; omega, fun x hx => by
   rcases List.mem_or_eq_of_mem_set hx with hx | rfl
   ·have := hr x hx; omega
   ·omega⟩
  have hfb : ∀ x : Int, FB ⟨v16, x⟩ := fun x => ⟨by show v16.length ≤ 1000; omega, fun row hm => by have := hr row hm; omega⟩
  refine .call (P := fun o => Cur (k + 3000000) ⟨o.1, o.2.1, ⟨o.2.2.1⟩⟩ ∧ FB ⟨o.2.2.2.1, o.2.2.2.2⟩) (.call (t_pick 32 hc1 (by omega)) fun r3 ⟨hc3, _⟩ => .ite (fun _ => .call (t_amongw _ (by simp) hc3 (by omega)) fun r4 ⟨hc4, _⟩ => .ok ⟨hc4.mono (by omega), hfb _⟩) fun _ => .ite (fun _ => .eq hz (.idx (by omega) (by omega) fun e1 _ => .ok ⟨hc3.mono (by omega), hset _ (by rw [List.length_set]; exact hel)⟩)) fun _ => .ite (fun _ => .eq hz (.call (t_amongw _ (by simp) hc3 (by omega)) fun r6 ⟨hc6, _⟩ => ?_)) fun _ => .ite (fun _ => .chk (by omega) (.ok ⟨hc3.mono (by omega), ⟨by show (v16.drop _).length ≤ 1000; simp; omega, fun row hm => by have := hr row (List.mem_of_mem_drop hm); omega⟩⟩)) fun _ => .ok ⟨hc3.mono (by omega), hfb _⟩) fun ⟨v17, v18, v19, v20, v21⟩ ⟨g1, g2⟩ => .ok ⟨g1, g2⟩
  have hw : w64 ((n.Stops.length : Int) - 1) = ((n.Stops.length - 1 : Nat) : Int) := by rw [w64_id (by omega)]; omega
  rw [hw]
  exact .idx (by omega) (by omega) fun e5 _ => .ok ⟨hc6.mono (by omega), hset _ (by rw [List.length_set]; exact hel)⟩
def BB (B : List (List Int)) : Prop := B.length ≤ 20 ∧ ∀ b ∈ B, b.length ≤ 2000
theorem bb_set {B : List (List Int)} (h : BB B) {i : Nat} {b : List Int} (hb : b.length ≤ 2000) : BB (B.set i b) := ⟨by rw [List.length_set]; exact h.1, fun x hx => by
 rcases List.mem_or_eq_of_mem_set hx with hx | rfl
 ·exact h.2 x hx
 ·exact hb⟩
theorem planned_ok {k : Nat} {c : l1Cur} (h : Cur k c) (hk : k ≤ 10000000) : Tot (zq63 c) fun r => Cur (k + 4000000) r.2.2.2 ∧ DT r.1 ∧ FB r.2.1 ∧ BB r.2.2.1 := by
 unfold zq63
 refine .call (Tot.pc (trips_ok h (by omega)) (trips_st h (by omega))) fun r ⟨⟨hc, hd⟩, hst⟩ => ?_
 refine .call (fleet_ok hc (by omega) ⟨hst, hd.1.1⟩) fun r1 ⟨hc1, hf⟩ => ?_
 refine .eq (l11Asked_eq (t := r.1) hd.tb hf) ?_
 refine .call (P := fun b => b = false → AskF r.1 r1.1 ∧ r.1.Trips.length ≤ 9) (.iteN (fun _ => .ok fun h => by cases h) fun hA => .ok fun h => ⟨hA, by have : (r.1.Trips.length : Int) ≤ 9 := (by simpa using h); omega⟩) fun b hb => .ite (fun _ => .ok ⟨hc1.mono (by omega), hd, hf, by simp, by simp⟩) fun hbf => ?_
 obtain ⟨hA, h9⟩ := hb hbf
 refine .call (before_ok (t := r.1) hA h9) fun r5 h5 => .call (chainT_ok (t := r.1) hA h9 h5) fun r6 ⟨h6, h6'⟩ => ?_
 have hBB : BB r6 := ⟨by omega, fun b hb => by have := h6' b hb; omega⟩
 refine .call (P := fun o => Cur (k + 3900000) ⟨o.1, o.2.1, ⟨o.2.2.1⟩⟩ ∧ BB o.2.2.2) ?_ fun ⟨v1, v2, v3, i⟩ ⟨g1, g2⟩ => .ok ⟨g1.mono (by omega), hd, hf, g2⟩
 refine .call (P := fun o => Cur (k + 3800000) ⟨o.2.1, o.2.2.1, ⟨o.2.2.2⟩⟩ ∧ (o.1 = true → 0 < r6.length)) (.iteP (fun h0 => .call (t_one 8 hc1 (by omega)) fun r7 hc7 => .ok ⟨hc7.mono (by omega), fun _ => by omega⟩) fun _ => .ok ⟨hc1.mono (by omega), fun h => by cases h⟩) fun ⟨v4, v5, v6, v7⟩ ⟨hc4, hpos⟩ => ?_
 refine .ite (fun hv => ?_) fun _ => .ok ⟨hc4.mono (by omega), hBB⟩
 have h0 := hpos hv
 refine .call (t_pick _ hc4 (by omega)) fun r8 ⟨hc8, p0, p1⟩ => .call (t_pick 3 hc8 (by omega)) fun r9 ⟨hc9, _⟩ => ?_
 have hr8 : r8.1 < (r6.length : Int) := by omega
 have he : ∃ e, idx r6 r8.1 = some e ∧ 1 ≤ e.length ∧ e.length ≤ 1801 := by
  obtain ⟨e, he, _, hm⟩ := idx_lt p0 hr8
  exact ⟨e, he, h6' e hm⟩
 obtain ⟨e, he, hel⟩ := he
 refine .ite (fun _ => .eq he (.call (idOf_ok r.1 hc9 (by omega)) fun r11 hc11 => .chk (by simp; omega) (.eq he (.ok ⟨hc11.mono (by omega), bb_set hBB (by simp; omega)⟩)))) fun _ => .ite (fun _ => .eq he (.chk (by omega) (.eq he (.ok ⟨hc9.mono (by omega), bb_set hBB (by simp; omega)⟩)))) fun _ => .eq he (.chk (by simp; omega) (.ok ⟨hc9.mono (by omega), ⟨by simp; omega, fun b hb => ?_⟩⟩))
 rcases List.mem_append.1 hb with hb | hb
 ·exact hBB.2 b hb
 ·rw [List.mem_singleton.1 hb]; omega
def tix (t : Timetable) (e : Int) : Int := fixI (fun x => x.Id == e) t.Trips
def tr (t : Timetable) (e : Int) : Trip := (t.Trips[(tix t e).toNat]?).getD ⟨0, 0, 0⟩
theorem tix_at {t : Timetable} {e : Int} (h : 0 ≤ tix t e) : t.Trips[(tix t e).toNat]? = some (tr t e) ∧ (tr t e).Id = e ∧ ((tix t e).toNat : Int) = tix t e ∧ (tix t e).toNat < t.Trips.length := by
 obtain ⟨k, x, h1, h2, h3, _⟩ := idx_fix (p := fun x : Trip => x.Id == e) (l := t.Trips) (by unfold tix at h; omega)
 have e1 : tix t e = (k : Int) := h1
 have e2 : tr t e = x := by unfold tr; rw [e1, Int.toNat_natCast, h2]; rfl
 rw [e1, Int.toNat_natCast, e2]
 exact ⟨h2, by simpa using h3, rfl, get_lt h2⟩
theorem tix_idx {t : Timetable} {e : Int} (h : 0 ≤ tix t e) : idx t.Trips (tix t e) = some (tr t e) := by
 have := tix_at h
 rw [← this.2.2.1]; exact ixs this.1
theorem tix_trip {t : Timetable} (hT : GoodT t) {k : Nat} {x : Trip} (hx : t.Trips[k]? = some x) : tix t x.Id = (k : Int) := trip_fix hT hx
theorem tix_pos {t : Timetable} (hT : GoodT t) {e : Int} (h : 0 ≤ tix t e) : 1 ≤ e := by
 have h1 := tix_at h
 have := (hT.2.2.1 _ _ h1.1).1.1
 rw [h1.2.1] at this; exact this
theorem tripI {t : Timetable} (hb : TB t) (e : Int) : zq32 t e = some (tix t e) := tripIndex_eq t hb.2 e
theorem tripS {t : Timetable} (hb : TB t) (e : Int) : zq87 t e = some (tix t e) := l5Find_eq t hb.2 e
theorem withI {t : Timetable} (hb : TB t) {e : Int} (h : 0 ≤ tix t e) : zq34 t e = some (tr t e) := by
 unfold zq34
 rw [tripI hb]
 simp only [qb, tix_idx h]
def FolE (t : Timetable) (f : Fleet) (a c : Int) : Prop := Fol t f (tr t a) (tr t c)
noncomputable instance (t : Timetable) (f : Fleet) (a c : Int) : Decidable (FolE t f a c) := Classical.propDecidable _
theorem fol_both {t : Timetable} {f : Fleet} (h : AskF t f) {a c : Int} (ha : 0 ≤ tix t a) (hc : 0 ≤ tix t c) : zq12 t f (tr t a) (tr t c) = some (decide (FolE t f a c)) ∧ zq45 t f (tix t a) (tix t c) = some (decide (FolE t f a c)) := by
 have h1 := tix_at ha
 have h2 := tix_at hc
 obtain ⟨g1, g2⟩ := follow_both h h1.1 h2.1
 rw [h1.2.2.1, h2.2.2.1] at g2
 rw [g1, g2]
 exact ⟨congrArg some (decide_eq_decide.2 Iff.rfl), congrArg some (decide_eq_decide.2 Iff.rfl)⟩
theorem pig {n : Nat} : ∀ {l : List Int}, l.Nodup → (∀ x ∈ l, 0 ≤ x ∧ x < (n : Int)) → l.length ≤ n := by
 induction n with
 | zero =>
  intro l _ h
  cases l with
  | nil => simp
  | cons a l => have := h a (by simp); omega
 | succ n ih =>
  intro l hd h
  by_cases hm : ((n : Nat) : Int) ∈ l
  ·have := ih (l := l.erase (n : Int)) (hd.erase _) (fun x hx => by
    have h1 := h x (List.mem_of_mem_erase hx)
    have h2 : x ≠ (n : Int) := (hd.mem_erase_iff.1 hx).1
    omega)
   rw [List.length_erase_of_mem hm] at this; omega
  ·have := ih hd (fun x hx => by
    have h1 := h x hx
    have h2 : x ≠ (n : Int) := fun e => hm (e ▸ hx)
    omega)
   omega
theorem pig_mem {n : Nat} {l : List Int} (hd : l.Nodup) (h : ∀ x ∈ l, 0 ≤ x ∧ x < (n : Int)) (hl : l.length = n) {p : Nat} (hp : p < n) : (p : Int) ∈ l := by
 by_cases hm : (p : Int) ∈ l
 ·exact hm
 ·have := pig (n := n) (l := (p : Int) :: l) (List.nodup_cons.2 ⟨hm, hd⟩) (fun x hx => by
   rcases List.mem_cons.1 hx with rfl | hx
   ·omega
   ·exact h x hx)
  simp only [List.length_cons] at this; omega
def ChainE (t : Timetable) (f : Fleet) (b : List Int) : Prop := ∀ (j : Nat) a c, b[j]? = some a → b[j + 1]? = some c → FolE t f a c
def BlockE (t : Timetable) (f : Fleet) (b : List Int) : Prop := b ≠ [] ∧ (∀ e ∈ b, 0 ≤ tix t e) ∧ ChainE t f b
def BlocksP (t : Timetable) (f : Fleet) (B : List (List Int)) : Prop := (∀ b ∈ B, BlockE t f b) ∧ (B.flatten.map (tix t)).Nodup ∧ B.flatten.length = t.Trips.length
def UsedB (u : List Bool) (at_ : List Int) : Prop := u.length = 12 ∧ ∀ p : Nat, p < 12 → u[p]? = some (decide ((p : Int) ∈ at_))
theorem used_nil : UsedB (List.replicate 12 false) [] := ⟨by simp, fun p hp => by
 rw [List.getElem?_replicate]; simp [hp]⟩
theorem used_set {u : List Bool} {at_ : List Int} (h : UsedB u at_) {r : Int} (h0 : 0 ≤ r ∧ r < 12) : UsedB (u.set r.toNat true) (at_ ++ [r]) := by
 refine ⟨by rw [List.length_set]; exact h.1, fun p hp => ?_⟩
 rw [List.getElem?_set]
 by_cases e : r.toNat = p
 ·subst e
  rw [if_pos rfl, if_pos (by rw [h.1]; exact hp)]
  have : ((r.toNat : Nat) : Int) = r := by omega
  simp [this]
 ·rw [if_neg e, h.2 p hp]
  have : (p : Int) ≠ r := by omega
  simp [this]
theorem used_idx {u : List Bool} {at_ : List Int} (h : UsedB u at_) {r : Int} (h0 : 0 ≤ r ∧ r < 12) : idx u r = some (decide (r ∈ at_)) := by
 have e : ((r.toNat : Nat) : Int) = r := by omega
 have := h.2 r.toNat (by omega)
 rw [e] at this
 rw [← e, idx_nat, this, e]
section
variable {t : Timetable} {f : Fleet} {B : List (List Int)}
theorem block_in (hb : TB t) (h : AskF t f) (hB : BB B) {v : Nat} {b : List Int} (hv : B[v]? = some b) {at0 : List Int} (hr0 : ∀ x ∈ at0, 0 ≤ x ∧ x < (t.Trips.length : Int)) {u0 : List Bool} (hu0 : UsedB u0 at0) (hd0 : at0.Nodup) :
  ∃ x x', iter (zq9_L1 t f b) ((at0.length : Int), (0 : Int), u0) = some x ∧ iter (zq41_L1 t f B (v : Int)) ((0 : Int), at0) = some x' ∧
   ((x = .ret (.dn (.ret false)) ∧ x' = .ret (.dn (.ret false))) ∨ ∃ at_ u, x = .go ((at_.length : Int), u) ∧ x' = .go at_ ∧ at_ = at0 ++ b.map (tix t) ∧ UsedB u at_ ∧ at_.Nodup ∧ (∀ e ∈ b, 0 ≤ tix t e) ∧ ChainE t f b) := by
 have hn := h.1.2.1
 have hbl := hB.2 b (List.mem_of_getElem? hv)
 refine iter2 (fun m (a : Int × Int × List Bool) (a' : Int × List Int) => ∃ j : Nat, m + j = b.length ∧ a.1 = (a'.2.length : Int) ∧ a.2.1 = (j : Int) ∧ a'.1 = (j : Int) ∧ a'.2 = at0 ++ (b.take j).map (tix t) ∧ UsedB a.2.2 a'.2 ∧ a'.2.Nodup ∧ (∀ e ∈ b.take j, 0 ≤ tix t e) ∧ ∀ (i : Nat) p q, i + 1 < j → b[i]? = some p → b[i + 1]? = some q → FolE t f p q) _ ?_ (k := b.length) ⟨0, rfl, rfl, rfl, rfl, by simp, hu0, hd0, by simp, by simp⟩
 rintro m ⟨n1, v3, u⟩ ⟨v2, at_⟩ ⟨j, hm, e1, e2, e3, e4, hU, hD, hE, hC⟩
 simp only at e1 e2 e3 e4 hU hD
 subst e2 e3 e1
 have hrange : ∀ x ∈ at_, 0 ≤ x ∧ x < (t.Trips.length : Int) := fun x hx => by
  rw [e4] at hx
  rcases List.mem_append.1 hx with hx | hx
  ·exact hr0 x hx
  ·obtain ⟨e, he, rfl⟩ := List.mem_map.1 hx
   have := tix_at (hE e he); omega
 have hlen := pig hD hrange
 by_cases hj : j < b.length
 ·obtain ⟨e, he⟩ := get_ex hj
  have hlt : decide ((j : Int) < (b.length : Int)) = true := by simp; omega
  by_cases h0 : tix t e < 0
  ·refine .inr ⟨_, _, ?_, ?_, .inl ⟨rfl, rfl⟩⟩
   ·simp only [zq9_L1, hlt, if_true, idx_nat, he, qb, tripI hb, h0, decide_true]
   ·simp only [zq41_L1, ixs hv, hlt, if_true, idx_nat, he, qb, tripS hb, h0, decide_true]
  have h0' : 0 ≤ tix t e := by omega
  have hta := tix_at h0'
  have hr12 : 0 ≤ tix t e ∧ tix t e < 12 := by omega
  have hck : chk ((0 : Int) ≤ tix t e ∧ tix t e < 12) = some () := chk_of hr12
  have hui := used_idx hU hr12
  have hha := l1Has_eq at_ (by omega) (tix t e)
  by_cases h1 : tix t e ∈ at_
  ·refine .inr ⟨_, _, ?_, ?_, .inl ⟨rfl, rfl⟩⟩
   ·simp only [zq9_L1, hlt, if_true, idx_nat, he, qb, tripI hb, h0, decide_false, Bool.false_eq_true, if_false, hck, hui, h1, decide_true]
   ·simp only [zq41_L1, ixs hv, hlt, if_true, idx_nat, he, qb, tripS hb, h0, decide_false, Bool.false_eq_true, if_false, hha, h1, decide_true]
  have hck2 : chk (at_.length + ([tix t e] : List Int).length ≤ 4294967296) = some () := chk_of (by simp; omega)
  have hDn : (at_ ++ [tix t e]).Nodup := List.nodup_append.2 ⟨hD, by simp, fun a ha c hc => by
   rw [List.mem_singleton.1 hc]; intro e; exact h1 (e ▸ ha)⟩
  have hen : ∀ e' ∈ b.take (j + 1), 0 ≤ tix t e' := fun e' he' => by
   rw [take_succ he] at he'
   rcases List.mem_append.1 he' with he' | he'
   ·exact hE e' he'
   ·rw [List.mem_singleton.1 he']; exact h0'
  have hat : at_ ++ [tix t e] = at0 ++ (b.take (j + 1)).map (tix t) := by
   rw [take_succ he, List.map_append, ← List.append_assoc, ← e4]; rfl
  have fin : (∀ (i : Nat) p q, i + 1 < j + 1 → b[i]? = some p → b[i + 1]? = some q → FolE t f p q) → ∃ k', k' < m ∧ ∃ j' : Nat, k' + j' = b.length ∧ w64 ((at_.length : Int) + 1) = ((at_ ++ [tix t e]).length : Int) ∧ w64 ((j : Int) + 1) = (j' : Int) ∧ w64 ((j : Int) + 1) = (j' : Int) ∧ at_ ++ [tix t e] = at0 ++ (b.take j').map (tix t) ∧ UsedB (u.set (tix t e).toNat true) (at_ ++ [tix t e]) ∧ (at_ ++ [tix t e]).Nodup ∧ (∀ e ∈ b.take j', 0 ≤ tix t e) ∧ ∀ (i : Nat) p q, i + 1 < j' → b[i]? = some p → b[i + 1]? = some q → FolE t f p q := fun hC' =>
   ⟨m - 1, by omega, j + 1, by omega, (by rw [w64_succ (n := at_.length) (by omega)]; simp), w64_succ (by omega), w64_succ (by omega), hat, used_set hU hr12, hDn, hen, hC'⟩
  by_cases hj0 : 0 < j
  ·obtain ⟨a, ha⟩ := get_ex (l := b) (i := j - 1) (by omega)
   have hw : w64 ((j : Int) - 1) = ((j - 1 : Nat) : Int) := by rw [w64_id (by omega)]; omega
   have haT : 0 ≤ tix t a := hE a (List.mem_of_getElem? (show (b.take j)[j - 1]? = some a by rw [List.getElem?_take_of_lt (by omega)]; exact ha))
   have hjp : decide ((0 : Int) < (j : Int)) = true := by simp; omega
   obtain ⟨f1, f2⟩ := fol_both h haT h0'
   by_cases hF : FolE t f a e
   ·obtain ⟨k', hk', rest⟩ := fin fun i p q hi hp hq => by
     by_cases hij : i + 1 < j
     ·exact hC i p q hij hp hq
     ·have : i = j - 1 := by omega
      subst this
      rw [ha] at hp; cases hp
      rw [show j - 1 + 1 = j by omega, he] at hq; cases hq
      exact hF
    refine .inl ⟨(w64 ((at_.length : Int) + 1), w64 ((j : Int) + 1), u.set (tix t e).toNat true), (w64 ((j : Int) + 1), at_ ++ [tix t e]), k', ?_, ?_, hk', rest⟩
    ·simp only [zq9_L1, hlt, if_true, idx_nat, he, qb, tripI hb, h0, decide_false, Bool.false_eq_true, if_false, hck, hui, h1, hjp, hw, ha, withI hb haT, tix_idx h0', f1, hF, decide_true, Bool.not_true]
    ·simp only [zq41_L1, ixs hv, hlt, if_true, idx_nat, he, qb, tripS hb, h0, decide_false, Bool.false_eq_true, if_false, hha, h1, hjp, hw, ha, f2, hF, decide_true, Bool.not_true, hck2]
   ·refine .inr ⟨_, _, ?_, ?_, .inl ⟨rfl, rfl⟩⟩
    ·simp only [zq9_L1, hlt, if_true, idx_nat, he, qb, tripI hb, h0, decide_false, Bool.false_eq_true, if_false, hck, hui, h1, hjp, hw, ha, withI hb haT, tix_idx h0', f1, hF, Bool.not_false]
    ·simp only [zq41_L1, ixs hv, hlt, if_true, idx_nat, he, qb, tripS hb, h0, decide_false, Bool.false_eq_true, if_false, hha, h1, hjp, hw, ha, f2, hF, Bool.not_false]
  ·have hj0' : j = 0 := by omega
   obtain ⟨k', hk', rest⟩ := fin fun i p q hi => by omega
   have hjp : decide ((0 : Int) < (j : Int)) = false := by simp; omega
   refine .inl ⟨(w64 ((at_.length : Int) + 1), w64 ((j : Int) + 1), u.set (tix t e).toNat true), (w64 ((j : Int) + 1), at_ ++ [tix t e]), k', ?_, ?_, hk', rest⟩
   ·simp only [zq9_L1, hlt, if_true, idx_nat, he, qb, tripI hb, h0, decide_false, Bool.false_eq_true, if_false, hck, hui, h1, hjp]
   ·simp only [zq41_L1, ixs hv, hlt, if_true, idx_nat, he, qb, tripS hb, h0, decide_false, Bool.false_eq_true, if_false, hha, h1, hjp, hck2]
 ·have hlt : decide ((j : Int) < (b.length : Int)) = false := by simp; omega
  have htk : b.take j = b := List.take_of_length_le (by omega)
  rw [htk] at e4 hE
  refine .inr ⟨_, _, ?_, ?_, .inr ⟨at_, u, rfl, rfl, e4, hU, hD, hE, fun i p q hp hq => hC i p q (by have := get_lt hq; omega) hp hq⟩⟩
  ·simp only [zq9_L1, hlt, Bool.false_eq_true, if_false]
  ·simp only [zq41_L1, ixs hv, hlt, Bool.false_eq_true, if_false, qb]
theorem blocks_both (hb : TB t) (h : AskF t f) (hB : BB B) : ∃ v, zq9 t f B = some v ∧ zq41 t f B = some v ∧ (v = true → BlocksP t f B) := by
 have hn := h.1.2.1
 have H : ∃ x x', iter (zq9_L2 t f B) ((0 : Int), (0 : Int), (0 : Int), (List.replicate 12 (false : Bool))) = some x ∧ iter (zq41_L2 t f B) ((0 : Int), ([] : List Int)) = some x' ∧
   ((x = .ret false ∧ x' = .ret false) ∨ ∃ at_ : List Int, x = .go (at_.length : Int) ∧ x' = .go at_ ∧ at_ = B.flatten.map (tix t) ∧ at_.Nodup ∧ ∀ b ∈ B, BlockE t f b) := by
  refine iter2 (fun m (a : Int × Int × Int × List Bool) (a' : Int × List Int) => ∃ v : Nat, m + v = B.length ∧ a.1 = (a'.2.length : Int) ∧ a.2.2.1 = (v : Int) ∧ a'.1 = (v : Int) ∧ a'.2 = (B.take v).flatten.map (tix t) ∧ UsedB a.2.2.2 a'.2 ∧ a'.2.Nodup ∧ (∀ b ∈ B.take v, BlockE t f b) ∧ (v = 0 → a.2.1 = 0) ∧ (0 < v → ∃ b, B[v - 1]? = some b ∧ b[0]? = some a.2.1)) _ ?_ (k := B.length) ⟨0, rfl, rfl, rfl, rfl, by simp, used_nil, by simp, by simp, fun _ => rfl, fun h => by omega⟩
  rintro m ⟨n1, k, v', u⟩ ⟨v2, at_⟩ ⟨v, hm, e1, e2, e3, e4, hU, hD, hE, hk0, hk1⟩
  simp only at e1 e2 e3 e4 hU hD hk0 hk1
  subst e2 e3 e1
  have hrange : ∀ x ∈ at_, 0 ≤ x ∧ x < (t.Trips.length : Int) := fun x hx => by
   rw [e4] at hx
   obtain ⟨e, he, rfl⟩ := List.mem_map.1 hx
   obtain ⟨b, hb1, hb2⟩ := List.mem_flatten.1 he
   have := tix_at ((hE b hb1).2.1 e hb2); omega
  by_cases hv : v < B.length
  ·obtain ⟨b, hbv⟩ := get_ex hv
   have hlt : decide ((v : Int) < (B.length : Int)) = true := by simp; omega
   by_cases hz : b.length = 0
   ·have hzb : ((b.length : Int) == 0) = true := beq_iff_eq.2 (by omega)
    refine .inr ⟨_, _, ?_, ?_, .inl ⟨rfl, rfl⟩⟩
    ·simp only [zq9_L2, hlt, if_true, idx_nat, hbv, qb, hzb]
    ·simp only [zq41_L2, hlt, if_true, idx_nat, hbv, qb, hzb]
   have hzb : ((b.length : Int) == 0) = false := beq_eq_false_iff_ne.2 (by omega)
   obtain ⟨e, he⟩ := get_ex (l := b) (i := 0) (by omega)
   have he0 : idx b 0 = some e := ixs (i := 0) he
   have main : ¬ e ≤ k → (∀ R, zq41_L2 t f B ((v : Int), at_) = R ↔ (flb (iter (zq41_L1 t f B (v : Int)) ((0 : Int), at_)) fun (at_2 : List Int) => some (.nx ((w64 ((v : Int) + 1)), at_2))) = R) → (∃ b_1 b', ∃ k', zq9_L2 t f B ((at_.length : Int), k, (v : Int), u) = some (.nx b_1) ∧ zq41_L2 t f B ((v : Int), at_) = some (.nx b') ∧ k' < m ∧ ∃ v : Nat, k' + v = B.length ∧ b_1.1 = (b'.2.length : Int) ∧ b_1.2.2.1 = (v : Int) ∧ b'.1 = (v : Int) ∧ b'.2 = (B.take v).flatten.map (tix t) ∧ UsedB b_1.2.2.2 b'.2 ∧ b'.2.Nodup ∧ (∀ b ∈ B.take v, BlockE t f b) ∧ (v = 0 → b_1.2.1 = 0) ∧ (0 < v → ∃ b, B[v - 1]? = some b ∧ b[0]? = some b_1.2.1)) ∨ ∃ x x', zq9_L2 t f B ((at_.length : Int), k, (v : Int), u) = some (.dn x) ∧ zq41_L2 t f B ((v : Int), at_) = some (.dn x') ∧ ((x = .ret false ∧ x' = .ret false) ∨ ∃ at_ : List Int, x = .go (at_.length : Int) ∧ x' = .go at_ ∧ at_ = B.flatten.map (tix t) ∧ at_.Nodup ∧ ∀ b ∈ B, BlockE t f b) := by
    intro hek hS
    obtain ⟨x, x', g1, g2, g3⟩ := block_in hb h hB hbv hrange hU hD
    have hI : zq9_L2 t f B ((at_.length : Int), k, (v : Int), u) = flb (iter (zq9_L1 t f b) ((at_.length : Int), (0 : Int), u)) fun ((block2, v6) : Int × (List Bool)) => some (.nx (block2, e, (w64 ((v : Int) + 1)), v6)) := by
     simp only [zq9_L2, hlt, if_true, idx_nat, hbv, qb, hzb, Bool.false_eq_true, if_false, he0, hek, decide_false]
    rcases g3 with ⟨rfl, rfl⟩ | ⟨at2, u2, rfl, rfl, q1, q2, q3, q4, q5⟩
    ·refine .inr ⟨_, _, ?_, ?_, .inl ⟨rfl, rfl⟩⟩
     ·rw [hI, g1]; rfl
     ·rw [hS, g2]; rfl
    ·refine .inl ⟨((at2.length : Int), e, w64 ((v : Int) + 1), u2), (w64 ((v : Int) + 1), at2), m - 1, ?_, ?_, by omega, v + 1, by omega, rfl, w64_succ (by have := hB.1; omega), w64_succ (by have := hB.1; omega), ?_, q2, q3, ?_, fun h => by omega, fun _ => ⟨b, hbv, he⟩⟩
     ·rw [hI, g1]; rfl
     ·rw [hS, g2]; rfl
     ·rw [take_succ hbv, List.flatten_append, List.map_append, ← e4, q1]; simp
     ·intro b' hb'
      rw [take_succ hbv] at hb'
      rcases List.mem_append.1 hb' with hb' | hb'
      ·exact hE b' hb'
      ·rw [List.mem_singleton.1 hb']
       exact ⟨fun hn => by rw [hn] at hz; exact hz rfl, q4, q5⟩
   by_cases hv0 : 0 < v
   ·obtain ⟨c, hc1, hc2⟩ := hk1 hv0
    have hw : w64 ((v : Int) - 1) = ((v - 1 : Nat) : Int) := by rw [w64_id (by have := hB.1; omega)]; omega
    have hvp : decide ((0 : Int) < (v : Int)) = true := by simp; omega
    have hc0 : idx c 0 = some k := ixs (i := 0) hc2
    by_cases hek : e ≤ k
    ·refine .inr ⟨_, _, ?_, ?_, .inl ⟨rfl, rfl⟩⟩
     ·simp only [zq9_L2, hlt, if_true, idx_nat, hbv, qb, hzb, Bool.false_eq_true, if_false, he0, hek, decide_true]
     ·simp only [zq41_L2, hlt, if_true, idx_nat, hbv, qb, hzb, Bool.false_eq_true, if_false, he0, hvp, hw, hc1, hc0, hek, decide_true]
    ·refine main hek fun R => ?_
     simp only [zq41_L2, hlt, if_true, idx_nat, hbv, qb, hzb, Bool.false_eq_true, if_false, he0, hvp, hw, hc1, hc0, hek, decide_false]
   ·have hk := hk0 (by omega)
    subst hk
    have hvp : decide ((0 : Int) < (v : Int)) = false := by simp; omega
    have hS : zq41_L2 t f B ((v : Int), at_) = (flb (iter (zq41_L1 t f B (v : Int)) ((0 : Int), at_)) fun (at_2 : List Int) => some (.nx ((w64 ((v : Int) + 1)), at_2))) := by
     simp only [zq41_L2, hlt, if_true, idx_nat, hbv, qb, hzb, Bool.false_eq_true, if_false, hvp]
    by_cases hek : e ≤ 0
    ·have hne : tix t e < 0 := by
      rcases Int.lt_or_le (tix t e) 0 with h | h'
      ·exact h
      ·have := tix_pos h.1 h'; omega
     have hb0 : decide ((0 : Int) < (b.length : Int)) = true := by simp; omega
     refine .inr ⟨_, _, ?_, ?_, .inl ⟨rfl, rfl⟩⟩
     ·simp only [zq9_L2, hlt, if_true, idx_nat, hbv, qb, hzb, Bool.false_eq_true, if_false, he0, hek, decide_true]
     ·rw [hS, iter_dn (b := .ret (.dn (.ret false))) (by simp only [zq41_L1, ixs hbv, hb0, if_true, he0, qb, tripS hb, hne, decide_true])]
      rfl
    ·exact main hek fun R => by rw [hS]
  ·have hlt : decide ((v : Int) < (B.length : Int)) = false := by simp; omega
   rw [List.take_of_length_le (by omega : B.length ≤ v)] at e4 hE
   refine .inr ⟨_, _, ?_, ?_, .inr ⟨at_, rfl, rfl, e4, hD, hE⟩⟩
   ·simp only [zq9_L2, hlt, Bool.false_eq_true, if_false]
   ·simp only [zq41_L2, hlt, Bool.false_eq_true, if_false]
 obtain ⟨x, x', g1, g2, g3⟩ := H
 unfold zq9 zq41
 rw [g1, g2]
 rcases g3 with ⟨rfl, rfl⟩ | ⟨at_, rfl, rfl, q1, q2, q3⟩
 ·exact ⟨false, rfl, rfl, fun h => by cases h⟩
 ·refine ⟨_, rfl, rfl, fun h => ⟨q3, q1 ▸ q2, ?_⟩⟩
  have : (at_.length : Int) = (t.Trips.length : Int) := by simpa using h
  rw [q1, List.length_map] at this
  omega
end
theorem getD0 {b : List Int} {k : Nat} {e : Int} (h : b[k]? = some e) : b.getD k 0 = e := by rw [List.getD_eq_getElem?_getD, h]; rfl
def InjB (t : Timetable) (B : List (List Int)) : Prop := ∀ (i : Nat) b (k : Nat) e (i' : Nat) b' (k' : Nat) e', B[i]? = some b → b[k]? = some e → B[i']? = some b' → b'[k']? = some e' → tix t e = tix t e' → i = i' ∧ k = k'
theorem pwG {α : Type} {R : α → α → Prop} {M : List α} (h : M.Pairwise R) {i j : Nat} {a b : α} (hij : i < j) (ha : M[i]? = some a) (hb : M[j]? = some b) : R a b := by
 have := List.pairwise_iff_getElem.1 h i j (get_lt ha) (get_lt hb) hij
 rw [(List.getElem?_eq_some_iff.1 ha).2, (List.getElem?_eq_some_iff.1 hb).2] at this
 exact this
theorem inj_of {t : Timetable} {B : List (List Int)} (h : (B.flatten.map (tix t)).Nodup) : InjB t B := by
 rw [List.map_flatten, List.Nodup, List.pairwise_flatten] at h
 obtain ⟨h1, h2⟩ := h
 intro i b k e i' b' k' e' hb he hb' he' heq
 have gM : ∀ {i : Nat} {b : List Int}, B[i]? = some b → (B.map (List.map (tix t)))[i]? = some (b.map (tix t)) := fun h => by rw [List.getElem?_map, h]; rfl
 have gm : ∀ {b : List Int} {k : Nat} {e : Int}, b[k]? = some e → (b.map (tix t))[k]? = some (tix t e) := fun h => by rw [List.getElem?_map, h]; rfl
 rcases Nat.lt_trichotomy i i' with hlt | rfl | hlt
 ·exact absurd heq (pwG h2 hlt (gM hb) (gM hb') _ (List.mem_of_getElem? (gm he)) _ (List.mem_of_getElem? (gm he')))
 ·rw [hb] at hb'; cases hb'
  have hd := h1 _ (List.mem_of_getElem? (gM hb))
  refine ⟨rfl, ?_⟩
  rcases Nat.lt_trichotomy k k' with hlt | h | hlt
  ·exact absurd heq (pwG hd hlt (gm he) (gm he'))
  ·exact h
  ·exact absurd heq.symm (pwG hd hlt (gm he') (gm he))
 ·exact absurd heq.symm (pwG h2 hlt (gM hb') (gM hb) _ (List.mem_of_getElem? (gm he')) _ (List.mem_of_getElem? (gm he)))
theorem place_ex {t : Timetable} {f : Fleet} {B : List (List Int)} (hP : BlocksP t f B) (hT : GoodT t) {p : Nat} {x : Trip} (hx : t.Trips[p]? = some x) : ∃ (i : Nat) (b : List Int) (k : Nat), B[i]? = some b ∧ b[k]? = some x.Id := by
 have hr : ∀ y ∈ B.flatten.map (tix t), 0 ≤ y ∧ y < (t.Trips.length : Int) := fun y hy => by
  obtain ⟨e, he, rfl⟩ := List.mem_map.1 hy
  obtain ⟨b, hb1, hb2⟩ := List.mem_flatten.1 he
  have := tix_at ((hP.1 b hb1).2.1 e hb2); omega
 have hm := pig_mem hP.2.1 hr (by rw [List.length_map]; exact hP.2.2) (get_lt hx)
 obtain ⟨e, he, hpe⟩ := List.mem_map.1 hm
 have hx' := tix_at (t := t) (e := e) (by omega)
 rw [hpe, Int.toNat_natCast, hx] at hx'
 have hid : x.Id = e := by rw [Option.some.inj hx'.1]; exact hx'.2.1
 obtain ⟨b, hb1, hb2⟩ := List.mem_flatten.1 he
 obtain ⟨i, hi⟩ := List.getElem?_of_mem hb1
 obtain ⟨k, hk⟩ := List.getElem?_of_mem hb2
 exact ⟨i, b, k, hi, by rw [hid]; exact hk⟩
section
variable {t : Timetable} {B : List (List Int)}
theorem placeI (hI : InjB t B) (hB : BB B) (hT : ∀ b ∈ B, ∀ e ∈ b, 0 ≤ tix t e) {i : Nat} {b : List Int} {k : Nat} {e : Int} (hb : B[i]? = some b) (hk : b[k]? = some e) : zq30 B e = some ((i : Int), (k : Int)) := by
 unfold zq30
 have H : Tot (iter (zq30_L1 B e) (0 : Int)) fun r => r = .ret ((i : Int), (k : Int)) := by
  have hi := get_lt hb
  refine .iter (fun m v => ∃ j : Nat, v = (j : Int) ∧ m + j = i) (n := i) ⟨0, rfl, rfl⟩ ?_
  rintro m v ⟨j, rfl, hm⟩
  obtain ⟨c, hc⟩ := get_ex (l := B) (i := j) (by omega)
  have hcl := hB.2 c (List.mem_of_getElem? hc)
  have hBl := hB.1
  unfold zq30_L1
  refine .iteP (fun _ => .eq (ixs hc) (.eq (index_int_eq c (by omega) e) (.iteP (fun h0 => ?_) (fun h0 => ?_)))) (fun hn => absurd (by omega) hn)
  ·obtain ⟨q, y, g1, g2, g3, _⟩ := idx_fix (p := fun z => e == z) (l := c) (by omega)
   have hye : y = e := (show e = y by simpa using g3).symm
   subst hye
   obtain ⟨rfl, rfl⟩ := hI _ _ _ _ _ _ _ _ hc g2 hb hk rfl
   rw [g1]
   exact .dn rfl
  ·refine .nx ⟨m - 1, ?_, j + 1, w64_succ (by omega), ?_⟩
   all_goals
    have hji : j ≠ i := fun hji => by
     subst hji
     rw [hb] at hc; cases hc
     have := fixI_neg (p := fun z => e == z) (l := b) (by omega) e (List.mem_of_getElem? hk)
     simp at this
    omega
 obtain ⟨r, hr, rfl⟩ := H
 rw [hr]; rfl
theorem placeS (hI : InjB t B) (hB : BB B) {i : Nat} {b : List Int} {k : Nat} {e : Int} (hb : B[i]? = some b) (hk : b[k]? = some e) : zq46 B e = some ((i : Int), (k : Int)) := by
 unfold zq46
 have hrow : ∀ (j : Nat) c, B[j]? = some c → Tot (iter (zq46_L1 B e (j : Int)) (0 : Int)) fun r => (j = i ∧ r = .ret (.dn (.ret ((i : Int), (k : Int))))) ∨ (j ≠ i ∧ r = .go ()) := fun j c hc => by
  have hcl := hB.2 c (List.mem_of_getElem? hc)
  refine .iter (fun m v => ∃ q : Nat, v = (q : Int) ∧ m + q = c.length ∧ (j = i → q ≤ k)) (n := c.length) ⟨0, rfl, rfl, fun _ => by omega⟩ ?_
  rintro m v ⟨q, rfl, hm, hq⟩
  unfold zq46_L1
  refine .eq (ixs hc) (.iteP (fun h => ?_) (fun h => .dn (.inr ⟨fun hji => ?_, rfl⟩)))
  ·obtain ⟨y, hy⟩ := get_ex (l := c) (i := q) (by omega)
   refine .eq (ixs hc) (.eq (ixs hy) (.ite (fun hye => ?_) (fun hye => .nx ⟨m - 1, by omega, q + 1, w64_succ (by omega), by omega, fun hji => ?_⟩)))
   ·have : y = e := by simpa using hye
    subst this
    obtain ⟨rfl, rfl⟩ := hI _ _ _ _ _ _ _ _ hc hy hb hk rfl
    exact .dn (.inl ⟨rfl, rfl⟩)
   ·have h1 := hq hji
    have h2 : q ≠ k := fun hqk => by
     subst hji hqk
     rw [hb] at hc; cases hc
     rw [hk] at hy; cases hy
     simp at hye
    omega
  ·have h1 := hq hji
   subst hji
   rw [hb] at hc; cases hc
   have := get_lt hk
   omega
 have H : Tot (iter (zq46_L2 B e) (0 : Int)) fun r => r = .ret ((i : Int), (k : Int)) := by
  have hi := get_lt hb
  have hBl := hB.1
  refine .iter (fun m v => ∃ j : Nat, v = (j : Int) ∧ m + j = i) (n := i) ⟨0, rfl, rfl⟩ ?_
  rintro m v ⟨j, rfl, hm⟩
  obtain ⟨c, hc⟩ := get_ex (l := B) (i := j) (by omega)
  unfold zq46_L2
  refine .iteP (fun _ => ?_) (fun hn => absurd (by omega) hn)
  obtain ⟨r, hr, h⟩ := hrow j c hc
  rw [hr]
  rcases h with ⟨rfl, rfl⟩ | ⟨hji, rfl⟩
  ·exact .dn rfl
  ·exact .nx ⟨m - 1, by omega, j + 1, w64_succ (by omega), by omega⟩
 obtain ⟨r, hr, rfl⟩ := H
 rw [hr]; rfl
end
structure Pl where
 n : Nat
 fol : Nat → Nat → Bool
 dd : Nat → Nat → Nat
def Gm (F : Nat → Nat) (ok : Nat → Bool) (d : Nat → Nat) (u b0 : Nat) : Nat → Nat
 | 0 => b0
 | k + 1 => if ok k = true then min (Gm F ok d u b0 k) (d k + F (u ||| 2 ^ k)) else Gm F ok d u b0 k
def opt (P : Pl) (m u a : Nat) : Bool := !u.testBit a && P.fol a (P.n - (m + 1))
def cst (P : Pl) : Nat → Nat → Nat
 | 0, _ => 0
 | m + 1, u => Gm (cst P m) (opt P m u) (fun a => P.dd a (P.n - (m + 1))) u (100000 + cst P m u) P.n
theorem cst_succ (P : Pl) (m u : Nat) : cst P (m + 1) u = Gm (cst P m) (opt P m u) (fun a => P.dd a (P.n - (m + 1))) u (100000 + cst P m u) P.n := rfl
def Frm (m x : Nat) : Prop := ∃ c d, x = 100000 * (m - c) + d ∧ c ≤ m ∧ d ≤ 120 * m
theorem frm_none {m x : Nat} (h : Frm m x) : Frm (m + 1) (100000 + x) := by
 obtain ⟨c, d, rfl, h1, h2⟩ := h
 exact ⟨c, d, by omega, by omega, by omega⟩
theorem frm_some {m x e : Nat} (h : Frm m x) (he : e ≤ 120) : Frm (m + 1) (e + x) := by
 obtain ⟨c, d, rfl, h1, h2⟩ := h
 exact ⟨c + 1, d + e, by omega, by omega, by omega⟩
theorem gm_frm {F : Nat → Nat} {ok : Nat → Bool} {d : Nat → Nat} {u b0 m : Nat} (h0 : Frm m b0) (hF : ∀ k, ok k = true → Frm m (d k + F (u ||| 2 ^ k))) : ∀ k, Frm m (Gm F ok d u b0 k)
 | 0 => h0
 | k + 1 => by
  unfold Gm
  split
  ·rename_i h
   rcases Nat.le_total (Gm F ok d u b0 k) (d k + F (u ||| 2 ^ k)) with hle | hle
   ·rw [Nat.min_eq_left hle]; exact gm_frm h0 hF k
   ·rw [Nat.min_eq_right hle]; exact hF k h
  ·exact gm_frm h0 hF k
theorem cst_frm {P : Pl} (hd : ∀ a i, P.dd a i ≤ 120) : ∀ m u, Frm m (cst P m u)
 | 0, u => ⟨0, 0, rfl, Nat.le_refl _, Nat.zero_le _⟩
 | m + 1, u => gm_frm (frm_none (cst_frm hd m u)) (fun k _ => frm_some (cst_frm hd m _) (hd k _)) _
theorem gm_le {F : Nat → Nat} {ok : Nat → Bool} {d : Nat → Nat} {u b0 : Nat} : ∀ {k : Nat}, Gm F ok d u b0 k ≤ b0 ∧ ∀ a, a < k → ok a = true → Gm F ok d u b0 k ≤ d a + F (u ||| 2 ^ a)
 | 0 => ⟨Nat.le_refl _, fun a h => absurd h (Nat.not_lt_zero _)⟩
 | k + 1 => by
  obtain ⟨h1, h2⟩ := gm_le (F := F) (ok := ok) (d := d) (u := u) (b0 := b0) (k := k)
  unfold Gm
  split
  ·rename_i h
   refine ⟨Nat.le_trans (Nat.min_le_left _ _) h1, fun a ha hk => ?_⟩
   rcases Nat.lt_or_ge a k with hak | hak
   ·exact Nat.le_trans (Nat.min_le_left _ _) (h2 a hak hk)
   ·have : a = k := by omega
    subst this; exact Nat.min_le_right _ _
  ·rename_i h
   refine ⟨h1, fun a ha hk => ?_⟩
   rcases Nat.lt_or_ge a k with hak | hak
   ·exact h2 a hak hk
   ·have : a = k := by omega
    subst this; exact absurd hk h
theorem gm_at {F : Nat → Nat} {ok : Nat → Bool} {d : Nat → Nat} {u b0 : Nat} : ∀ {k : Nat}, Gm F ok d u b0 k = b0 ∨ ∃ a, a < k ∧ ok a = true ∧ Gm F ok d u b0 k = d a + F (u ||| 2 ^ a)
 | 0 => .inl rfl
 | k + 1 => by
  have ih := gm_at (F := F) (ok := ok) (d := d) (u := u) (b0 := b0) (k := k)
  unfold Gm
  have ih' : Gm F ok d u b0 k = b0 ∨ ∃ a, a < k + 1 ∧ ok a = true ∧ Gm F ok d u b0 k = d a + F (u ||| 2 ^ a) := ih.imp id fun ⟨a, h1, h2⟩ => ⟨a, by omega, h2⟩
  split
  ·rename_i h
   rcases Nat.le_total (Gm F ok d u b0 k) (d k + F (u ||| 2 ^ k)) with hle | hle
   ·rw [Nat.min_eq_left hle]; exact ih'
   ·rw [Nat.min_eq_right hle]; exact .inr ⟨k, by omega, h, rfl⟩
  ·exact ih'
def lkc (m x : Nat) : links := ⟨((m - x / 100000 : Nat) : Int), ((x % 100000 : Nat) : Int)⟩
theorem or2_eq (a b : Int) : zq1 [a, b] = some (if a ≠ 0 then a else b) := by
 have hz : idx [a, b] 0 = some a ∧ idx [a, b] 1 = some b := ⟨rfl, rfl⟩
 have w1 : w64 1 = 1 := rfl
 have w2 : w64 2 = 2 := rfl
 unfold zq1
 by_cases ha : a = 0
 ·have s1 : zq1_L1 [a, b] 0 = some (.nx 1) := by unfold zq1_L1; dsimp only; rw [hz.1]; simp [ha, w1]
  by_cases hb : b = 0
  ·have s2 : zq1_L1 [a, b] 1 = some (.nx 2) := by unfold zq1_L1; dsimp only; rw [hz.2]; simp [hb, w2]
   have s3 : zq1_L1 [a, b] 2 = some (.dn (.go ())) := by unfold zq1_L1; simp
   rw [iter_nx s1, iter_nx s2, iter_dn s3]
   simp [ha, hb]
  ·have s2 : zq1_L1 [a, b] 1 = some (.dn (.ret b)) := by unfold zq1_L1; dsimp only; rw [hz.2]; simp [hb]
   rw [iter_nx s1, iter_dn s2]
   simp [ha]
 ·have s1 : zq1_L1 [a, b] 0 = some (.dn (.ret a)) := by unfold zq1_L1; dsimp only; rw [hz.1]; simp [ha]
  rw [iter_dn s1]
  simp [ha]
theorem links_cmp {m x y : Nat} (hx : Frm m x) (hy : Frm m y) (hm : m ≤ 12) : ∃ r, zq13 (lkc m x) (lkc m y) = some r ∧ (r < 0 ↔ x < y) ∧ (r = 0 ↔ x = y) := by
 obtain ⟨c, d, rfl, h1, h2⟩ := hx
 obtain ⟨c', d', rfl, h1', h2'⟩ := hy
 unfold zq13 lkc
 simp only [compare_int, qb, or2_eq]
 have e1 : (100000 * (m - c) + d) / 100000 = m - c := by omega
 have e2 : (100000 * (m - c) + d) % 100000 = d := by omega
 have e3 : (100000 * (m - c') + d') / 100000 = m - c' := by omega
 have e4 : (100000 * (m - c') + d') % 100000 = d' := by omega
 rw [e1, e2, e3, e4]
 refine ⟨_, rfl, ?_, ?_⟩
 ·split <;> split at * <;> omega
 ·split <;> split at * <;> omega
theorem pw_eq {a : Nat} (ha : a ≤ 12) : w64 (1 * 2 ^ (min (a : Int).toNat (IntKind.i64).bits)) = ((2 ^ a : Nat) : Int) := by
 have hmin : min ((a : Int)).toNat (IntKind.i64).bits = a := by rw [Int.toNat_natCast]; exact Nat.min_eq_left (by show a ≤ 64; omega)
 rw [hmin]
 have h9 : 2 ^ a ≤ 2 ^ 12 := Nat.pow_le_pow_right (by omega) ha
 have e2 : (1 : Int) * 2 ^ a = ((2 ^ a : Nat) : Int) := by rw [Int.one_mul, Int.natCast_pow]; rfl
 rw [e2]
 generalize 2 ^ a = p at h9 ⊢
 exact w64_id (by omega)
theorem lt4096 {n u : Nat} (hn : n ≤ 12) (hu : u < 2 ^ n) : u < 4096 := Nat.lt_of_lt_of_le hu (Nat.pow_le_pow_right (by omega) hn : 2 ^ n ≤ 2 ^ 12)
theorem or_eq {n u a : Nat} (hn : n ≤ 12) (hu : u < 2 ^ n) (ha : a < n) : IntKind.i64.wrap (((BitVec.ofInt (IntKind.i64).bits (u : Int) ||| BitVec.ofInt (IntKind.i64).bits (w64 (1 * 2 ^ (min (a : Int).toNat (IntKind.i64).bits)))).toNat : Nat) : Int) = ((u ||| 2 ^ a : Nat) : Int) ∧ u ||| 2 ^ a < 2 ^ n := by
 have h2 : 2 ^ a < 2 ^ n := Nat.pow_lt_pow_right (by omega) ha
 rw [pw_eq (by omega)]
 exact ⟨or64 (lt4096 hn hu) (lt4096 hn h2), Nat.or_lt_two_pow hu h2⟩
theorem and_eq {u a : Nat} (hu : u < 4096) (ha : a ≤ 12) : IntKind.i64.wrap (((BitVec.ofInt (IntKind.i64).bits ((u : Int).fdiv (2 ^ (min (a : Int).toNat (IntKind.i64).bits))) &&& BitVec.ofInt (IntKind.i64).bits 1).toNat : Nat) : Int) = if u.testBit a = true then 1 else 0 := by
 have hmin : min ((a : Int)).toNat (IntKind.i64).bits = a := by rw [Int.toNat_natCast]; exact Nat.min_eq_left (by show a ≤ 64; omega)
 rw [hmin]
 have e1 : (u : Int).fdiv (2 ^ a) = ((u / 2 ^ a : Nat) : Int) := by
  have : (2 : Int) ^ a = ((2 ^ a : Nat) : Int) := by rw [Int.natCast_pow]; rfl
  rw [this, Int.fdiv_eq_ediv_of_nonneg _ (Int.natCast_nonneg _)]; rfl
 rw [e1]
 have hq : u / 2 ^ a < 4096 := Nat.lt_of_le_of_lt (Nat.div_le_self _ _) hu
 have h1 : (BitVec.ofInt (IntKind.i64).bits ((u / 2 ^ a : Nat) : Int)).toNat = u / 2 ^ a := by
  rw [BitVec.ofInt_natCast, BitVec.toNat_ofNat]
  exact Nat.mod_eq_of_lt (by show u / 2 ^ a < 2 ^ 64; omega)
 have h2 : (BitVec.ofInt (IntKind.i64).bits (1 : Int)).toNat = 1 := by kernel_rfl
 rw [BitVec.toNat_and, h1, h2, Nat.and_one_is_mod, Nat.testBit_eq_decide_div_mod_eq]
 rcases Nat.mod_two_eq_zero_or_one (u / 2 ^ a) with h | h
 ·rw [h]; exact w64_id (x := 0) (by omega)
 ·rw [h]; exact w64_id (x := 1) (by omega)
noncomputable def plan (t : Timetable) (f : Fleet) : Pl :=
 ⟨t.Trips.length, fun a i => match t.Trips[a]?, t.Trips[i]? with | some x, some y => decide (Fol t f x y) | _, _ => false,
  fun a i => match t.Trips[a]?, t.Trips[i]? with | some x, some y => (dv t f x y).toNat | _, _ => 0⟩
theorem plan_n (t : Timetable) (f : Fleet) : (plan t f).n = t.Trips.length := rfl
theorem plan_fol {t : Timetable} {f : Fleet} {a i : Nat} {x y : Trip} (hx : t.Trips[a]? = some x) (hy : t.Trips[i]? = some y) : (plan t f).fol a i = decide (Fol t f x y) := by unfold plan; simp only [hx, hy]
theorem plan_dd {t : Timetable} {f : Fleet} (h : AskF t f) {a i : Nat} {x y : Trip} (hx : t.Trips[a]? = some x) (hy : t.Trips[i]? = some y) : ((plan t f).dd a i : Int) = dv t f x y := by
 have := (dead_both h hx hy).1
 unfold plan; simp only [hx, hy]; omega
theorem plan_120 {t : Timetable} {f : Fleet} (h : AskF t f) (a i : Nat) : (plan t f).dd a i ≤ 120 := by
 unfold plan
 simp only
 split
 ·rename_i x y hx hy
  have := (dead_both h hx hy).1; omega
 ·omega
theorem plan_self {t : Timetable} {f : Fleet} (h : AskF t f) (a : Nat) : (plan t f).fol a a = false := by
 unfold plan
 simp only
 split
 ·rename_i x y hx hy
  rw [hx] at hy; cases hy
  have : ¬ Fol t f x x := fun hF => by have := fol_lt h hx hx hF; omega
  simp [this]
 ·rfl
theorem getL_put {β : Type} (z v : β) (k k' : Int × Int) : ∀ m : List ((Int × Int) × β), getL z k' (putL k v m) = if k = k' then (v, true) else getL z k' m
 | [] => by
  unfold putL getL
  by_cases h : k = k' <;> simp [h, getL]
 | (q, d) :: m => by
  unfold putL
  by_cases hq : q = k
  ·subst hq
   rw [if_pos rfl]
   simp only [getL]
   by_cases h : q = k' <;> simp [h]
  ·rw [if_neg hq]
   simp only [getL]
   by_cases h : q = k'
   ·subst h
    simp [Ne.symm hq]
   ·simp only [if_neg h]; exact getL_put z v k k' m
def Mv (P : Pl) (memo : List ((Int × Int) × links)) : Prop := ∀ i u : Nat, i ≤ P.n → (getL (⟨0, 0⟩ : links) ((i : Int), (u : Int)) memo).2 = true → (getL (⟨0, 0⟩ : links) ((i : Int), (u : Int)) memo).1 = lkc (P.n - i) (cst P (P.n - i) u)
theorem mv_nil (P : Pl) : Mv P [] := fun _ _ _ h => by cases h
theorem mv_put {P : Pl} {memo : List ((Int × Int) × links)} (h : Mv P memo) {i u : Nat} {v : links} (hv : v = lkc (P.n - i) (cst P (P.n - i) u)) : Mv P (putL ((i : Int), (u : Int)) v memo) := by
 intro j w hj hw
 rw [getL_put] at hw ⊢
 split at hw
 ·rename_i he
  rw [if_pos he]
  simp only [Prod.mk.injEq] at he
  have h1 : i = j := by omega
  have h2 : u = w := by omega
  subst h1; subst h2; exact hv
 ·rename_i he
  rw [if_neg he]
  exact h j w hj hw
theorem lkc_none (m x : Nat) : lkc (m + 1) (100000 + x) = lkc m x := by
 unfold lkc
 have h1 : (m + 1) - (100000 + x) / 100000 = m - x / 100000 := by omega
 have h2 : (100000 + x) % 100000 = x % 100000 := by omega
 rw [h1, h2]
theorem lkc_some {m x e : Nat} (hm : m ≤ 12) (hx : Frm m x) (he : e ≤ 120) : (⟨w64 ((lkc m x).count_ + 1), w64 ((lkc m x).dead_ + (e : Int))⟩ : links) = lkc (m + 1) (e + x) := by
 obtain ⟨c, d, rfl, h1, h2⟩ := hx
 have e1 : (100000 * (m - c) + d) / 100000 = m - c := by omega
 have e2 : (100000 * (m - c) + d) % 100000 = d := by omega
 have e3 : (e + (100000 * (m - c) + d)) / 100000 = m - c := by omega
 have e4 : (e + (100000 * (m - c) + d)) % 100000 = d + e := by omega
 unfold lkc
 rw [e1, e2, e3, e4]
 congr 1
 ·dsimp only; rw [w64_id (by omega)]; omega
 ·dsimp only; rw [w64_id (by omega)]; omega
theorem after_both {t : Timetable} {f : Fleet} (h : AskF t f) {m i : Nat} (hm : m + (i + 1) = t.Trips.length) {rec_ : linker → Int → Int → Option (links × (List ((Int × Int) × links)))}
  (hrec : ∀ memo (u : Nat), Mv (plan t f) memo → u < 2 ^ t.Trips.length → Tot (rec_ ⟨t, f, memo⟩ ((i + 1 : Nat) : Int) (u : Int)) fun r => r.1 = lkc m (cst (plan t f) m u) ∧ Mv (plan t f) r.2)
  {memo : List ((Int × Int) × links)} (hM : Mv (plan t f) memo) {a u : Nat} (ha : a < t.Trips.length) (hu : u < 2 ^ t.Trips.length) :
  Tot (zq27 rec_ ⟨t, f, memo⟩ (i : Int) (a : Int) (u : Int)) fun r => Mv (plan t f) r.2.2 ∧ r.2.1 = opt (plan t f) m u a ∧ (opt (plan t f) m u a = true → r.1 = lkc (m + 1) ((plan t f).dd a i + cst (plan t f) m (u ||| 2 ^ a))) := by
 have hn := h.1.2.1
 have hn12 : t.Trips.length ≤ 12 := by omega
 have hi : (plan t f).n - (m + 1) = i := by rw [plan_n]; omega
 obtain ⟨x, hx⟩ := get_ex (l := t.Trips) (i := a) ha
 obtain ⟨y, hy⟩ := get_ex (l := t.Trips) (i := i) (by omega)
 have hopt : opt (plan t f) m u a = (!u.testBit a && decide (Fol t f x y)) := by unfold opt; rw [hi, plan_fol hx hy]
 have hw : w64 ((i : Int) + 1) = ((i + 1 : Nat) : Int) := w64_succ (by omega)
 unfold zq27
 refine .call (P := fun v => v = !opt (plan t f) m u a) ?_ fun v hv => ?_
 ·refine .ite (fun he => .ok ?_) fun he => .chk (by omega) ?_
  ·have : a = i := by have := beq_iff_eq.1 he; omega
   subst this
   rw [hopt]
   have hs := plan_self h a
   rw [plan_fol hx hy] at hs
   rw [hs]; simp
  ·rw [and_eq (lt4096 hn12 hu) (by omega)]
   by_cases hb : u.testBit a = true
   ·simp only [hb, if_true]
    exact .ok (by rw [hopt, hb]; rfl)
   ·simp only [hb, Bool.false_eq_true, if_false]
    refine .eq (ixs hx) (.eq (ixs hy) (.eq (follow_both h hx hy).1 (.ok ?_)))
    rw [hopt]; simp [hb]
 ·subst hv
  cases ho : opt (plan t f) m u a with
  | false => exact .ok ⟨hM, rfl, fun h => by cases h⟩
  | true =>
   obtain ⟨o1, o2⟩ := or_eq (u := u) hn12 hu ha
   have hd := dead_both h hx hy
   simp only [Bool.not_true, Bool.false_eq_true, if_false]
   rw [o1, hw]
   refine .chk (by omega) (.call (hrec memo _ hM o2) fun r hr => .eq (ixs hx) (.eq (ixs hy) (.eq hd.2.1 (.ok ⟨hr.2, rfl, fun _ => ?_⟩))))
   rw [hr.1, ← plan_dd h hx hy]
   exact lkc_some (by omega) (cst_frm (plan_120 h) m _) (plan_120 h a i)
theorem best_ok {t : Timetable} {f : Fleet} (h : AskF t f) : ∀ (m N i : Nat) (memo : List ((Int × Int) × links)) (u : Nat), m + i = t.Trips.length → m < N → Mv (plan t f) memo → u < 2 ^ t.Trips.length →
  Tot (zq28_k N ⟨t, f, memo⟩ (i : Int) (u : Int)) fun r => r.1 = lkc m (cst (plan t f) m u) ∧ Mv (plan t f) r.2
 | m, 0, i, memo, u, _, hN, _, _ => by omega
 | m, N + 1, i, memo, u, hm, hN, hM, hu => by
  have hn := h.1.2.1
  show Tot (zq28_F (zq28_k N) ⟨t, f, memo⟩ (i : Int) (u : Int)) _
  unfold zq28_F
  cases m with
  | zero =>
   have hb : ((i : Int) == (t.Trips.length : Int)) = true := by simp; omega
   simp only [hb, if_true]
   exact .ok ⟨by unfold cst lkc; rfl, hM⟩
  | succ m =>
   have hb : ((i : Int) == (t.Trips.length : Int)) = false := by simp; omega
   have hw : w64 ((i : Int) + 1) = ((i + 1 : Nat) : Int) := w64_succ (by omega)
   have hni : (plan t f).n - i = m + 1 := by rw [plan_n]; omega
   have hni2 : (plan t f).n - (m + 1) = i := by rw [plan_n]; omega
   simp only [hb, Bool.false_eq_true, if_false]
   rw [hw]
   refine .eq rfl (.ite (fun h1 => .ok ⟨?_, hM⟩) fun _ => ?_)
   ·have := hM i u (by rw [plan_n]; omega) h1
    rw [hni] at this; exact this
   have ihr : ∀ memo (u : Nat), Mv (plan t f) memo → u < 2 ^ t.Trips.length → Tot (zq28_k N ⟨t, f, memo⟩ ((i + 1 : Nat) : Int) (u : Int)) fun r => r.1 = lkc m (cst (plan t f) m u) ∧ Mv (plan t f) r.2 :=
    fun memo u hM hu => best_ok h m N (i + 1) memo u (by omega) (by omega) hM hu
   refine .call (ihr memo u hM hu) fun r2 hr2 => ?_
   refine .call (P := fun o => Mv (plan t f) o.1 ∧ (⟨o.2.1, o.2.2⟩ : links) = lkc (m + 1) (cst (plan t f) (m + 1) u)) ?_ fun ⟨v8, v9, v10⟩ ho => .ok ⟨ho.2, mv_put ho.1 (by rw [hni]; exact ho.2)⟩
   have hfr := cst_frm (plan_120 h)
   have hg : ∀ k, Frm (m + 1) (Gm (cst (plan t f) m) (opt (plan t f) m u) (fun a => (plan t f).dd a i) u (100000 + cst (plan t f) m u) k) := gm_frm (frm_none (hfr m u)) fun k _ => frm_some (hfr m _) (plan_120 h k i)
   refine .iter (fun q (s : Int × (List ((Int × Int) × links)) × Int × Int) => ∃ k : Nat, s.1 = (k : Int) ∧ q + k = t.Trips.length ∧ Mv (plan t f) s.2.1 ∧ (⟨s.2.2.1, s.2.2.2⟩ : links) = lkc (m + 1) (Gm (cst (plan t f) m) (opt (plan t f) m u) (fun a => (plan t f).dd a i) u (100000 + cst (plan t f) m u) k)) (n := t.Trips.length) ⟨0, rfl, rfl, hr2.2, ?_⟩ ?_
   ·show r2.1 = _
    rw [hr2.1]; exact (lkc_none m _).symm
   ·rintro q ⟨v, v1, v2, v3⟩ ⟨k, hk, hq, hM1, hl⟩
    simp only at hk hM1 hl
    subst hk
    unfold zq28_L1
    dsimp only
    refine .iteP (fun hc => ?_) (fun hc => .dn ⟨hM1, ?_⟩)
    ·refine .call (P := fun o => Mv (plan t f) o.1 ∧ (⟨o.2.1, o.2.2⟩ : links) = lkc (m + 1) (Gm (cst (plan t f) m) (opt (plan t f) m u) (fun a => (plan t f).dd a i) u (100000 + cst (plan t f) m u) (k + 1))) ?_ fun ⟨v4, v5, v6⟩ ho => .nx ⟨q - 1, by omega, k + 1, w64_succ (by omega), by omega, ho.1, ho.2⟩
     refine .call (after_both h (by omega) ihr hM1 (by omega) hu) fun r3 ⟨a1, a2, a3⟩ => ?_
     unfold Gm
     cases ho : opt (plan t f) m u k with
     | false =>
      rw [ho] at a2
      refine .call (P := fun b => b = false) (by simp only [a2, Bool.false_eq_true, if_false]; exact .ok rfl) fun b hb => ?_
      subst hb
      exact .ok ⟨a1, hl⟩
     | true =>
      rw [ho] at a2
      have a3 := a3 ho
      obtain ⟨r, c1, c2, _⟩ := links_cmp (m := m + 1) (x := (plan t f).dd k i + cst (plan t f) m (u ||| 2 ^ k)) (y := Gm (cst (plan t f) m) (opt (plan t f) m u) (fun a => (plan t f).dd a i) u (100000 + cst (plan t f) m u) k) (frm_some (hfr m _) (plan_120 h k i)) (hg k) (by omega)
      refine .call (P := fun b => b = decide (r < 0)) (by simp only [a2, if_true]; rw [hl, a3]; exact .eq c1 (.ok rfl)) fun b hb => ?_
      subst hb
      simp only [if_true]
      refine .iteP (fun h0 => .ok ⟨a1, ?_⟩) (fun h0 => .ok ⟨a1, ?_⟩)
      ·have := c2.1 h0
       rw [Nat.min_eq_right (by omega)]
       show r3.1 = _
       exact a3
      ·have : ¬ _ := fun hh => h0 (c2.2 hh)
       rw [Nat.min_eq_left (by omega)]
       exact hl
    ·have : k = t.Trips.length := by omega
     subst this
     show (⟨v2, v3⟩ : links) = _
     rw [hl, cst_succ, hni2, plan_n]
theorem best_at {t : Timetable} {f : Fleet} (h : AskF t f) {m i : Nat} {memo : List ((Int × Int) × links)} {u : Nat} (hm : m + i = t.Trips.length) (hM : Mv (plan t f) memo) (hu : u < 2 ^ t.Trips.length) :
  Tot (zq28 ⟨t, f, memo⟩ (i : Int) (u : Int)) fun r => r.1 = lkc m (cst (plan t f) m u) ∧ Mv (plan t f) r.2 := by
 have hn := h.1.2.1
 unfold zq28
 exact best_ok h m _ i memo u hm (by omega) hM hu
def hit (P : Pl) (m u a : Nat) : Bool := opt P m u a && (P.dd a (P.n - (m + 1)) + cst P m (u ||| 2 ^ a) == cst P (m + 1) u)
def pkI (P : Pl) (m u : Nat) : Nat := (List.range P.n).findIdx (hit P m u)
def pk (P : Pl) (m u : Nat) : Int := if 100000 + cst P m u = cst P (m + 1) u then -1 else (pkI P m u : Int)
def nx (P : Pl) (m u : Nat) : Nat := if 100000 + cst P m u = cst P (m + 1) u then u else u ||| 2 ^ pkI P m u
def befL (P : Pl) : Nat → Nat → List Int
 | 0, _ => []
 | m + 1, u => pk P m u :: befL P m (nx P m u)
theorem befL_len (P : Pl) : ∀ m u, (befL P m u).length = m
 | 0, _ => rfl
 | m + 1, u => by unfold befL; rw [List.length_cons, befL_len P m]
theorem pkI_at {P : Pl} {m u : Nat} (h : ¬ 100000 + cst P m u = cst P (m + 1) u) : pkI P m u < P.n ∧ hit P m u (pkI P m u) = true ∧ ∀ b, b < pkI P m u → hit P m u b = false := by
 have hex : ∃ a, a < P.n ∧ hit P m u a = true := by
  rcases gm_at (F := cst P m) (ok := opt P m u) (d := fun a => P.dd a (P.n - (m + 1))) (u := u) (b0 := 100000 + cst P m u) (k := P.n) with h1 | ⟨a, h1, h2, h3⟩
  ·exact absurd (h1.symm.trans (cst_succ P m u).symm) h
  ·refine ⟨a, h1, ?_⟩
   unfold hit
   rw [h2, cst_succ, h3]; simp
 obtain ⟨a, ha, hh⟩ := hex
 have hlt : pkI P m u < (List.range P.n).length := List.findIdx_lt_length.2 ⟨a, List.mem_range.2 ha, hh⟩
 refine ⟨by simpa using hlt, ?_, fun b hb => ?_⟩
 ·have := List.findIdx_getElem (xs := List.range P.n) (p := hit P m u) (w := hlt)
  have e : (List.range P.n)[pkI P m u]'hlt = pkI P m u := by simp
  exact (congrArg (hit P m u) e).symm.trans this
 ·have hb' : b < (List.range P.n).length := Nat.lt_trans hb hlt
  have := List.not_of_lt_findIdx (xs := List.range P.n) (p := hit P m u) (i := b) hb
  simp only [List.getElem_range] at this
  simpa using this
theorem pkI_of {P : Pl} {m u a : Nat} (h : ¬ 100000 + cst P m u = cst P (m + 1) u) (h1 : hit P m u a = true) (h2 : ∀ b, b < a → hit P m u b = false) : a = pkI P m u := by
 obtain ⟨_, g2, g3⟩ := pkI_at h
 rcases Nat.lt_trichotomy a (pkI P m u) with hlt | he | hlt
 ·rw [g3 a hlt] at h1; cases h1
 ·exact he
 ·rw [h2 _ hlt] at g2; cases g2
theorem nx_lt {P : Pl} {m u : Nat} (hu : u < 2 ^ P.n) : nx P m u < 2 ^ P.n := by
 unfold nx
 split
 ·exact hu
 ·rename_i h
  exact Nat.or_lt_two_pow hu (Nat.pow_lt_pow_right (by omega) (pkI_at h).1)
section
variable {t : Timetable} {f : Fleet}
end
structure Fst (n M : Nat) (st : Nat → Nat) (bef : List Int) : Prop where
 len : bef.length = n
 ok : ∀ (i : Nat) b, bef[i]? = some b → b = -1 ∨ ∃ a : Nat, b = (a : Int) ∧ a < n ∧ st a < st i
 inj : ∀ (i j : Nat) b, bef[i]? = some b → bef[j]? = some b → 0 ≤ b → i = j
 top : ∀ i : Nat, i < n → st i ≤ M
def nxt (bef : List Int) (k : Nat) : Int := fixI (fun b => b == (k : Int)) bef
def chn (bef : List Int) : Nat → Nat → List Nat
 | 0, k => [k]
 | N + 1, k => k :: (if nxt bef k < 0 then [] else chn bef N (nxt bef k).toNat)
def hds (bef : List Int) : List Nat := (List.range bef.length).filter fun i => decide (bef.getD i 0 < 0)
def chs (bef : List Int) (M : Nat) : List (List Nat) := (hds bef).map (chn bef M)
theorem nxt_at {bef : List Int} {k : Nat} (h : ¬ nxt bef k < 0) : bef[(nxt bef k).toNat]? = some (k : Int) := by
 obtain ⟨j, x, h1, h2, h3, _⟩ := idx_fix h
 have e : nxt bef k = (j : Int) := h1
 have hx : x = (k : Int) := beq_iff_eq.1 h3
 rw [e, Int.toNat_natCast, h2, hx]
section
variable {n M : Nat} {st : Nat → Nat} {bef : List Int}
theorem Fst.nxe (F : Fst n M st bef) {k y : Nat} (h : bef[y]? = some (k : Int)) : nxt bef k = (y : Int) := by
 by_cases hn : nxt bef k < 0
 ·have := fixI_neg (p := fun b => b == (k : Int)) (l := bef) hn _ (List.mem_of_getElem? h)
  simp at this
 ·have h1 := nxt_at hn
  have := F.inj _ _ _ h1 h (by omega)
  omega
theorem Fst.stn (F : Fst n M st bef) {k : Nat} (h : ¬ nxt bef k < 0) : st k < st (nxt bef k).toNat ∧ (nxt bef k).toNat < n := by
 have h1 := nxt_at h
 have hl := get_lt h1
 rw [F.len] at hl
 rcases F.ok _ _ h1 with h2 | ⟨a, h2, _, h3⟩
 ·omega
 ·have : k = a := by omega
  subst this; exact ⟨h3, hl⟩
theorem chn_hd (N k : Nat) : ∃ r, chn bef N k = k :: r := by
 cases N with
 | zero => exact ⟨[], rfl⟩
 | succ N => exact ⟨_, rfl⟩
theorem chn_mem (F : Fst n M st bef) : ∀ (N k : Nat), k < n → ∀ x ∈ chn bef N k, x < n ∧ st k ≤ st x ∧ (x = k ∨ ∃ y ∈ chn bef N k, bef[x]? = some (y : Int))
 | 0, k, hk, x, hx => by
  rw [List.mem_singleton.1 hx]; exact ⟨hk, Nat.le_refl _, .inl rfl⟩
 | N + 1, k, hk, x, hx => by
  unfold chn at hx ⊢
  rcases List.mem_cons.1 hx with rfl | hx
  ·exact ⟨hk, Nat.le_refl _, .inl rfl⟩
  ·split at hx
   ·cases hx
   ·rename_i h
    rw [if_neg h]
    obtain ⟨h1, h2⟩ := F.stn h
    obtain ⟨g1, g2, g3⟩ := chn_mem F N _ h2 x hx
    refine ⟨g1, by omega, .inr ?_⟩
    rcases g3 with rfl | ⟨y, hy1, hy2⟩
    ·exact ⟨k, List.mem_cons_self .., nxt_at h⟩
    ·exact ⟨y, List.mem_cons_of_mem _ hy1, hy2⟩
theorem chn_pw (F : Fst n M st bef) : ∀ (N k : Nat), k < n → (chn bef N k).Pairwise fun a b => st a < st b
 | 0, k, _ => by unfold chn; exact List.pairwise_singleton _ _
 | N + 1, k, hk => by
  unfold chn
  refine List.pairwise_cons.2 ?_
  split
  ·exact ⟨by simp, List.Pairwise.nil⟩
  ·rename_i h
   obtain ⟨h1, h2⟩ := F.stn h
   refine ⟨fun x hx => ?_, chn_pw F N _ h2⟩
   have := (chn_mem F N _ h2 x hx).2.1
   omega
theorem chn_clo (F : Fst n M st bef) : ∀ (N k : Nat), k < n → M ≤ N + st k → ∀ x ∈ chn bef N k, ∀ y, bef[y]? = some (x : Int) → y ∈ chn bef N k
 | 0, k, hk, hM, x, hx, y, hy => by
  unfold chn at hx
  rw [List.mem_singleton.1 hx] at hy
  have hl := get_lt hy
  rw [F.len] at hl
  rcases F.ok _ _ hy with h2 | ⟨a, h2, _, h3⟩
  ·omega
  ·have := F.top _ hl
   have : k = a := by omega
   subst this; omega
 | N + 1, k, hk, hM, x, hx, y, hy => by
  unfold chn at hx ⊢
  rcases List.mem_cons.1 hx with rfl | hx
  ·have := F.nxe hy
   rw [if_neg (by omega), this]
   obtain ⟨r, hr⟩ := chn_hd (bef := bef) N y
   rw [Int.toNat_natCast, hr]
   exact List.mem_cons_of_mem _ (List.mem_cons_self ..)
  ·split at hx
   ·cases hx
   ·rename_i h
    rw [if_neg h]
    obtain ⟨h1, h2⟩ := F.stn h
    exact List.mem_cons_of_mem _ (chn_clo F N _ h2 (by omega) x hx y hy)
theorem hds_mem {i : Nat} : i ∈ hds bef ↔ ∃ b, bef[i]? = some b ∧ b < 0 := by
 unfold hds
 rw [List.mem_filter, List.mem_range]
 constructor
 ·rintro ⟨h1, h2⟩
  obtain ⟨b, hb⟩ := get_ex h1
  refine ⟨b, hb, ?_⟩
  rw [getD0 hb] at h2
  simpa using h2
 ·rintro ⟨b, hb, h2⟩
  exact ⟨get_lt hb, by rw [getD0 hb]; simpa using h2⟩
theorem hds_pw : (hds bef).Pairwise (· < ·) := List.Pairwise.filter _ List.pairwise_lt_range
theorem chs_cover (F : Fst n M st bef) : ∀ (s i : Nat), st i ≤ s → i < n → ∃ h ∈ hds bef, i ∈ chn bef M h
 | s, i, hs, hi => by
  obtain ⟨b, hb⟩ := get_ex (l := bef) (i := i) (by rw [F.len]; exact hi)
  rcases F.ok _ _ hb with h2 | ⟨a, h2, ha, h3⟩
  ·obtain ⟨r, hr⟩ := chn_hd (bef := bef) M i
   exact ⟨i, hds_mem.2 ⟨b, hb, by omega⟩, by rw [hr]; exact List.mem_cons_self ..⟩
  ·cases s with
   | zero => omega
   | succ s =>
    obtain ⟨h, g1, g2⟩ := chs_cover F s a (by omega) ha
    obtain ⟨b', hb', _⟩ := hds_mem.1 g1
    have hl := get_lt hb'
    rw [F.len] at hl
    exact ⟨h, g1, chn_clo F M h hl (by omega) a g2 i (by rw [hb, h2])⟩
theorem chs_apart (F : Fst n M st bef) {h h' : Nat} (g1 : h ∈ hds bef) (g2 : h' ∈ hds bef) : ∀ (s x : Nat), st x ≤ s → x ∈ chn bef M h → x ∈ chn bef M h' → h = h'
 | s, x, hs, hx, hx' => by
  obtain ⟨b, hb, b0⟩ := hds_mem.1 g1
  obtain ⟨b', hb', b0'⟩ := hds_mem.1 g2
  have hl := get_lt hb
  have hl' := get_lt hb'
  rw [F.len] at hl hl'
  rcases (chn_mem F M h hl x hx).2.2 with rfl | ⟨y, y1, y2⟩
  ·rcases (chn_mem F M h' hl' x hx').2.2 with rfl | ⟨y, y1, y2⟩
   ·rfl
   ·rw [hb] at y2; cases y2; omega
  ·rcases (chn_mem F M h' hl' x hx').2.2 with rfl | ⟨y', y1', y2'⟩
   ·rw [hb'] at y2; cases y2; omega
   ·rw [y2] at y2'
    have : y = y' := by have := Option.some.inj y2'; omega
    subst this
    rcases F.ok _ _ y2 with h2 | ⟨a, h2, _, h3⟩
    ·omega
    ·have : y = a := by omega
     subst this
     cases s with
     | zero => omega
     | succ s => exact chs_apart F g1 g2 s y (by omega) y1 y1'
theorem nd_of_pw {l : List Nat} (h : l.Pairwise fun a b => st a < st b) : l.Nodup := h.imp fun {a b} hab e => by subst e; omega
theorem chs_perm (F : Fst n M st bef) : (chs bef M).flatten.Perm (List.range n) := by
 have hd : (chs bef M).flatten.Nodup := by
  rw [List.Nodup, List.pairwise_flatten]
  refine ⟨fun l hl => ?_, ?_⟩
  ·obtain ⟨h, h1, rfl⟩ := List.mem_map.1 hl
   obtain ⟨b, hb, _⟩ := hds_mem.1 h1
   exact nd_of_pw (chn_pw F M h (by have := get_lt hb; rw [F.len] at this; exact this))
  ·unfold chs
   rw [List.pairwise_map]
   refine List.Pairwise.imp_of_mem ?_ (hds_pw (bef := bef))
   intro a b ha hb hab x hx y hy e
   subst e
   have := chs_apart F ha hb (st x) x (Nat.le_refl _) hx hy
   omega
 refine (List.perm_ext_iff_of_nodup hd List.nodup_range).2 fun x => ?_
 rw [List.mem_range]
 constructor
 ·intro hx
  obtain ⟨l, hl, hx⟩ := List.mem_flatten.1 hx
  obtain ⟨h, h1, rfl⟩ := List.mem_map.1 hl
  obtain ⟨b, hb, _⟩ := hds_mem.1 h1
  exact (chn_mem F M h (by have := get_lt hb; rw [F.len] at this; exact this) x hx).1
 ·intro hx
  obtain ⟨h, h1, h2⟩ := chs_cover F (st x) x (Nat.le_refl _) hx
  exact List.mem_flatten.2 ⟨_, List.mem_map.2 ⟨h, h1, rfl⟩, h2⟩
def csum {α : Type} (dd : α → α → Nat) : List α → Nat
 | [] => 0
 | [_] => 0
 | a :: b :: r => dd a b + csum dd (b :: r)
def gd (dd : Nat → Nat → Nat) (bef : List Int) (i : Nat) : Nat := if bef.getD i 0 < 0 then 0 else dd (bef.getD i 0).toNat i
theorem csum_chn (F : Fst n M st bef) (dd : Nat → Nat → Nat) : ∀ (N k : Nat), csum dd (chn bef N k) + gd dd bef k = ((chn bef N k).map (gd dd bef)).sum
 | 0, k => by simp [chn, csum]
 | N + 1, k => by
  unfold chn
  split
  ·simp [csum]
  ·rename_i h
   have ih := csum_chn F dd N (nxt bef k).toNat
   obtain ⟨r, hr⟩ := chn_hd (bef := bef) N (nxt bef k).toNat
   have e : csum dd (k :: chn bef N (nxt bef k).toNat) = dd k (nxt bef k).toNat + csum dd (chn bef N (nxt bef k).toNat) := by rw [hr]; rfl
   have hg : gd dd bef (nxt bef k).toNat = dd k (nxt bef k).toNat := by
    unfold gd
    rw [getD0 (nxt_at h), if_neg (by omega), Int.toNat_natCast]
   rw [e, List.map_cons, List.sum_cons, ← ih, hg]
   omega
theorem chs_sum (F : Fst n M st bef) (dd : Nat → Nat → Nat) : ((chs bef M).map (csum dd)).sum = ((List.range n).map (gd dd bef)).sum := by
 rw [← ((chs_perm F).map (gd dd bef)).sum_nat]
 unfold chs
 have : ∀ l : List Nat, (∀ h ∈ l, gd dd bef h = 0) → ((l.map (chn bef M)).map (csum dd)).sum = ((l.map (chn bef M)).flatten.map (gd dd bef)).sum := by
  intro l
  induction l with
  | nil => intro _; rfl
  | cons h l ih =>
   intro hl
   have h0 := hl h (List.mem_cons_self ..)
   have := csum_chn F dd M h
   simp only [List.map_cons, List.sum_cons, List.flatten_cons, List.map_append, List.sum_append_nat]
   rw [ih fun x hx => hl x (List.mem_cons_of_mem _ hx)]
   omega
 refine this _ fun h hh => ?_
 obtain ⟨b, hb, b0⟩ := hds_mem.1 hh
 unfold gd
 rw [getD0 hb, if_pos b0]
theorem cost_sum (F : Fst n M st bef) (dd : Nat → Nat → Nat) : ((List.range n).map fun i => if bef.getD i 0 < 0 then 100000 else dd (bef.getD i 0).toNat i).sum = 100000 * (hds bef).length + ((List.range n).map (gd dd bef)).sum := by
 unfold hds
 rw [F.len]
 generalize List.range n = l
 induction l with
 | nil => rfl
 | cons i l ih =>
  simp only [List.map_cons, List.sum_cons, ih, List.filter_cons]
  unfold gd
  by_cases h : bef.getD i 0 < 0
  ·simp only [h, if_true, decide_true, List.length_cons]; omega
  ·simp only [h, if_false, decide_false, Bool.false_eq_true]; omega
end
def costL (P : Pl) : Nat → List Int → Nat
 | _, [] => 0
 | i, b :: r => (if b < 0 then 100000 else P.dd b.toNat i) + costL P (i + 1) r
theorem befL_cost (P : Pl) : ∀ m u, m ≤ P.n → cst P m u = costL P (P.n - m) (befL P m u)
 | 0, u, _ => rfl
 | m + 1, u, hm => by
  unfold befL costL
  have e : P.n - (m + 1) + 1 = P.n - m := by omega
  rw [e, ← befL_cost P m (nx P m u) (by omega)]
  unfold pk nx
  by_cases h : 100000 + cst P m u = cst P (m + 1) u
  ·rw [if_pos h, if_pos h, if_pos (by omega)]; omega
  ·obtain ⟨p1, p2, _⟩ := pkI_at h
   rw [if_neg h, if_neg h, if_neg (by omega), Int.toNat_natCast]
   unfold hit at p2
   simp only [Bool.and_eq_true, beq_iff_eq] at p2
   omega
theorem costL_sum (P : Pl) : ∀ (l : List Int) (i : Nat), costL P i l = ((List.range l.length).map fun j => if l.getD j 0 < 0 then 100000 else P.dd (l.getD j 0).toNat (i + j)).sum
 | [], i => rfl
 | b :: r, i => by
  unfold costL
  rw [costL_sum P r (i + 1), List.length_cons, List.range_succ_eq_map, List.map_cons, List.sum_cons, List.map_map]
  congr 2
  apply List.map_congr_left
  intro j _
  simp only [Function.comp, List.getD_cons_succ]
  rw [show i + 1 + j = i + (j + 1) by omega]
theorem testBit_or {u a b : Nat} : (u ||| 2 ^ a).testBit b = (u.testBit b || decide (a = b)) := by
 rw [Nat.testBit_or, Nat.testBit_two_pow]
theorem befL_at (P : Pl) : ∀ m u, m ≤ P.n → (∀ (j : Nat) b, (befL P m u)[j]? = some b → b = -1 ∨ ∃ a : Nat, b = (a : Int) ∧ a < P.n ∧ u.testBit a = false ∧ P.fol a (P.n - m + j) = true) ∧
  ∀ (j j' : Nat) b, (befL P m u)[j]? = some b → (befL P m u)[j']? = some b → 0 ≤ b → j = j'
 | 0, u, _ => ⟨fun j b h => by simp [befL] at h, fun j j' b h => by simp [befL] at h⟩
 | m + 1, u, hm => by
  obtain ⟨h1, h2⟩ := befL_at P m (nx P m u) (by omega)
  have hpk : pk P m u = -1 ∨ ∃ a : Nat, pk P m u = (a : Int) ∧ a < P.n ∧ u.testBit a = false ∧ P.fol a (P.n - (m + 1)) = true ∧ nx P m u = u ||| 2 ^ a := by
   unfold pk nx
   by_cases h : 100000 + cst P m u = cst P (m + 1) u
   ·exact .inl (if_pos h)
   ·obtain ⟨p1, p2, _⟩ := pkI_at h
    refine .inr ⟨pkI P m u, if_neg h, p1, ?_, ?_, if_neg h⟩
    all_goals
     unfold hit opt at p2
     simp only [Bool.and_eq_true, Bool.not_eq_true'] at p2
    ·exact p2.1.1
    ·exact p2.1.2
  have hsub : ∀ a : Nat, (nx P m u).testBit a = false → u.testBit a = false := fun a ha => by
   unfold nx at ha
   split at ha
   ·exact ha
   ·rw [testBit_or] at ha
    simp only [Bool.or_eq_false_iff] at ha
    exact ha.1
  have hno : ∀ (j : Nat), 0 ≤ pk P m u → (befL P m (nx P m u))[j]? ≠ some (pk P m u) := fun j h0 hj => by
   rcases hpk with hpk | ⟨a, e, _, _, _, e2⟩
   ·omega
   ·rcases h1 j _ hj with hq | ⟨a', e', _, t', _⟩
    ·omega
    ·have : a = a' := by omega
     subst this
     rw [e2, testBit_or] at t'
     simp at t'
  refine ⟨fun j b hj => ?_, fun j j' b hj hj' hb => ?_⟩
  ·unfold befL at hj
   cases j with
   | zero =>
    simp only [List.getElem?_cons_zero, Option.some.injEq] at hj
    subst hj
    rcases hpk with hpk | ⟨a, e, p1, p2, p3, _⟩
    ·exact .inl hpk
    ·exact .inr ⟨a, e, p1, p2, p3⟩
   | succ j =>
    simp only [List.getElem?_cons_succ] at hj
    rcases h1 j b hj with hq | ⟨a, e, p1, p2, p3⟩
    ·exact .inl hq
    ·refine .inr ⟨a, e, p1, hsub a p2, ?_⟩
     rw [show P.n - (m + 1) + (j + 1) = P.n - m + j by omega]; exact p3
  ·unfold befL at hj hj'
   cases j with
   | zero =>
    cases j' with
    | zero => rfl
    | succ j' =>
     simp only [List.getElem?_cons_zero, List.getElem?_cons_succ, Option.some.injEq] at hj hj'
     subst hj
     exact absurd hj' (hno j' hb)
   | succ j =>
    cases j' with
    | zero =>
     simp only [List.getElem?_cons_zero, List.getElem?_cons_succ, Option.some.injEq] at hj hj'
     subst hj'
     exact absurd hj (hno j hb)
    | succ j' =>
     simp only [List.getElem?_cons_succ] at hj hj'
     rw [h2 j j' b hj hj' hb]
def stt (t : Timetable) (i : Nat) : Nat := ((t.Trips[i]?).map fun x => x.Start.toNat).getD 0
noncomputable def bfo (t : Timetable) (f : Fleet) : List Int := befL (plan t f) t.Trips.length 0
theorem bfo_fol {t : Timetable} {f : Fleet} (h : AskF t f) {i : Nat} {b : Int} (hb : (bfo t f)[i]? = some b) : b = -1 ∨ ∃ (a : Nat) (x y : Trip), b = (a : Int) ∧ t.Trips[a]? = some x ∧ t.Trips[i]? = some y ∧ Fol t f x y := by
 have hi := get_lt hb
 unfold bfo at hi
 rw [befL_len] at hi
 rcases (befL_at (plan t f) t.Trips.length 0 (Nat.le_refl _)).1 i b hb with h1 | ⟨a, h1, h2, _, h3⟩
 ·exact .inl h1
 ·rw [plan_n] at h2 h3
  obtain ⟨x, hx⟩ := get_ex (l := t.Trips) (i := a) h2
  obtain ⟨y, hy⟩ := get_ex (l := t.Trips) (i := i) hi
  rw [show t.Trips.length - t.Trips.length + i = i by omega, plan_fol hx hy] at h3
  exact .inr ⟨a, x, y, h1, hx, hy, of_decide_eq_true h3⟩
theorem bfo_fst {t : Timetable} {f : Fleet} (h : AskF t f) : Fst t.Trips.length 1799 (stt t) (bfo t f) := by
 refine ⟨befL_len _ _ _, fun i b hb => ?_, (befL_at (plan t f) t.Trips.length 0 (Nat.le_refl _)).2, fun i hi => ?_⟩
 ·rcases bfo_fol h hb with h1 | ⟨a, x, y, h1, hx, hy, hF⟩
  ·exact .inl h1
  ·refine .inr ⟨a, h1, get_lt hx, ?_⟩
   have := fol_lt h hx hy hF
   have e1 := (end_both h.1 hx).2.1
   have e2 := (end_both h.1 hy).2.1
   unfold stt
   rw [hx, hy]
   simp only [Option.map_some, Option.getD_some]; omega
 ·obtain ⟨x, hx⟩ := get_ex (l := t.Trips) (i := i) hi
  have e1 := (end_both h.1 hx).2.1
  unfold stt
  rw [hx]
  simp only [Option.map_some, Option.getD_some]; omega
theorem bfo_cost {t : Timetable} {f : Fleet} (h : AskF t f) : cst (plan t f) t.Trips.length 0 = 100000 * (hds (bfo t f)).length + ((chs (bfo t f) 1799).map (csum (plan t f).dd)).sum ∧ ((chs (bfo t f) 1799).map (csum (plan t f).dd)).sum ≤ 1440 := by
 have F := bfo_fst h
 have hn := h.1.2.1
 have h1 := befL_cost (plan t f) t.Trips.length 0 (Nat.le_refl _)
 rw [costL_sum, befL_len, plan_n] at h1
 have h2 := cost_sum F (plan t f).dd
 rw [← chs_sum F] at h2
 have h3 : ((List.range t.Trips.length).map (gd (plan t f).dd (bfo t f))).sum ≤ 120 * t.Trips.length := by
  have : ∀ l : List Nat, (l.map (gd (plan t f).dd (bfo t f))).sum ≤ 120 * l.length := by
   intro l
   induction l with
   | nil => simp
   | cons i l ih =>
    have : gd (plan t f).dd (bfo t f) i ≤ 120 := by
     unfold gd
     split
     ·omega
     ·exact plan_120 h _ _
    simp only [List.map_cons, List.sum_cons, List.length_cons]; omega
  have := this (List.range t.Trips.length)
  rwa [List.length_range] at this
 rw [← chs_sum F] at h3
 refine ⟨?_, by omega⟩
 rw [← h2, h1]
 congr 1
 apply List.map_congr_left
 intro j _
 rw [show t.Trips.length - t.Trips.length + j = j by omega]; rfl
section
variable {t : Timetable} {f : Fleet}
theorem ibefore_ok (h : AskF t f) : Tot (iter (zq29_L2 t f) ((0 : Int), (0 : Int), (List.replicate (t.Trips.length : Int).toNat (0 : Int)), ([] : List ((Int × Int) × links)))) fun o => o.1 = bfo t f ∧ Mv (plan t f) o.2 := by
 have hn := h.1.2.1
 have hn12 : t.Trips.length ≤ 12 := by omega
 have hpp := Nat.two_pow_pos t.Trips.length
 have hfr := cst_frm (plan_120 h)
 refine .iter (fun q (s : Int × Int × List Int × List ((Int × Int) × links)) => ∃ u i : Nat, s.1 = (u : Int) ∧ u < 2 ^ t.Trips.length ∧ s.2.1 = (i : Int) ∧ q + i = t.Trips.length ∧ Mv (plan t f) s.2.2.2 ∧ s.2.2.1.length = t.Trips.length ∧ s.2.2.1.take i ++ befL (plan t f) q u = bfo t f) (n := t.Trips.length) ⟨0, 0, rfl, hpp, rfl, rfl, mv_nil _, by show (List.replicate _ _).length = _; rw [List.length_replicate, Int.toNat_natCast], by simp [bfo]⟩ ?_
 rintro q ⟨want, v, bef, memo⟩ ⟨u, i, hwu, hu, hv, hq, hM, hl, hL⟩
 simp only at hwu hv hM hl hL
 subst hwu; subst hv
 unfold zq29_L2
 dsimp only
 refine .iteP (fun hc => ?_) (fun hc => .dn ⟨?_, hM⟩)
 ·obtain ⟨m, rfl⟩ : ∃ m, q = m + 1 := ⟨q - 1, by omega⟩
  have hw : w64 ((i : Int) + 1) = ((i + 1 : Nat) : Int) := w64_succ (by omega)
  have hni : (plan t f).n - (m + 1) = i := by rw [plan_n]; omega
  obtain ⟨e, he⟩ := get_ex (l := bef) (i := i) (by omega)
  have hset : ∀ x : Int, (bef.set i x).take (i + 1) = bef.take i ++ [x] := fun x => by
   rw [take_succ (x := x) (List.getElem?_set_self (by omega)), List.take_set_of_le (Nat.le_refl _)]
  refine .call (P := fun o => o.1 = ((nx (plan t f) m u : Nat) : Int) ∧ o.2.1 = bef.set i (pk (plan t f) m u) ∧ Mv (plan t f) o.2.2) ?_ fun ⟨want1, i1, v2⟩ ⟨h1, h2, h3⟩ => .nx ⟨m, by omega, nx (plan t f) m u, i + 1, h1, nx_lt hu, hw, by omega, h3, ?_, ?_⟩
  ·refine .eq (ixs he) (.call (best_at h (m := m + 1) (by omega) hM hu) fun r hr => ?_)
   rw [hw]
   refine .call (best_at h (m := m) (by omega) hr.2 hu) fun r3 hr3 => ?_
   obtain ⟨c, c1, _, c2⟩ := links_cmp (m := m + 1) (frm_none (hfr m u)) (hfr (m + 1) u) (by omega)
   rw [hr3.1, hr.1, ← lkc_none m (cst (plan t f) m u)]
   refine .eq c1 ?_
   by_cases hz : 100000 + cst (plan t f) m u = cst (plan t f) (m + 1) u
   ·refine .ite (fun _ => .ok ⟨by unfold nx; rw [if_pos hz], ?_, hr3.2⟩) fun hne => ?_
    ·unfold pk; rw [if_pos hz, Int.toNat_natCast]
    ·have := c2.2 hz; simp [this] at hne
   ·refine .ite (fun hce => ?_) fun _ => ?_
    ·exact absurd (c2.1 (beq_iff_eq.1 hce)) hz
    ·obtain ⟨p1, p2, p3⟩ := pkI_at hz
     rw [plan_n] at p1
     refine .call (P := fun o => o.1 = ((nx (plan t f) m u : Nat) : Int) ∧ o.2.1 = bef.set i (pk (plan t f) m u) ∧ Mv (plan t f) o.2.2) ?_ fun ⟨want2, i2, v6⟩ ho => .ok ho
     refine .iter (fun p (s : Int × List ((Int × Int) × links)) => ∃ k : Nat, s.1 = (k : Int) ∧ p + k = t.Trips.length ∧ Mv (plan t f) s.2 ∧ ∀ b, b < k → hit (plan t f) m u b = false) (n := t.Trips.length) ⟨0, rfl, rfl, hr3.2, fun b hb => absurd hb (Nat.not_lt_zero _)⟩ ?_
     rintro p ⟨v3, v4⟩ ⟨k, hk, hp, hM4, hno⟩
     simp only at hk hM4
     subst hk
     unfold zq29_L1
     refine .iteP (fun hkc => ?_) (fun hkc => ?_)
     ·have hkl : k < t.Trips.length := by omega
      refine .call (after_both h (m := m) (i := i) (by omega) (fun memo u hM hu => best_at h (m := m) (by omega) hM hu) hM4 hkl hu) fun r5 ⟨a1, a2, a3⟩ => ?_
      refine .call (P := fun b => b = hit (plan t f) m u k) ?_ fun b hb => ?_
      ·cases ho : opt (plan t f) m u k with
       | false =>
        rw [ho] at a2
        refine .ite (fun ht => by rw [a2] at ht; cases ht) fun _ => .ok ?_
        unfold hit; rw [ho]; rfl
       | true =>
        rw [ho] at a2
        have a3 := a3 ho
        refine .ite (fun _ => ?_) fun hf => by rw [a2] at hf; cases hf
        obtain ⟨d, d1, _, d2⟩ := links_cmp (m := m + 1) (frm_some (hfr m (u ||| 2 ^ k)) (plan_120 h k i)) (hfr (m + 1) u) (by omega)
        rw [a3, hr.1]
        refine .eq d1 (.ok ?_)
        unfold hit
        rw [ho, hni, Bool.true_and, Bool.eq_iff_iff, beq_iff_eq, beq_iff_eq]
        exact d2
      ·subst hb
       refine .ite (fun ht => ?_) fun hf => .nx ⟨p - 1, by omega, k + 1, w64_succ (by omega), by omega, a1, fun b hb => ?_⟩
       ·have hkp := pkI_of hz ht hno
        obtain ⟨e1, he1⟩ := get_ex (l := bef.set i (-1)) (i := i) (by rw [List.length_set]; omega)
        refine .eq (by rw [Int.toNat_natCast]; exact ixs he1) (.chk (by omega) (.dn ⟨?_, ?_, a1⟩))
        ·show IntKind.i64.wrap _ = _
         rw [(or_eq hn12 hu hkl).1]
         unfold nx; rw [if_neg hz, hkp]
        ·show ((bef.set _ _).set _ _) = _
         unfold pk
         rw [if_neg hz, ← hkp, Int.toNat_natCast, List.set_set]
       ·rcases Nat.lt_or_ge b k with h' | h'
        ·exact hno b h'
        ·have : b = k := by omega
         subst this; exact hf
     ·have := hno (pkI (plan t f) m u) (by omega)
      rw [p2] at this; cases this
  ·simp only at h2
   show i1.length = _
   rw [h2, List.length_set]; exact hl
  ·simp only at h2
   show i1.take (i + 1) ++ _ = _
   rw [h2, hset, ← hL]
   simp [befL]
 ·have : q = 0 := by omega
  subst this
  show bef = _
  rw [← hL, List.take_of_length_le (by omega)]; simp [befL]
def idn (t : Timetable) (i : Nat) : Int := ((t.Trips[i]?).map fun x => x.Id).getD 0
theorem idn_at {i : Nat} {x : Trip} (hx : t.Trips[i]? = some x) : idn t i = x.Id := by unfold idn; rw [hx]; rfl
noncomputable def BLk (t : Timetable) (f : Fleet) : List (List Int) := (chs (bfo t f) 1799).map (List.map (idn t))
theorem nxtI (h : AskF t f) (k : Nat) : zq96 (bfo t f) (k : Int) = some (nxt (bfo t f) k) := by
 have hn := h.1.2.1
 rw [index_int_eq _ (by rw [(bfo_fst h).len]; omega)]
 unfold nxt
 rw [fixI_congr (p := fun e => (k : Int) == e) (q := fun b => b == (k : Int)) _ fun x => by rw [Bool.beq_comm]]
theorem chain_run (h : AskF t f) : ∀ (N k : Nat) (acc : List Int), k < t.Trips.length → 1799 ≤ N + stt t k → acc.length + N ≤ 10000 → iter (zq29_L3 t (bfo t f)) ((k : Int), acc) = some (acc ++ (chn (bfo t f) N k).map (idn t)) := by
 intro N
 have F := bfo_fst h
 have neg : ∀ (v : Int) (acc : List Int), v < 0 → iter (zq29_L3 t (bfo t f)) (v, acc) = some acc := fun v acc hv => iter_dn (by unfold zq29_L3; dsimp only; rw [if_neg (by simpa using hv)])
 have stepk : ∀ (k : Nat) (acc : List Int), k < t.Trips.length → acc.length ≤ 10000 → zq29_L3 t (bfo t f) ((k : Int), acc) = some (.nx (nxt (bfo t f) k, acc ++ [idn t k])) := fun k acc hk ha => by
  obtain ⟨x, hx⟩ := get_ex (l := t.Trips) (i := k) hk
  unfold zq29_L3
  dsimp only
  rw [if_pos (by simp), ixs hx, qb, chk_of (by simp; omega), qb, nxtI h k, qb, idn_at hx]
 induction N with
 | zero =>
  intro k acc hk hN ha
  rw [iter_nx (stepk k acc hk (by omega))]
  by_cases hx : nxt (bfo t f) k < 0
  ·rw [neg _ _ hx]; rfl
  ·obtain ⟨g1, g2⟩ := F.stn hx
   have := F.top _ g2; omega
 | succ N ih =>
  intro k acc hk hN ha
  rw [iter_nx (stepk k acc hk (by omega))]
  unfold chn
  by_cases hx : nxt (bfo t f) k < 0
  ·rw [neg _ _ hx, if_pos hx]; rfl
  ·obtain ⟨g1, g2⟩ := F.stn hx
   rw [if_neg hx]
   have e : nxt (bfo t f) k = (((nxt (bfo t f) k).toNat : Nat) : Int) := by omega
   have := ih (nxt (bfo t f) k).toNat (acc ++ [idn t k]) g2 (by omega) (by simp; omega)
   rw [← e] at this
   rw [this]; simp
theorem blocks_run (h : AskF t f) : iter (zq29_L4 t (bfo t f)) ((0 : Int), ([] : List (List Int))) = some (BLk t f) := by
 have hn := h.1.2.1
 have F := bfo_fst h
 refine Tot.val (.iter (fun m (s : Int × List (List Int)) => ∃ i : Nat, s.1 = (i : Int) ∧ m + i = t.Trips.length ∧ s.2 = (((List.range i).filter fun i => decide ((bfo t f).getD i 0 < 0)).map (chn (bfo t f) 1799)).map (List.map (idn t))) (n := t.Trips.length) ⟨0, rfl, rfl, rfl⟩ ?_)
 rintro m ⟨v, bl⟩ ⟨i, hv, hm, hb⟩
 simp only at hv hb
 subst hv; subst hb
 unfold zq29_L4
 dsimp only
 refine .iteP (fun hc => ?_) (fun hc => .dn ?_)
 ·obtain ⟨b, hb⟩ := get_ex (l := bfo t f) (i := i) (by rw [F.len]; omega)
  have hlen := List.length_filter_le (fun i => decide ((bfo t f).getD i 0 < 0)) (List.range i)
  rw [List.length_range] at hlen
  refine .call (P := fun o => o = (((List.range (i + 1)).filter fun i => decide ((bfo t f).getD i 0 < 0)).map (chn (bfo t f) 1799)).map (List.map (idn t))) (.eq (ixs hb) (.iteP (fun h0 => .ok ?_) fun h0 => ?_)) fun o ho => .nx ⟨m - 1, by omega, i + 1, w64_succ (by omega), by omega, ho⟩
  ·rw [List.range_succ, List.filter_append, List.filter_cons, getD0 hb, if_neg (by simp; omega)]; simp
  ·rw [chain_run h 1799 i [] (by omega) (by omega) (by simp)]
   refine .eq rfl (.chk (by rw [List.length_map, List.length_map, List.length_singleton]; omega) (.ok ?_))
   rw [List.range_succ, List.filter_append, List.filter_cons, getD0 hb, if_pos (by simp; omega)]; simp
 ·have : i = t.Trips.length := by omega
  subst this
  show _ = BLk t f
  unfold BLk chs hds
  rw [F.len]
theorem iBlocks_ok (h : AskF t f) : zq29 t f = some (BLk t f, ((cst (plan t f) t.Trips.length 0 % 100000 : Nat) : Int)) := by
 have hn := h.1.2.1
 refine Tot.val ?_
 unfold zq29
 refine .chk ⟨by omega, by omega⟩ (.call (ibefore_ok h) fun ⟨i3, v7⟩ ⟨h1, h2⟩ => ?_)
 simp only at h1 h2
 subst h1
 dsimp only
 rw [blocks_run h]
 refine .eq rfl (.call (best_at h (m := t.Trips.length) (i := 0) (by omega) h2 (Nat.two_pow_pos _)) fun r hr => .ok ?_)
 rw [hr.1]; rfl
end
theorem cst_best (P : Pl) : ∀ (m u : Nat) (l : List Int), m ≤ P.n → l.length = m → (∀ (j : Nat) b, l[j]? = some b → b = -1 ∨ ∃ a : Nat, b = (a : Int) ∧ a < P.n ∧ u.testBit a = false ∧ P.fol a (P.n - m + j) = true) →
  (∀ (j j' : Nat) b, l[j]? = some b → l[j']? = some b → 0 ≤ b → j = j') → cst P m u ≤ costL P (P.n - m) l
 | 0, u, l, _, hl, _, _ => Nat.zero_le _
 | m + 1, u, [], _, hl, _, _ => by simp at hl
 | m + 1, u, b :: r, hm, hl, h1, h2 => by
  have hrl : r.length = m := by simpa using hl
  unfold costL
  have e : P.n - (m + 1) + 1 = P.n - m := by omega
  rw [e, cst_succ]
  obtain ⟨g1, g2⟩ := gm_le (F := cst P m) (ok := opt P m u) (d := fun a => P.dd a (P.n - (m + 1))) (u := u) (b0 := 100000 + cst P m u) (k := P.n)
  have h2' : ∀ (j j' : Nat) b, r[j]? = some b → r[j']? = some b → 0 ≤ b → j = j' := fun j j' b hj hj' hb => by
   have := h2 (j + 1) (j' + 1) b (by simpa using hj) (by simpa using hj') hb
   omega
  rcases h1 0 b (by simp) with hb | ⟨a, hb, ha, hu, hf⟩
  ·have ih := cst_best P m u r (by omega) hrl (fun j c hj => by
    rcases h1 (j + 1) c (by simpa using hj) with hc | ⟨a, q1, q2, q3, q4⟩
    ·exact .inl hc
    ·exact .inr ⟨a, q1, q2, q3, by rw [show P.n - m + j = P.n - (m + 1) + (j + 1) by omega]; exact q4⟩) h2'
   rw [if_pos (by omega)]
   omega
  ·have ih := cst_best P m (u ||| 2 ^ a) r (by omega) hrl (fun j c hj => by
    rcases h1 (j + 1) c (by simpa using hj) with hc | ⟨a', q1, q2, q3, q4⟩
    ·exact .inl hc
    ·refine .inr ⟨a', q1, q2, ?_, by rw [show P.n - m + j = P.n - (m + 1) + (j + 1) by omega]; exact q4⟩
     rw [testBit_or, q3]
     simp only [Bool.false_or, decide_eq_false_iff_not]
     intro hE
     subst hE
     have := h2 0 (j + 1) b (by simp) (by rw [hb, ← q1]; simpa using hj) (by omega)
     omega) h2'
   have g := g2 a ha (by unfold opt; rw [hu, show P.n - (m + 1) = P.n - (m + 1) + 0 by omega, hf]; rfl)
   rw [if_neg (by omega), hb, Int.toNat_natCast]
   omega
section
variable {t : Timetable} {f : Fleet} {B : List (List Int)}
theorem bl_perm (h : AskF t f) (hP : BlocksP t f B) : (B.flatten.map fun e => (tix t e).toNat).Perm (List.range t.Trips.length) := by
 have h0 : ∀ e ∈ B.flatten, 0 ≤ tix t e := fun e he => by
  obtain ⟨b, hb1, hb2⟩ := List.mem_flatten.1 he
  exact (hP.1 b hb1).2.1 e hb2
 have hd : (B.flatten.map fun e => (tix t e).toNat).Nodup := by
  have h2 := hP.2.1
  rw [List.Nodup, List.pairwise_map] at h2 ⊢
  refine List.Pairwise.imp_of_mem ?_ h2
  intro a b ha hb hab e
  have := h0 a ha
  have := h0 b hb
  exact hab (by omega)
 refine (List.perm_ext_iff_of_nodup hd List.nodup_range).2 fun x => ?_
 rw [List.mem_range]
 constructor
 ·intro hx
  obtain ⟨e, he, rfl⟩ := List.mem_map.1 hx
  have := tix_at (h0 e he); omega
 ·intro hx
  obtain ⟨p, hp⟩ := get_ex (l := t.Trips) (i := x) hx
  obtain ⟨i, b, k, hb, hk⟩ := place_ex hP h.1 hp
  refine List.mem_map.2 ⟨p.Id, List.mem_flatten.2 ⟨b, List.mem_of_getElem? hb, List.mem_of_getElem? hk⟩, ?_⟩
  rw [tix_trip h.1 hp]; simp
def Prd (t : Timetable) (B : List (List Int)) (i : Nat) (p : Int) : Prop := ∃ (v : Nat) (b : List Int) (k : Nat) (e : Int), B[v]? = some b ∧ b[k]? = some e ∧ tix t e = (i : Int) ∧ ((k = 0 ∧ p = -1) ∨ ∃ k' c, k = k' + 1 ∧ b[k']? = some c ∧ p = tix t c)
theorem prd_ex (h : AskF t f) (hP : BlocksP t f B) {i : Nat} (hi : i < t.Trips.length) : ∃ p, Prd t B i p := by
 obtain ⟨x, hx⟩ := get_ex (l := t.Trips) (i := i) hi
 obtain ⟨v, b, k, hb, hk⟩ := place_ex hP h.1 hx
 cases k with
 | zero => exact ⟨-1, v, b, 0, x.Id, hb, hk, tix_trip h.1 hx, .inl ⟨rfl, rfl⟩⟩
 | succ k =>
  obtain ⟨c, hc⟩ := get_ex (l := b) (i := k) (by have := get_lt hk; omega)
  exact ⟨tix t c, v, b, k + 1, x.Id, hb, hk, tix_trip h.1 hx, .inr ⟨k, c, rfl, hc, rfl⟩⟩
open Classical in
noncomputable def prl (t : Timetable) (B : List (List Int)) : List Int := (List.range t.Trips.length).map fun i => if h : ∃ p, Prd t B i p then h.choose else -1
theorem prl_at (h : AskF t f) (hP : BlocksP t f B) {i : Nat} (hi : i < t.Trips.length) : ∃ p, (prl t B)[i]? = some p ∧ Prd t B i p := by
 have hx := prd_ex h hP hi
 refine ⟨hx.choose, ?_, hx.choose_spec⟩
 unfold prl
 rw [List.getElem?_map, List.getElem?_range hi]
 simp only [Option.map_some, dif_pos hx]
theorem prl_len : (prl t B).length = t.Trips.length := by unfold prl; rw [List.length_map, List.length_range]
theorem min_len (h : AskF t f) (hP : BlocksP t f B) : (hds (bfo t f)).length ≤ B.length := by
 have hn := h.1.2.1
 have hI := inj_of hP.2.1
 have hc := bfo_cost h
 have hT : ∀ b ∈ B, ∀ e ∈ b, 0 ≤ tix t e := fun b hb => (hP.1 b hb).2.1
 have hle := cst_best (plan t f) t.Trips.length 0 (prl t B) (Nat.le_refl _) prl_len (fun j p hj => by
  have hjl := get_lt hj
  rw [prl_len] at hjl
  obtain ⟨p', h1, v, b, k, e, h2, h3, h4, h5⟩ := prl_at h hP hjl
  rw [hj] at h1; cases h1
  rcases h5 with ⟨_, rfl⟩ | ⟨k', c, rfl, h6, rfl⟩
  ·exact .inl rfl
  ·have hbm := List.mem_of_getElem? h2
   have t1 := hT b hbm c (List.mem_of_getElem? h6)
   have hF := (hP.1 b hbm).2.2 k' c e h6 h3
   have a1 := tix_at t1
   have a2 := tix_at (t := t) (e := e) (by omega)
   refine .inr ⟨(tix t c).toNat, by omega, by rw [plan_n]; omega, by simp, ?_⟩
   have ej : (plan t f).n - t.Trips.length + j = (tix t e).toNat := by rw [plan_n]; omega
   rw [ej, plan_fol a1.1 a2.1]
   exact decide_eq_true hF) (fun j j' p hj hj' h0 => by
  have hjl := get_lt hj
  have hjl' := get_lt hj'
  rw [prl_len] at hjl hjl'
  obtain ⟨p1, g1, v, b, k, e, h2, h3, h4, h5⟩ := prl_at h hP hjl
  obtain ⟨p2, g2, v', b', k', e', h2', h3', h4', h5'⟩ := prl_at h hP hjl'
  rw [hj] at g1; cases g1
  rw [hj'] at g2; cases g2
  rcases h5 with ⟨_, rfl⟩ | ⟨q, c, rfl, h6, rfl⟩
  ·omega
  ·rcases h5' with ⟨_, hx⟩ | ⟨q', c', rfl, h6', hx⟩
   ·omega
   ·obtain ⟨rfl, rfl⟩ := hI _ _ _ _ _ _ _ _ h2 h6 h2' h6' hx
    rw [h2] at h2'; cases h2'
    rw [h3] at h3'; cases h3'
    omega)
 have hsum : costL (plan t f) 0 (prl t B) ≤ 100000 * B.length + 1440 := by
  rw [costL_sum, prl_len]
  have e1 : ((List.range t.Trips.length).map fun j => if (prl t B).getD j 0 < 0 then 100000 else (plan t f).dd ((prl t B).getD j 0).toNat (0 + j)) = (List.range t.Trips.length).map fun j => if (prl t B).getD j 0 < 0 then 100000 else (plan t f).dd ((prl t B).getD j 0).toNat j := by
   apply List.map_congr_left
   intro j _
   rw [Nat.zero_add]
  rw [e1, ← ((bl_perm h hP).map fun j => if (prl t B).getD j 0 < 0 then 100000 else (plan t f).dd ((prl t B).getD j 0).toNat j).sum_nat, List.map_map]
  have hone : ∀ (L : List (List Int)), (∀ b ∈ L, b ∈ B) → ((L.flatten.map ((fun j => if (prl t B).getD j 0 < 0 then 100000 else (plan t f).dd ((prl t B).getD j 0).toNat j) ∘ fun e => (tix t e).toNat))).sum ≤ 100000 * L.length + 120 * L.flatten.length := by
   intro L
   induction L with
   | nil => intro _; simp
   | cons b L ih =>
    intro hL
    have ih := ih fun x hx => hL x (List.mem_cons_of_mem _ hx)
    have hbm := hL b (List.mem_cons_self ..)
    obtain ⟨v, hv⟩ := List.getElem?_of_mem hbm
    rw [List.flatten_cons, List.map_append, List.sum_append_nat, List.length_append, List.length_cons]
    have hrow : (b.map ((fun j => if (prl t B).getD j 0 < 0 then 100000 else (plan t f).dd ((prl t B).getD j 0).toNat j) ∘ fun e => (tix t e).toNat)).sum ≤ 100000 + 120 * b.length := by
     have hk : ∀ (k : Nat) e, b[k]? = some e → k ≠ 0 → ¬ (prl t B).getD (tix t e).toNat 0 < 0 := fun k e he hk hneg => by
      have ht := hT b hbm e (List.mem_of_getElem? he)
      have ha := tix_at ht
      obtain ⟨p, p1, v', b', k', e', h2, h3, h4, h5⟩ := prl_at h hP ha.2.2.2
      rw [getD0 p1] at hneg
      obtain ⟨rfl, rfl⟩ := hI _ _ _ _ _ _ _ _ h2 h3 hv he (by rw [h4]; omega)
      rw [h2] at hv; cases hv
      rcases h5 with ⟨h0, _⟩ | ⟨q, c, rfl, h6, rfl⟩
      ·exact hk h0
      ·have := hT b hbm c (List.mem_of_getElem? h6)
       omega
     have bound : ∀ q, ((b.take q).map ((fun j => if (prl t B).getD j 0 < 0 then 100000 else (plan t f).dd ((prl t B).getD j 0).toNat j) ∘ fun e => (tix t e).toNat)).sum ≤ 100000 + 120 * q := fun q => by
      induction q with
      | zero => simp
      | succ q ihq =>
       by_cases hq : q < b.length
       ·obtain ⟨e, he⟩ := get_ex hq
        rw [take_succ he, List.map_append, List.sum_append_nat]
        simp only [List.map_cons, List.map_nil, List.sum_cons, List.sum_nil, Function.comp, Nat.add_zero]
        by_cases hq0 : q = 0
        ·subst hq0
         simp only [List.take_zero, List.map_nil, List.sum_nil]
         have := plan_120 h ((prl t B).getD (tix t e).toNat 0).toNat (tix t e).toNat
         split <;> omega
        ·have := hk q e he hq0
         have h120 := plan_120 h ((prl t B).getD (tix t e).toNat 0).toNat (tix t e).toNat
         rw [if_neg this]
         omega
       ·rw [List.take_of_length_le (by omega)] at ihq ⊢
        omega
     have := bound b.length
     rwa [List.take_length] at this
    omega
  have := hone B fun b hb => hb
  have hl := hP.2.2
  omega
 rw [plan_n, Nat.sub_self] at hle
 omega
end
theorem concatI_eq {x y : List Int} (hx : x.length ≤ 5000) (hy : y.length ≤ 5000) : zq92 [x, y] = some (x ++ y) := by
 have a0 : zq92_L1 [x, y] ((0 : Int), (0 : Int)) = some (.nx ((x.length : Int), (1 : Int))) := by
  unfold zq92_L1
  dsimp only
  rw [if_pos (by simp), show idx [x, y] 0 = some x from rfl, qb, Int.zero_add, w64_id (by omega), if_neg (by simp), w64_id (by omega)]
  rfl
 have a1 : zq92_L1 [x, y] ((x.length : Int), (1 : Int)) = some (.nx (((x.length + y.length : Nat) : Int), (2 : Int))) := by
  unfold zq92_L1
  dsimp only
  rw [if_pos (by simp), show idx [x, y] 1 = some y from rfl, qb, w64_id (by omega), if_neg (by simp; omega), w64_id (by omega)]
  rfl
 have a2 : zq92_L1 [x, y] (((x.length + y.length : Nat) : Int), (2 : Int)) = some (.dn ((x.length + y.length : Nat) : Int)) := by
  unfold zq92_L1
  dsimp only
  rw [if_neg (by simp)]
 have b0 : zq92_L2 [x, y] ((0 : Int), ([] : List Int)) = some (.nx ((1 : Int), x)) := by
  unfold zq92_L2
  dsimp only
  rw [if_pos (by simp), show idx [x, y] 0 = some x from rfl, qb, chk_of (by simp; omega), qb, w64_id (by omega)]
  rfl
 have b1 : zq92_L2 [x, y] ((1 : Int), x) = some (.nx ((2 : Int), x ++ y)) := by
  unfold zq92_L2
  dsimp only
  rw [if_pos (by simp), show idx [x, y] 1 = some y from rfl, qb, chk_of (by omega), qb, w64_id (by omega)]
  rfl
 have b2 : zq92_L2 [x, y] ((2 : Int), x ++ y) = some (.dn (x ++ y)) := by
  unfold zq92_L2
  dsimp only
  rw [if_neg (by simp)]
 unfold zq92 zq93 groZM
 rw [iter_nx a0, iter_nx a1, iter_dn a2, qb, if_pos (by omega), qb, iter_nx b0, iter_nx b1, iter_dn b2]
 rfl
theorem vLists_refl (a : List (List Int)) (h : a.length ≤ 1000) (hr : ∀ p ∈ a, p.length ≤ 1000) : zq100 a a = some true := by
 unfold zq100
 simp only [bne_self_eq_false, Bool.false_eq_true, if_false]
 rw [all_val (hd := Classical.propDecidable _) a (fun _ _ => True) (fun i x hx => ?_) (by unfold zq100_L1; simp)]
 ·rw [if_pos (fun _ _ _ => trivial)]
 ·have hi := (List.getElem?_eq_some_iff.1 hx).1
  unfold zq100_L1
  have hlt : decide ((i : Int) < (a.length : Int)) = true := by rw [decide_eq_true_eq]; omega
  left
  simp only [hlt, if_true, idx_nat, hx, qb, vInts_refl x (hr x (List.mem_of_getElem? hx)), Bool.not_true, Bool.false_eq_true, if_false, w64_succ (n := i) (by omega), and_self]
theorem own2_eq (l : List Int) (h : l.length ≤ 5000) : zq71 l = some l := by
 unfold zq71
 rw [chk_of (by simp; omega)]; rfl
theorem cln_eq (l : List Int) (h : l.length ≤ 5000) : zq91 l = some l := by
 unfold zq91
 rw [chk_of (by simp; omega)]; rfl
theorem cpl_eq (B : List (List Int)) (hB : BB B) : zq14 B = some B := by
 unfold zq14
 have h1 := hB.1
 rw [chk_of (by omega)]
 simp only [qb]
 rw [fill_loop (fun x : List Int => x) B _ (by simp) (fun i a x y ha hy hx => ?_) (fun a ha => ?_)]
 ·simp only [qb, List.map_id']
 ·have hi := (List.getElem?_eq_some_iff.1 hx).1
  have g1 := hB.2 x (List.mem_of_getElem? hx)
  unfold zq14_L1
  have hlt : decide ((i : Int) < (B.length : Int)) = true := by simp; omega
  simp only [hlt, if_true, idx_nat, hx, hy, qb, cln_eq x (by omega), w64_succ (n := i) (by omega), Int.toNat_natCast]
 ·unfold zq14_L1; simp
section
variable {t : Timetable} {f : Fleet} {B : List (List Int)}
theorem placeI_no (hB : BB B) {e : Int} (hn : ∀ b ∈ B, e ∉ b) : zq30 B e = some (-1, 0) := by
 have hBl := hB.1
 have H : Tot (iter (zq30_L1 B e) (0 : Int)) fun r => r = .go () := by
  refine .iter (fun m v => ∃ j : Nat, v = (j : Int) ∧ m + j = B.length) (n := B.length) ⟨0, rfl, rfl⟩ ?_
  rintro m v ⟨j, rfl, hm⟩
  unfold zq30_L1
  refine .iteP (fun hc => ?_) (fun _ => .dn rfl)
  obtain ⟨c, hc'⟩ := get_ex (l := B) (i := j) (by omega)
  have hcl := hB.2 c (List.mem_of_getElem? hc')
  refine .eq (ixs hc') (.eq (index_int_eq c (by omega) e) ?_)
  have hx : fixI (fun z => e == z) c = -1 := fixI_none fun x hx => by
   refine beq_eq_false_iff_ne.2 fun he => ?_
   subst he
   exact hn c (List.mem_of_getElem? hc') hx
  rw [hx]
  refine .iteP (fun h0 => absurd h0 (by omega)) fun _ => .nx ⟨m - 1, by omega, j + 1, w64_succ (by omega), by omega⟩
 obtain ⟨r, hr, rfl⟩ := H
 unfold zq30
 rw [hr]; rfl
theorem placeS_any (hB : BB B) (e : Int) : Tot (zq46 B e) fun r => (∀ b ∈ B, e ∉ b) → r = (-1, -1) := by
 have hBl := hB.1
 have H0 : Tot (iter (zq46_L2 B e) (0 : Int)) fun v => v = .go () ∨ ∃ x, v = .ret x ∧ ∃ b ∈ B, e ∈ b := by
  refine .iter (fun m v => ∃ j : Nat, v = (j : Int) ∧ m + j = B.length) (n := B.length) ⟨0, rfl, rfl⟩ ?_
  rintro m v ⟨j, rfl, hm⟩
  unfold zq46_L2
  refine .iteP (fun hc => ?_) (fun _ => .dn (.inl rfl))
  obtain ⟨c, hc'⟩ := get_ex (l := B) (i := j) (by omega)
  have hcl := hB.2 c (List.mem_of_getElem? hc')
  have H : Tot (iter (zq46_L1 B e (j : Int)) (0 : Int)) fun r => (r = .go ()) ∨ (e ∈ c ∧ ∃ x, r = .ret (.dn (.ret x))) := by
   refine .iter (fun m v => ∃ q : Nat, v = (q : Int) ∧ m + q = c.length) (n := c.length) ⟨0, rfl, rfl⟩ ?_
   rintro m v ⟨q, rfl, hm⟩
   unfold zq46_L1
   refine .eq (ixs hc') (.iteP (fun h => ?_) (fun h => .dn (.inl rfl)))
   obtain ⟨y, hy⟩ := get_ex (l := c) (i := q) (by omega)
   refine .eq (ixs hc') (.eq (ixs hy) (.ite (fun hye => .dn (.inr ⟨?_, _, rfl⟩)) (fun hye => .nx ⟨m - 1, by omega, q + 1, w64_succ (by omega), by omega⟩)))
   have : y = e := by simpa using hye
   subst this; exact List.mem_of_getElem? hy
  obtain ⟨r, hr, h⟩ := H
  rw [hr]
  rcases h with rfl | ⟨hec, x, rfl⟩
  ·exact .nx ⟨m - 1, by omega, j + 1, w64_succ (by omega), by omega⟩
  ·exact .dn (.inr ⟨x, rfl, c, List.mem_of_getElem? hc', hec⟩)
 obtain ⟨v, hv, h⟩ := H0
 unfold zq46
 rw [hv]
 rcases h with rfl | ⟨x, rfl, b, hb, hx⟩
 ·exact .ok fun _ => rfl
 ·exact .ok fun hno => absurd hx (hno b hb)
def swp (B : List (List Int)) (i p k q : Nat) (x y : List Int) : List (List Int) := (B.set i (x.take (p + 1) ++ y.drop (q + 1))).set k (y.take (q + 1) ++ x.drop (p + 1))
theorem swp_at {i p k q : Nat} {x y : List Int} (hik : i ≠ k) (hi : B[i]? = some x) (hk : B[k]? = some y) :
  (swp B i p k q x y)[i]? = some (x.take (p + 1) ++ y.drop (q + 1)) ∧ (swp B i p k q x y)[k]? = some (y.take (q + 1) ++ x.drop (p + 1)) ∧ (∀ j, j ≠ i → j ≠ k → (swp B i p k q x y)[j]? = B[j]?) ∧ (swp B i p k q x y).length = B.length := by
 have hil := get_lt hi
 have hkl := get_lt hk
 unfold swp
 refine ⟨?_, ?_, fun j h1 h2 => ?_, by simp⟩
 ·rw [List.getElem?_set_ne (Ne.symm hik), List.getElem?_set_self hil]
 ·rw [List.getElem?_set_self (by simpa using hkl)]
 ·rw [List.getElem?_set_ne (Ne.symm h2), List.getElem?_set_ne (Ne.symm h1)]
theorem swp_BB (hB : BB B) {i p k q : Nat} {x y : List Int} (hx : x.length ≤ 1000) (hy : y.length ≤ 1000) : BB (swp B i p k q x y) := by
 unfold swp
 refine bb_set (bb_set hB ?_) ?_
 ·rw [List.length_append, List.length_take, List.length_drop]; omega
 ·rw [List.length_append, List.length_take, List.length_drop]; omega
theorem swp_back {i p k q : Nat} {x y : List Int} (hik : i ≠ k) (hi : B[i]? = some x) (hk : B[k]? = some y) (hp : p < x.length) (hq : q < y.length) :
  swp (swp B i p k q x y) i p k q (x.take (p + 1) ++ y.drop (q + 1)) (y.take (q + 1) ++ x.drop (p + 1)) = B := by
 obtain ⟨h1, h2, h3, h4⟩ := swp_at (B := B) (p := p) (q := q) hik hi hk
 obtain ⟨g1, g2, g3, g4⟩ := swp_at (B := swp B i p k q x y) (p := p) (q := q) hik h1 h2
 have l1 : (x.take (p + 1)).length = p + 1 := by rw [List.length_take]; omega
 have l2 : (y.take (q + 1)).length = q + 1 := by rw [List.length_take]; omega
 have e1 : (x.take (p + 1) ++ y.drop (q + 1)).take (p + 1) = x.take (p + 1) := by
  conv => lhs; arg 1; rw [← l1]
  exact List.take_left
 have e2 : (y.take (q + 1) ++ x.drop (p + 1)).take (q + 1) = y.take (q + 1) := by
  conv => lhs; arg 1; rw [← l2]
  exact List.take_left
 have e3 : (x.take (p + 1) ++ y.drop (q + 1)).drop (p + 1) = y.drop (q + 1) := by
  conv => lhs; arg 1; rw [← l1]
  exact List.drop_left
 have e4 : (y.take (q + 1) ++ x.drop (p + 1)).drop (q + 1) = x.drop (p + 1) := by
  conv => lhs; arg 1; rw [← l2]
  exact List.drop_left
 apply List.ext_getElem?
 intro j
 by_cases ji : j = i
 ·subst ji
  rw [g1, e1, e4, List.take_append_drop, hi]
 ·by_cases jk : j = k
  ·subst jk
   rw [g2, e2, e3, List.take_append_drop, hk]
  ·rw [g3 j ji jk, h3 j ji jk]
theorem iswap_run (hB : BB B) (hv : zq3 t f B = some true) {a b : Int} {i p k q : Nat} {x y : List Int} (ha : zq30 B a = some ((i : Int), (p : Int))) (hb : zq30 B b = some ((k : Int), (q : Int))) (hik : i ≠ k) (hi : B[i]? = some x) (hk : B[k]? = some y) (hp : p < x.length) (hq : q < y.length) (hxl : x.length ≤ 1000) (hyl : y.length ≤ 1000) {v : Bool} (hA : zq9 t f (swp B i p k q x y) = some v) :
  zq8 t f B a b = some (if v = true then swp B i p k q x y else [], v) := by
 have hil := get_lt hi
 have hkl := get_lt hk
 have hBl := hB.1
 have c0 : ((i : Int) == (k : Int)) = false := beq_eq_false_iff_ne.2 (by omega)
 have c1 : decide ((i : Int) < 0) = false := by simp
 have c2 : decide ((k : Int) < 0) = false := by simp
 have w1 : w64 ((p : Int) + 1) = ((p + 1 : Nat) : Int) := w64_succ (by omega)
 have w2 : w64 ((q : Int) + 1) = ((q + 1 : Nat) : Int) := w64_succ (by omega)
 obtain ⟨z, hz⟩ := get_ex (l := B.set i (x.take (p + 1) ++ y.drop (q + 1))) (i := k) (by rw [List.length_set]; exact hkl)
 unfold zq8
 rw [hv]
 simp only [qb, Bool.not_true, Bool.false_eq_true, if_false, ha, hb, c0, c1, c2, cpl_eq B hB, idx_nat, hi, hk, w1, w2, Int.toNat_natCast]
 rw [chk_of (by omega), qb, chk_of (by omega), qb]
 simp only [Int.toNat_zero, List.drop_zero]
 rw [concatI_eq (by rw [List.length_take]; omega) (by rw [List.length_drop]; omega), qb]
 rw [chk_of (by omega), qb, chk_of (by omega), qb]
 rw [concatI_eq (by rw [List.length_take]; omega) (by rw [List.length_drop]; omega), qb]
 simp only [hz, qb]
 unfold swp at hA
 rw [hA]
 cases v
 ·rfl
 ·rfl
theorem sswap_run (hB : BB B) {i p k q : Nat} {x y : List Int} (hik : i ≠ k) (hi : B[i]? = some x) (hk : B[k]? = some y) (hp : p < x.length) (hq : q < y.length) (hxl : x.length ≤ 1000) (hyl : y.length ≤ 1000) :
  iter (zq38_L1 B ((i : Int), (p : Int)) ((k : Int), (q : Int))) ((0 : Int), ([] : List (List Int))) = some (swp B i p k q x y) := by
 have hBl := hB.1
 obtain ⟨h1, h2, h3, h4⟩ := swp_at (B := B) (p := p) (q := q) hik hi hk
 have w1 : w64 ((p : Int) + 1) = ((p + 1 : Nat) : Int) := w64_succ (by omega)
 have w2 : w64 ((q : Int) + 1) = ((q + 1 : Nat) : Int) := w64_succ (by omega)
 refine Tot.val (.iter (fun m (s : Int × List (List Int)) => ∃ j : Nat, s.1 = (j : Int) ∧ m + j = B.length ∧ s.2 = (swp B i p k q x y).take j) (n := B.length) ⟨0, rfl, rfl, by simp⟩ ?_)
 rintro m ⟨v, l⟩ ⟨j, hv, hm, hl⟩
 simp only at hv hl
 subst hv; subst hl
 unfold zq38_L1
 dsimp only
 rw [w1, w2]
 refine .iteP (fun hc => ?_) (fun hc => .dn (List.take_of_length_le (by omega)))
 have hlen : ((swp B i p k q x y).take j).length ≤ 20 := by rw [List.length_take]; omega
 refine .call (P := fun o => o = (swp B i p k q x y).take (j + 1)) ?_ fun o ho => .nx ⟨m - 1, by omega, j + 1, w64_succ (by omega), by omega, ho⟩
 simp only [Int.toNat_natCast, Int.toNat_zero, List.drop_zero]
 refine .ite (fun hji => ?_) fun hji => .ite (fun hjk => ?_) fun hjk => ?_
 ·have : j = i := by have := beq_iff_eq.1 hji; omega
  subst this
  refine .eq (ixs hi) (.chk (by omega) (.eq (own2_eq _ (by rw [List.length_take]; omega)) (.eq (ixs hk) (.chk (by omega) (.chk (by rw [List.length_take, List.length_drop]; omega) (.chk (by simp only [List.length_singleton]; omega) (.ok ?_)))))))
  rw [take_succ h1]
 ·have : j = k := by have := beq_iff_eq.1 hjk; omega
  subst this
  refine .eq (ixs hk) (.chk (by omega) (.eq (own2_eq _ (by rw [List.length_take]; omega)) (.eq (ixs hi) (.chk (by omega) (.chk (by rw [List.length_take, List.length_drop]; omega) (.chk (by simp only [List.length_singleton]; omega) (.ok ?_)))))))
  rw [take_succ h2]
 ·have n1 : j ≠ i := fun e => by subst e; simp at hji
  have n2 : j ≠ k := fun e => by subst e; simp at hjk
  obtain ⟨c, hc'⟩ := get_ex (l := B) (i := j) (by omega)
  refine .eq (ixs hc') (.eq (own2_eq _ (by have := hB.2 c (List.mem_of_getElem? hc'); omega)) (.chk (by simp only [List.length_singleton]; omega) (.ok ?_)))
  rw [take_succ ((h3 j n1 n2).trans hc')]
end
section
variable {t : Timetable} {f : Fleet} {B : List (List Int)}
theorem valid_both (hb : TB t) (hf : FB f) (hB : BB B) : ∃ v, zq3 t f B = some v ∧ zq37 t f B = some v ∧ ((v = false ∧ (¬ AskF t f ∨ zq41 t f B = some false)) ∨ (v = true ∧ AskF t f ∧ BlocksP t f B ∧ zq41 t f B = some true ∧ zq9 t f B = some true)) := by
 unfold zq3 zq37
 rw [isRun_eq hb hf, l11Asked_eq hb hf]
 by_cases h : AskF t f
 ·obtain ⟨v, g1, g2, g3⟩ := blocks_both hb h hB
  refine ⟨v, by simp [h, g1], by simp [h, g2], ?_⟩
  cases v with
  | false => exact .inl ⟨rfl, .inr g2⟩
  | true => exact .inr ⟨rfl, h, g3 rfl, g2, g1⟩
 ·exact ⟨false, by simp [h], by simp [h], .inl ⟨rfl, .inl h⟩⟩
theorem swap_none (hb : TB t) (hf : FB f) (hB : BB B) (a b : Int) {r r1 : Int × Int} (h1 : zq46 B a = some r) (h2 : zq46 B b = some r1) (h : ¬ AskF t f ∨ zq41 t f B = some false ∨ (zq41 t f B = some true ∧ (r.1 < 0 ∨ r1.1 < 0 ∨ r.1 = r1.1))) : zq38 t f B a b = some ([], false) := by
 unfold zq38
 rw [h1, h2, l11Asked_eq hb hf]
 simp only [qb]
 by_cases hA : AskF t f
 ·simp only [hA, decide_true, Bool.not_true, Bool.false_eq_true, if_false]
  rcases h with h | h | ⟨h, h'⟩
  ·exact absurd hA h
  ·simp [h]
  ·simp only [h, qb, Bool.not_true, Bool.false_eq_true, if_false]
   by_cases c1 : r.1 < 0
   ·simp [c1]
   ·by_cases c2 : r1.1 < 0
    ·simp [c1, c2]
    ·have : r.1 = r1.1 := by omega
     simp [c2, this]
 ·simp [hA]
end
theorem in_or (B : List (List Int)) (e : Int) : (∀ b ∈ B, e ∉ b) ∨ ∃ (i : Nat) (b : List Int) (k : Nat), B[i]? = some b ∧ b[k]? = some e := by
 by_cases h : ∃ b ∈ B, e ∈ b
 ·obtain ⟨b, hb, he⟩ := h
  obtain ⟨i, hi⟩ := List.getElem?_of_mem hb
  obtain ⟨k, hk⟩ := List.getElem?_of_mem he
  exact .inr ⟨i, b, k, hi, hk⟩
 ·exact .inl fun b hb he => h ⟨b, hb, he⟩
theorem draw_swap (code : List UInt8) : Tot (zq36 code) fun r => DT r.1 ∧ FB r.2.1 ∧ BB r.2.2.1 := by
 unfold zq36
 exact .call (planned_ok (cur0 code) (by omega)) fun r ⟨hc, hd, hf, hB⟩ => .call (idOf_ok r.1 hc (by omega)) fun r3 hc3 => .call (idOf_ok r.1 hc3 (by omega)) fun r4 _ => .ok ⟨hd, hf, hB⟩
theorem swaps_true (code : List UInt8) : v_FnSwaps code = some true := by
 unfold v_FnSwaps
 rw [vBig_eq]
 simp only [qb]
 split
 ·rfl
 ·obtain ⟨⟨t, f, B, a, b⟩, hr, hd, hf, hB⟩ := draw_swap code
  simp only at hd hf hB
  have hb := hd.tb
  have hBl := hB.1
  rw [hr]
  simp only [qb]
  obtain ⟨v, v1, v2, v3⟩ := valid_both hb hf hB
  have bad : zq8 t f B a b = some ([], false) → zq38 t f B a b = some ([], false) → ∀ k : _ → _, ((zq8 t f B a b).bind fun r2 => (zq38 t f B a b).bind fun r3 => (if (!(r2.2 == r3.2)) = true then some true else (zq100 r2.1 r3.1).bind fun r7 => if (!r7) = true then some true else (zq3 t f B).bind fun r8 => (zq37 t f B).bind fun r9 => some (!(r8 == r9))).bind fun (v : Bool) => if v = true then some false else if (!r2.2) = true then some ((r2.1.length : Int) == 0) else k r2) = some true := fun e1 e2 k => by
   rw [e1, e2]
   simp only [qb, beq_self_eq_true, Bool.not_true, Bool.false_eq_true, if_false, vLists_refl [] (by simp) (by simp), v1, v2, Bool.not_false, if_true]
   rfl
  obtain ⟨r, r1, r2⟩ := placeS_any hB a
  obtain ⟨r', r1', r2'⟩ := placeS_any hB b
  rcases v3 with ⟨rfl, v3⟩ | ⟨rfl, hA, hP, hS, hI⟩
  ·refine bad ?_ (swap_none hb hf hB a b r1 r1' (v3.imp id .inl)) _
   unfold zq8
   rw [v1]; rfl
  ·have hJ := inj_of hP.2.1
   have hT : ∀ b ∈ B, ∀ e ∈ b, 0 ≤ tix t e := fun b hb => (hP.1 b hb).2.1
   have hfl : ∀ {C : List (List Int)}, BlocksP t f C → ∀ c ∈ C, c.length ≤ 1000 := fun {C} hC c hc => by
    obtain ⟨s, r, hs⟩ := List.append_of_mem hc
    have hl := hC.2.2
    have hn := hA.1.2.1
    rw [hs, List.flatten_append, List.flatten_cons, List.length_append, List.length_append] at hl
    omega
   rcases in_or B a with ha | ⟨i, x, p, hi, hp⟩
   ·refine bad ?_ (swap_none hb hf hB a b r1 r1' (.inr (.inr ⟨hS, .inl (by rw [r2 ha]; omega)⟩))) _
    obtain ⟨q, q1⟩ : ∃ q, zq30 B b = some q := by
     rcases in_or B b with hb' | ⟨k, y, q, hk, hq⟩
     ·exact ⟨_, placeI_no hB hb'⟩
     ·exact ⟨_, placeI hJ hB hT hk hq⟩
    unfold zq8
    rw [v1, placeI_no hB ha, q1]
    simp
   ·have pa := placeI hJ hB hT hi hp
    have sa := placeS hJ hB hi hp
    rw [sa] at r1; cases r1
    rcases in_or B b with hb' | ⟨k, y, q, hk, hq⟩
    ·refine bad ?_ (swap_none hb hf hB a b sa r1' (.inr (.inr ⟨hS, .inr (.inl (by rw [r2' hb']; omega))⟩))) _
     unfold zq8
     rw [v1, pa, placeI_no hB hb']
     simp
    ·have pb := placeI hJ hB hT hk hq
     have sb := placeS hJ hB hk hq
     rw [sb] at r1'; cases r1'
     by_cases hik : i = k
     ·refine bad ?_ (swap_none hb hf hB a b sa sb (.inr (.inr ⟨hS, .inr (.inr (by simp only; omega))⟩))) _
      unfold zq8
      rw [v1, pa, pb]
      simp [hik]
     ·have hpl := get_lt hp
      have hql := get_lt hq
      have hxl := hfl hP x (List.mem_of_getElem? hi)
      have hyl := hfl hP y (List.mem_of_getElem? hk)
      have hBS : BB (swp B i p k q x y) := swp_BB hB hxl hyl
      obtain ⟨w, w1, w2, w3⟩ := blocks_both hb hA hBS
      have e1 := iswap_run hB v1 pa pb hik hi hk hpl hql hxl hyl w1
      have e2 : zq38 t f B a b = some (if w = true then swp B i p k q x y else [], w) := by
       unfold zq38
       rw [sa, sb, l11Asked_eq hb hf]
       have c0 : ((i : Int) == (k : Int)) = false := beq_eq_false_iff_ne.2 (by omega)
       have c1 : decide ((i : Int) < 0) = false := by simp
       have c2 : decide ((k : Int) < 0) = false := by simp
       simp only [hA, decide_true, qb, Bool.not_true, Bool.false_eq_true, if_false, hS, c0, c1, c2, sswap_run hB hik hi hk hpl hql hxl hyl, w2]
       cases w <;> rfl
      cases w with
      | false => exact bad (by rw [e1]; rfl) (by rw [e2]; rfl) _
      | true =>
       have hPS := w3 rfl
       simp only [if_true] at e1 e2
       obtain ⟨m1, m2, m3, m4⟩ := swp_at (B := B) (p := p) (q := q) hik hi hk
       have hJS := inj_of hPS.2.1
       have hTS : ∀ b ∈ swp B i p k q x y, ∀ e ∈ b, 0 ≤ tix t e := fun b hb => (hPS.1 b hb).2.1
       have hvS : zq3 t f (swp B i p k q x y) = some true := by
        unfold zq3
        rw [isRun_eq hb hf]
        simp only [hA, decide_true, qb, if_true, w1]
       have a1 : (x.take (p + 1) ++ y.drop (q + 1))[p]? = some a := by
        rw [List.getElem?_append_left (by rw [List.length_take]; omega), List.getElem?_take_of_lt (by omega)]; exact hp
       have a2 : (y.take (q + 1) ++ x.drop (p + 1))[q]? = some b := by
        rw [List.getElem?_append_left (by rw [List.length_take]; omega), List.getElem?_take_of_lt (by omega)]; exact hq
       have hback := swp_back (B := B) hik hi hk hpl hql
       have e3 := iswap_run hBS hvS (placeI hJS hBS hTS m1 a1) (placeI hJS hBS hTS m2 a2) hik m1 m2 (get_lt a1) (get_lt a2) (hfl hPS _ (List.mem_of_getElem? m1)) (hfl hPS _ (List.mem_of_getElem? m2)) (v := true) (by rw [hback]; exact hI)
       rw [hback] at e3
       simp only [if_true] at e3
       have e4 : zq7 t f = some (BLk t f, ((cst (plan t f) t.Trips.length 0 % 100000 : Nat) : Int), true) := by
        unfold zq7
        rw [isRun_eq hb hf]
        simp only [hA, decide_true, qb, Bool.not_true, Bool.false_eq_true, if_false, iBlocks_ok hA]
       have hmin := min_len hA hPS
       have hlen : (BLk t f).length = (hds (bfo t f)).length := by unfold BLk chs; rw [List.length_map, List.length_map]
       have hle : decide (((BLk t f).length : Int) ≤ ((swp B i p k q x y).length : Int)) = true := by simp; omega
       simp only [e1, e2, e3, e4, qb, beq_self_eq_true, Bool.not_true, Bool.false_eq_true, if_false, vLists_refl (swp B i p k q x y) (by omega) (hfl hPS), vLists_refl B (by omega) (hfl hP), v1, v2, if_true, hle]
end Go.Proofs.Ytjahononbnbjnaa
