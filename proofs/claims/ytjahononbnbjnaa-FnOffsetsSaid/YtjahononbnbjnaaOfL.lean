/- The plain law: what the models compute, no program in sight. -/
import Derived.Test.YtjahononbnbjnaaOfM
import Derived.Test.YtjahononbnbjnaaAbPdq6
namespace Go.Proofs.Ytjahononbnbjnaa
open Go Go.Ab
set_option maxHeartbeats 4000000
set_option linter.unusedVariables false
set_option linter.unusedSimpArgs false
theorem qb {α β : Type} (a : α) (f : α → Option β) : (some a).bind f = f a := rfl
def Cur (k : Nat) (c : l1Cur) : Prop := 0 ≤ c.at_ ∧ c.at_ ≤ k
theorem Cur.mono {k k' : Nat} {c : l1Cur} (h : Cur k c) (hk : k ≤ k') : Cur k' c := ⟨h.1, by have := h.2; omega⟩
theorem next_ok {k : Nat} {c : l1Cur} (h : Cur k c) (hk : k ≤ 4000000000) : ∃ r, zq49 c = some r ∧ Cur (k + 1) r.2 ∧ 0 ≤ r.1 ∧ r.1 ≤ 255 := by
 obtain ⟨h0, h1⟩ := h
 have hw : w64 (c.at_ + 1) = c.at_ + 1 := w64_id (by omega)
 have hcur : ∀ s, Cur (k + 1) ⟨c.code_, w64 (c.at_ + 1), s⟩ := fun s => by rw [hw]; exact ⟨by show 0 ≤ c.at_ + 1; omega, by show c.at_ + 1 ≤ _; omega⟩
 unfold zq49
 have hv : ∃ v, (if (decide (c.at_ < (c.code_.length : Int))) = true then (idx c.code_ c.at_).bind fun e1 => some (w64 ((e1.toNat : Int))) else some 0) = some v ∧ 0 ≤ v ∧ v ≤ 255 := by
  by_cases hlt : c.at_ < c.code_.length
  ·obtain ⟨x, hx, _, _⟩ := idx_lt h0 hlt
   have := x.toNat_lt
   refine ⟨(x.toNat : Int), ?_, by omega, by omega⟩
   simp only [hlt, decide_true, if_true, hx, qb]
   rw [w64_id (by omega)]
  ·exact ⟨0, by simp [hlt], by omega, by omega⟩
 obtain ⟨v, hv, hv0, hv1⟩ := hv
 rw [hv]
 simp only [qb]
 split
 ·exact ⟨_, rfl, hcur _, hv0, hv1⟩
 ·rw [chk_of (by omega)]
  exact ⟨_, rfl, hcur _, and255 _⟩
theorem pick_ok {k : Nat} {c : l1Cur} (n : Int) (h : Cur k c) (hk : k ≤ 3000000000) : ∃ r, zq54 c n = some r ∧ Cur (k + 2) r.2 ∧ 0 ≤ r.1 ∧ (r.1 < n ∨ r.1 = 0) := by
 unfold zq54
 by_cases hn : n ≤ 1
 ·exact ⟨(0, c), by simp [hn], h.mono (by omega), by simp, .inr rfl⟩
 ·obtain ⟨r, hr, hc, h0, h1⟩ := next_ok h (by omega)
  have hn' : decide (n ≤ 1) = false := by simpa using hn
  simp only [hn', Bool.false_eq_true, if_false, hr, qb]
  have hne : chk (n ≠ 0) = some () := chk_of (by omega)
  by_cases h2 : 200 < n
  ·obtain ⟨r', hr', hc', h0', h1'⟩ := next_ok hc (by omega)
   have e1 : w64 (r.1 * 256) = r.1 * 256 := w64_id (by omega)
   have e2 : w64 (r.1 * 256 + r'.1) = r.1 * 256 + r'.1 := w64_id (by omega)
   have h3 := tmod_rng (a := r.1 * 256 + r'.1) (b := n) (by omega) (by omega)
   simp only [h2, decide_true, if_true, hr', qb, hne, e1, e2]
   exact ⟨_, rfl, hc'.mono (by omega), h3.1, .inl h3.2⟩
  ·have h2' : decide (200 < n) = false := by simpa using h2
   have h3 := tmod_rng (a := r.1) (b := n) (by omega) (by omega)
   simp only [h2', Bool.false_eq_true, if_false, qb, hne]
   exact ⟨_, rfl, hc.mono (by omega), h3.1, .inl h3.2⟩
theorem amongw_ok {k : Nat} {c : l1Cur} (l : List Int) (hl : l ≠ []) (h : Cur k c) (hk : k ≤ 3000000000) : ∃ r, zq44 c l = some r ∧ Cur (k + 2) r.2 ∧ r.1 ∈ l := by
 unfold zq44
 obtain ⟨r, hr, hc, h0, h1⟩ := pick_ok (l.length : Int) h hk
 have hpos : 0 < l.length := List.length_pos_iff.2 hl
 obtain ⟨x, hx, _, hm⟩ := idx_lt (l := l) h0 (by omega)
 simp only [hr, qb, hx]
 exact ⟨_, rfl, hc, hm⟩
theorem among_ok {k : Nat} {c : l1Cur} (l : List Int) (hl : l ≠ []) (h : Cur k c) (hk : k ≤ 3000000000) : ∃ r, zq43 c l = some r ∧ Cur (k + 2) r.2 ∧ r.1 ∈ l := by
 have : zq43 c l = zq44 c l := rfl
 rw [this]; exact amongw_ok l hl h hk
theorem one_ok {k : Nat} {c : l1Cur} (n : Int) (h : Cur k c) (hk : k ≤ 3000000000) : ∃ r, zq52 c n = some r ∧ Cur (k + 2) r.2 := by
 unfold zq52
 obtain ⟨r, hr, hc, _, _⟩ := pick_ok n h hk
 simp only [hr, qb]
 exact ⟨_, rfl, hc⟩
theorem of_ok {k : Nat} {c : l1Cur} (l : List ByteArray) (hl : l ≠ []) (h : Cur k c) (hk : k ≤ 3000000000) : ∃ r, zq50 c l = some r ∧ Cur (k + 2) r.2 ∧ r.1 ∈ l := by
 unfold zq50
 obtain ⟨r, hr, hc, h0, h1⟩ := pick_ok (l.length : Int) h hk
 have hpos : 0 < l.length := List.length_pos_iff.2 hl
 obtain ⟨x, hx, _, hm⟩ := idx_lt (l := l) h0 (by omega)
 simp only [hr, qb, hx]
 exact ⟨_, rfl, hc, hm⟩
theorem ofw_ok {k : Nat} {c : l1Cur} (l : List ByteArray) (hl : l ≠ []) (h : Cur k c) (hk : k ≤ 3000000000) : ∃ r, zq51 c l = some r ∧ Cur (k + 2) r.2 ∧ r.1 ∈ l := by
 have : zq51 c l = zq50 c l := rfl
 rw [this]; exact of_ok l hl h hk
theorem cur0 (code : List UInt8) : Cur 0 ⟨code, 0, ⟨0⟩⟩ := ⟨by show (0 : Int) ≤ 0; omega, by show (0 : Int) ≤ _; omega⟩
theorem within_eq (n lo hi : Int) : zq23 n lo hi = some (decide (lo ≤ n ∧ n ≤ hi)) := by
 unfold zq23
 by_cases h : lo ≤ n <;> simp [h]
theorem l1In_eq (n lo hi : Int) : zq57 n lo hi = some (decide (lo ≤ n ∧ n ≤ hi)) := by
 unfold zq57
 by_cases h : lo ≤ n <;> simp [h]
def ChOK (i : Nat) (c : UInt8) : Prop := (97 ≤ (c.toNat : Int) ∧ (c.toNat : Int) ≤ 122) ∨ (i ≠ 0 ∧ 48 ≤ (c.toNat : Int) ∧ (c.toNat : Int) ≤ 57)
def NameOK (s : ByteArray) : Prop := (1 ≤ s.size ∧ s.size ≤ 8) ∧ ∀ (i : Nat) c, s.data.toList[i]? = some c → ChOK i c
open Classical in
noncomputable instance (s : ByteArray) : Decidable (NameOK s) := Classical.propDecidable _
theorem size_list (s : ByteArray) : s.data.toList.length = s.size := by simp
theorem getD_of {α : Type} {l : List α} {i : Nat} {x d : α} (h : l[i]? = some x) : l.getD i d = x := by rw [List.getD_eq_getElem?_getD, h]; rfl
theorem isName_eq (s : ByteArray) : zq14 s = some (decide (NameOK s)) := by
 unfold zq14
 by_cases h1 : 1 ≤ s.size ∧ s.size ≤ 8
 ·have e1 : decide ((s.size : Int) < 1) = false := by simp; omega
  have e2 : decide (8 < (s.size : Int)) = false := by simp; omega
  simp only [e1, e2, Bool.false_eq_true, if_false, qb]
  have hsz := size_list s
  have key := Go.Ab.all_loop s.data.toList ChOK (step := zq14_L1 s) ?_ ?_ 0 0 rfl (by omega)
  ·rcases key with ⟨g1, g2⟩ | ⟨g1, g2⟩
   ·rw [g1, flb_go]
    have : NameOK s := ⟨h1, fun i c hc => g2 i c (by omega) hc⟩
    simp [this]
   ·rw [g1, flb_ret]
    have : ¬ NameOK s := fun hn => g2 fun i c _ hc => hn.2 i c hc
    simp [this]
  ·intro i x hx
   have hi := (List.getElem?_eq_some_iff.1 hx).1
   have hg : s.data.toList.getD (i : Int).toNat 0 = x := by rw [Int.toNat_natCast]; exact getD_of hx
   have hc : chk ((0 : Int) ≤ (i : Int) ∧ (i : Int) < (s.size : Int)) = some () := chk_of (by omega)
   have hlt : decide ((i : Int) < (s.size : Int)) = true := by simp; omega
   unfold zq14_L1
   simp only [hlt, if_true, hc, hg, qb, w64_succ (n := i) (by omega)]
   unfold ChOK
   by_cases a1 : (97 : Int) ≤ (x.toNat : Int)
   ·by_cases a2 : (x.toNat : Int) ≤ 122
    ·left; refine ⟨by simp [a1, a2], .inl ⟨a1, a2⟩⟩
    ·right
     refine ⟨?_, by omega⟩
     have b1 : decide ((x.toNat : Int) < 48) = false := by simp; omega
     have b2 : decide ((57 : Int) < (x.toNat : Int)) = true := by simp; omega
     have c1 : ¬ (x.toNat : Int) < 48 := by omega
     have c2 : (57 : Int) < (x.toNat : Int) := by omega
     by_cases hi0 : i = 0
     ·simp [a1, a2, hi0]
     ·have hi0' : ((i : Int) == 0) = false := by simp; omega
      simp [a1, a2, hi0', c1, c2]
   ·by_cases hi0 : i = 0
    ·right
     refine ⟨by simp [a1, hi0], by omega⟩
    ·have hi0' : ((i : Int) == 0) = false := by simp; omega
     by_cases b1 : (x.toNat : Int) < 48
     ·right
      refine ⟨by simp [a1, hi0', b1], by omega⟩
     ·by_cases b2 : (57 : Int) < (x.toNat : Int)
      ·right
       refine ⟨by simp [a1, hi0', b1, b2], by omega⟩
      ·left
       refine ⟨by simp [a1, hi0', b1, b2], .inr ⟨hi0, by omega, by omega⟩⟩
  ·unfold zq14_L1
   rw [hsz]
   simp
 ·have : ¬ NameOK s := fun h => h1 h.1
  have e : (if (decide ((s.size : Int) < 1)) = true then some true else some (decide (8 < (s.size : Int)))) = some true := by
   by_cases h2 : s.size < 1
   ·have : decide ((s.size : Int) < 1) = true := by simp; omega
    simp [this]
   ·have e1 : decide ((s.size : Int) < 1) = false := by simp; omega
    have e2 : decide (8 < (s.size : Int)) = true := by simp; omega
    simp [e1, e2]
  rw [e]
  simp [this]
theorem l2Name_eq (s : ByteArray) : zq68 s = some (decide (NameOK s)) := by
 unfold zq68
 rw [l1In_eq]
 simp only [qb]
 by_cases h1 : 1 ≤ s.size ∧ s.size ≤ 8
 ·have e1 : decide ((1 : Int) ≤ (s.size : Int) ∧ (s.size : Int) ≤ 8) = true := by simp; omega
  have hsz := size_list s
  obtain ⟨x0, hx0⟩ := get_ex (l := s.data.toList) (i := 0) (by omega)
  have hg0 : s.data.toList.getD (0 : Int).toNat 0 = x0 := getD_of hx0
  have hc0 : chk ((0 : Int) ≤ 0 ∧ 0 < (s.size : Int)) = some () := chk_of (by omega)
  simp only [e1, Bool.not_true, Bool.false_eq_true, if_false, hc0, hg0, qb]
  by_cases a0 : 97 ≤ (x0.toNat : Int) ∧ (x0.toNat : Int) ≤ 122
  ·have b1 : decide ((x0.toNat : Int) < 97) = false := by simp; omega
   have b2 : decide ((122 : Int) < (x0.toNat : Int)) = false := by simp; omega
   simp only [b1, b2, Bool.false_eq_true, if_false, qb]
   have key := Go.Ab.all_loop s.data.toList ChOK (step := zq68_L1 s) ?_ ?_ 0 0 rfl (by omega)
   ·rcases key with ⟨g1, g2⟩ | ⟨g1, g2⟩
    ·rw [g1, flb_go]
     have : NameOK s := ⟨h1, fun i c hc => g2 i c (by omega) hc⟩
     simp [this]
    ·rw [g1, flb_ret]
     have : ¬ NameOK s := fun hn => g2 fun i c _ hc => hn.2 i c hc
     simp [this]
   ·intro i x hx
    have hi := (List.getElem?_eq_some_iff.1 hx).1
    have hg : s.data.toList.getD (i : Int).toNat 0 = x := by rw [Int.toNat_natCast]; exact getD_of hx
    have hc : chk ((0 : Int) ≤ (i : Int) ∧ (i : Int) < (s.size : Int)) = some () := chk_of (by omega)
    have hlt : decide ((i : Int) < (s.size : Int)) = true := by simp; omega
    have h0 : i = 0 → x = x0 := fun h => by subst h; rw [hx0] at hx; cases hx; rfl
    unfold zq68_L1
    simp only [hlt, if_true, hc, hg, qb, w64_succ (n := i) (by omega)]
    unfold ChOK
    by_cases a1 : (x.toNat : Int) < 97
    ·have hi0 : i ≠ 0 := fun h => by have := h0 h; subst this; omega
     by_cases c1 : (x.toNat : Int) < 48
     ·right; refine ⟨by simp [a1, c1], by omega⟩
     ·by_cases c2 : (57 : Int) < (x.toNat : Int)
      ·right; refine ⟨by simp [a1, c1, c2], by omega⟩
      ·left; refine ⟨by simp [a1, c1, c2], .inr ⟨hi0, by omega, by omega⟩⟩
    ·by_cases a2 : (122 : Int) < (x.toNat : Int)
     ·right
      have c1 : ¬ (x.toNat : Int) < 48 := by omega
      have c2 : (57 : Int) < (x.toNat : Int) := by omega
      refine ⟨by simp [a1, a2, c1, c2], by omega⟩
     ·left; refine ⟨by simp [a1, a2], .inl ⟨by omega, by omega⟩⟩
   ·unfold zq68_L1
    rw [hsz]
    simp
  ·have : ¬ NameOK s := fun hn => by
    have := hn.2 0 x0 hx0
    unfold ChOK at this
    omega
   have e : (if (decide ((x0.toNat : Int) < 97)) = true then some true else some (decide ((122 : Int) < (x0.toNat : Int)))) = some true := by
    by_cases h2 : (x0.toNat : Int) < 97
    ·simp [h2]
    ·have : (122 : Int) < (x0.toNat : Int) := by omega
     simp [h2, this]
   rw [e]
   simp [this]
 ·have e1 : decide ((1 : Int) ≤ (s.size : Int) ∧ (s.size : Int) ≤ 8) = false := by simp; omega
  have : ¬ NameOK s := fun h => h1 h.1
  simp [e1, this]
theorem index_str_eq (l : List ByteArray) (hl : l.length ≤ 4000000000) (v : ByteArray) : zq75 l v = some (fixI (fun e => v.toList == e.toList) l) := by
 unfold zq75
 refine find_val l (fun e => v.toList == e.toList) (fun i x hx => ?_) (by unfold zq75_L1; simp)
 have hi := (List.getElem?_eq_some_iff.1 hx).1
 unfold zq75_L1
 have hlt : decide ((i : Int) < (l.length : Int)) = true := by simp; omega
 simp only [hlt, if_true, idx_nat, hx, qb, w64_succ (n := i) (by omega)]
 split <;> rfl
theorem index_int_eq (l : List Int) (hl : l.length ≤ 4000000000) (v : Int) : zq74 l v = some (fixI (fun e => v == e) l) := by
 unfold zq74
 refine find_val l (fun e => v == e) (fun i x hx => ?_) (by unfold zq74_L1; simp)
 have hi := (List.getElem?_eq_some_iff.1 hx).1
 unfold zq74_L1
 have hlt : decide ((i : Int) < (l.length : Int)) = true := by simp; omega
 simp only [hlt, if_true, idx_nat, hx, qb, w64_succ (n := i) (by omega)]
 split <;> rfl
theorem l2Place_eq (x : Line) (hl : x.Stops.length ≤ 4000000000) (v : Int) : zq71 x v = some (fixI (fun e => v == e) x.Stops) := by
 have hc : fixI (fun e => v == e) x.Stops = fixI (fun e => e == v) x.Stops := fixI_congr _ fun e => BEq.comm
 rw [hc]
 unfold zq71
 refine find_val x.Stops (fun e => e == v) (fun i y hx => ?_) (by unfold zq71_L1; simp)
 have hi := (List.getElem?_eq_some_iff.1 hx).1
 unfold zq71_L1
 have hlt : decide ((i : Int) < (x.Stops.length : Int)) = true := by simp; omega
 simp only [hlt, if_true, idx_nat, hx, qb, w64_succ (n := i) (by omega)]
 split <;> rfl
theorem bl_comm (a b : List UInt8) : (a == b) = (b == a) := BEq.comm
theorem l2Find_eq (l : List ByteArray) (hl : l.length ≤ 4000000000) (v : ByteArray) : zq64 l v = some (fixI (fun e => v.toList == e.toList) l) := by
 rw [fixI_congr l (q := fun e => e.toList == v.toList) fun e => bl_comm _ _]
 unfold zq64
 refine find_val l (fun e => e.toList == v.toList) (fun i x hx => ?_) (by unfold zq64_L1; simp)
 have hi := (List.getElem?_eq_some_iff.1 hx).1
 unfold zq64_L1
 have hlt : decide ((i : Int) < (l.length : Int)) = true := by simp; omega
 simp only [hlt, if_true, idx_nat, hx, qb, w64_succ (n := i) (by omega)]
 split <;> rfl
theorem l2LineNamed_eq (n : Network) (hl : n.Lines.length ≤ 4000000000) (v : ByteArray) : zq67 n v = some (fixI (fun e => v.toList == e.toList) (n.Lines.map (·.Name))) := by
 rw [fixI_map, fixI_congr n.Lines (q := fun e => e.Name.toList == v.toList) fun e => bl_comm _ _]
 unfold zq67
 refine find_val n.Lines (fun e => e.Name.toList == v.toList) (fun i x hx => ?_) (by unfold zq67_L1; simp)
 have hi := (List.getElem?_eq_some_iff.1 hx).1
 unfold zq67_L1
 have hlt : decide ((i : Int) < (n.Lines.length : Int)) = true := by simp; omega
 simp only [hlt, if_true, idx_nat, hx, qb, w64_succ (n := i) (by omega)]
 split <;> rfl
def NamesP (l : List ByteArray) : Prop := ∀ (i : Nat) x, l[i]? = some x → NameOK x ∧ fixI (fun e => x.toList == e.toList) l = (i : Int)
def LineP (st : Nat) (x : Line) : Prop := (2 ≤ x.Stops.length ∧ x.Stops.length ≤ 6) ∧ (x.Runs.length : Int) = (x.Stops.length : Int) - 1 ∧
 (∀ (i : Nat) e, x.Stops[i]? = some e → (0 ≤ e ∧ e < (st : Int)) ∧ fixI (fun y => e == y) x.Stops = (i : Int)) ∧ ∀ (i : Nat) r, x.Runs[i]? = some r → 1 ≤ r ∧ r ≤ 60
def Good (n : Network) : Prop := (2 ≤ n.Stops.length ∧ n.Stops.length ≤ 8) ∧ (1 ≤ n.Lines.length ∧ n.Lines.length ≤ 5) ∧ NamesP n.Stops ∧ NamesP (n.Lines.map (·.Name)) ∧ ∀ (i : Nat) x, n.Lines[i]? = some x → LineP n.Stops.length x
noncomputable instance (l : List ByteArray) : Decidable (NamesP l) := Classical.propDecidable _
noncomputable instance (st : Nat) (x : Line) : Decidable (LineP st x) := Classical.propDecidable _
noncomputable instance (n : Network) : Decidable (Good n) := Classical.propDecidable _
def Bd (n : Network) : Prop := n.Stops.length ≤ 1000 ∧ n.Lines.length ≤ 1000 ∧ ∀ x ∈ n.Lines, x.Stops.length ≤ 1000 ∧ x.Runs.length ≤ 1000
theorem areNames_eq (l : List ByteArray) (hl : l.length ≤ 1000) : zq10 l = some (decide (NamesP l)) := by
 unfold zq10
 rw [all_val (hd := Classical.propDecidable _) l (fun i x => NameOK x ∧ fixI (fun e => x.toList == e.toList) l = (i : Int)) (fun i x hx => ?_) (by unfold zq10_L1; simp)]
 ·by_cases h : NamesP l
  ·rw [if_pos (show ∀ (i : Nat) x, l[i]? = some x → NameOK x ∧ fixI (fun e => x.toList == e.toList) l = (i : Int) from h)]; simp [h]
  ·rw [if_neg (show ¬ ∀ (i : Nat) x, l[i]? = some x → NameOK x ∧ fixI (fun e => x.toList == e.toList) l = (i : Int) from h)]; simp [h]
 ·have hi := (List.getElem?_eq_some_iff.1 hx).1
  unfold zq10_L1
  have hlt : decide ((i : Int) < (l.length : Int)) = true := by simp; omega
  simp only [hlt, if_true, idx_nat, hx, qb, isName_eq, index_str_eq l (by omega), w64_succ (n := i) (by omega)]
  by_cases h1 : NameOK x
  ·by_cases h2 : fixI (fun e => x.toList == e.toList) l = (i : Int)
   ·left; simp [h1, h2]
   ·right; simp [h1, h2]
  ·right; simp [h1]
theorem lineNames_eq (n : Network) (hl : n.Lines.length ≤ 1000) : zq19 n = some (n.Lines.map (·.Name)) := by
 unfold zq19
 rw [chk_of (by omega)]
 simp only [qb]
 rw [fill_loop (fun x : Line => x.Name) n.Lines _ (by simp) (fun i a x y ha hy hx => ?_) (fun a ha => ?_)]
 ·rfl
 ·have hi := (List.getElem?_eq_some_iff.1 hx).1
  unfold zq19_L1
  have hlt : decide ((i : Int) < (n.Lines.length : Int)) = true := by simp; omega
  simp only [hlt, if_true, idx_nat, hx, hy, qb, w64_succ (n := i) (by omega), Int.toNat_natCast]
 ·unfold zq19_L1; simp
theorem isStop_eq (n : Network) (e : Int) : zq16 n e = some (decide (0 ≤ e ∧ e < (n.Stops.length : Int))) := by
 unfold zq16
 by_cases h : 0 ≤ e <;> simp [h]
theorem isLine_eq (n : Network) (e : Int) : zq13 n e = some (decide (0 ≤ e ∧ e < (n.Lines.length : Int))) := by
 unfold zq13
 by_cases h : 0 ≤ e <;> simp [h]
theorem isValidLine_eq (n : Network) (l : Line) (h1 : l.Stops.length ≤ 1000) (h2 : l.Runs.length ≤ 1000) : zq17 n l = some (decide (LineP n.Stops.length l)) := by
 unfold zq17
 rw [within_eq]
 have e0 : w64 ((l.Stops.length : Int) - 1) = (l.Stops.length : Int) - 1 := w64_id (by omega)
 simp only [qb, e0]
 by_cases a1 : 2 ≤ l.Stops.length ∧ l.Stops.length ≤ 6
 ·have d1 : decide ((2 : Int) ≤ (l.Stops.length : Int) ∧ (l.Stops.length : Int) ≤ 6) = true := by simp; omega
  simp only [d1, Bool.not_true, Bool.false_eq_true, if_false]
  by_cases a2 : (l.Runs.length : Int) = (l.Stops.length : Int) - 1
  ·have d2 : ((l.Runs.length : Int) != (l.Stops.length : Int) - 1) = false := by simp [a2]
   simp only [d2, qb, Bool.false_eq_true, if_false]
   rw [all_val (hd := Classical.propDecidable _) l.Stops (fun i e => (0 ≤ e ∧ e < (n.Stops.length : Int)) ∧ fixI (fun y => e == y) l.Stops = (i : Int)) (fun i x hx => ?_) (by unfold zq17_L1; simp)]
   ·rw [all_val (hd := Classical.propDecidable _) l.Runs (fun i r => 1 ≤ r ∧ r ≤ 60) (fun i x hx => ?_) (by unfold zq17_L2; simp)]
    ·by_cases b1 : ∀ (i : Nat) e, l.Stops[i]? = some e → (0 ≤ e ∧ e < (n.Stops.length : Int)) ∧ fixI (fun y => e == y) l.Stops = (i : Int)
     ·rw [if_pos b1]
      by_cases b2 : ∀ (i : Nat) r, l.Runs[i]? = some r → 1 ≤ r ∧ r ≤ 60
      ·rw [if_pos b2]
       have : LineP n.Stops.length l := ⟨a1, a2, b1, b2⟩
       simp [this]
      ·rw [if_neg b2]
       have : ¬ LineP n.Stops.length l := fun h => b2 h.2.2.2
       simp [this]
     ·rw [if_neg b1]
      have : ¬ LineP n.Stops.length l := fun h => b1 h.2.2.1
      simp [this]
    ·have hi := (List.getElem?_eq_some_iff.1 hx).1
     unfold zq17_L2
     have hlt : decide ((i : Int) < (l.Runs.length : Int)) = true := by simp; omega
     simp only [hlt, if_true, idx_nat, hx, qb, within_eq, w64_succ (n := i) (by omega)]
     by_cases b : 1 ≤ x ∧ x ≤ 60
     ·left; simp [b]
     ·right; simp [b]
   ·have hi := (List.getElem?_eq_some_iff.1 hx).1
    unfold zq17_L1
    have hlt : decide ((i : Int) < (l.Stops.length : Int)) = true := by simp; omega
    simp only [hlt, if_true, idx_nat, hx, qb, isStop_eq, index_int_eq l.Stops (by omega), w64_succ (n := i) (by omega)]
    by_cases b1 : 0 ≤ x ∧ x < (n.Stops.length : Int)
    ·by_cases b2 : fixI (fun y => x == y) l.Stops = (i : Int)
     ·left; simp [b1, b2]
     ·right; simp [b1, b2]
    ·right; simp [b1]
  ·have d2 : ((l.Runs.length : Int) != (l.Stops.length : Int) - 1) = true := by simp [a2]
   have : ¬ LineP n.Stops.length l := fun h => a2 h.2.1
   simp [d2, this]
 ·have d1 : decide ((2 : Int) ≤ (l.Stops.length : Int) ∧ (l.Stops.length : Int) ≤ 6) = false := by simp; omega
  have : ¬ LineP n.Stops.length l := fun h => a1 h.1
  simp [d1, this]
theorem l2Line_eq (l : Line) (st : Nat) (hst : st ≤ 1000) (h1 : l.Stops.length ≤ 1000) (h2 : l.Runs.length ≤ 1000) : zq66 l (st : Int) = some (decide (NameOK l.Name ∧ LineP st l)) := by
 unfold zq66
 rw [l2Name_eq]
 have e0 : w64 ((l.Stops.length : Int) - 1) = (l.Stops.length : Int) - 1 := w64_id (by omega)
 have e1 : w64 ((st : Int) - 1) = (st : Int) - 1 := w64_id (by omega)
 simp only [qb, e0, l1In_eq]
 by_cases a0 : NameOK l.Name
 ·simp only [a0, decide_true, Bool.not_true, Bool.false_eq_true, if_false, true_and]
  by_cases a1 : 2 ≤ l.Stops.length ∧ l.Stops.length ≤ 6
  ·have d1 : decide ((2 : Int) ≤ (l.Stops.length : Int) ∧ (l.Stops.length : Int) ≤ 6) = true := by simp; omega
   simp only [d1, Bool.not_true, Bool.false_eq_true, if_false]
   by_cases a2 : (l.Runs.length : Int) = (l.Stops.length : Int) - 1
   ·have d2 : ((l.Runs.length : Int) != (l.Stops.length : Int) - 1) = false := by simp [a2]
    simp only [d2, qb, Bool.false_eq_true, if_false]
    rw [all_val (hd := Classical.propDecidable _) l.Stops (fun i e => (0 ≤ e ∧ e < (st : Int)) ∧ fixI (fun y => e == y) l.Stops = (i : Int)) (fun i x hx => ?_) (by unfold zq66_L1; simp)]
    ·rw [all_val (hd := Classical.propDecidable _) l.Runs (fun i r => 1 ≤ r ∧ r ≤ 60) (fun i x hx => ?_) (by unfold zq66_L2; simp)]
     ·by_cases b1 : ∀ (i : Nat) e, l.Stops[i]? = some e → (0 ≤ e ∧ e < (st : Int)) ∧ fixI (fun y => e == y) l.Stops = (i : Int)
      ·rw [if_pos b1]
       by_cases b2 : ∀ (i : Nat) r, l.Runs[i]? = some r → 1 ≤ r ∧ r ≤ 60
       ·rw [if_pos b2]
        have : LineP st l := ⟨a1, a2, b1, b2⟩
        simp [this]
       ·rw [if_neg b2]
        have : ¬ LineP st l := fun h => b2 h.2.2.2
        simp [this]
      ·rw [if_neg b1]
       have : ¬ LineP st l := fun h => b1 h.2.2.1
       simp [this]
     ·have hi := (List.getElem?_eq_some_iff.1 hx).1
      unfold zq66_L2
      have hlt : decide ((i : Int) < (l.Runs.length : Int)) = true := by simp; omega
      simp only [hlt, if_true, idx_nat, hx, qb, l1In_eq, w64_succ (n := i) (by omega)]
      by_cases b : 1 ≤ x ∧ x ≤ 60
      ·left; simp [b]
      ·right; simp [b]
    ·have hi := (List.getElem?_eq_some_iff.1 hx).1
     unfold zq66_L1
     have hlt : decide ((i : Int) < (l.Stops.length : Int)) = true := by simp; omega
     simp only [hlt, if_true, idx_nat, hx, qb, l1In_eq, e1, l2Place_eq l (by omega), w64_succ (n := i) (by omega)]
     by_cases b1 : 0 ≤ x ∧ x < (st : Int)
     ·have d3 : decide (0 ≤ x ∧ x ≤ (st : Int) - 1) = true := by simp; omega
      by_cases b2 : fixI (fun y => x == y) l.Stops = (i : Int)
      ·left; simp only [d3]; simp [b1, b2]
      ·right; simp only [d3]; simp [b1, b2]
     ·have d3 : decide (0 ≤ x ∧ x ≤ (st : Int) - 1) = false := by simp; omega
      right; simp only [d3]; simp [b1]
   ·have d2 : ((l.Runs.length : Int) != (l.Stops.length : Int) - 1) = true := by simp [a2]
    have : ¬ LineP st l := fun h => a2 h.2.1
    simp [d2, this]
  ·have d1 : decide ((2 : Int) ≤ (l.Stops.length : Int) ∧ (l.Stops.length : Int) ≤ 6) = false := by simp; omega
   have : ¬ LineP st l := fun h => a1 h.1
   simp [d1, this]
 ·simp [a0]
theorem valid_eq (n : Network) (h : Bd n) : zq5 n = some (decide (Good n)) := by
 obtain ⟨h1, h2, h3⟩ := h
 unfold zq5
 simp only [within_eq, qb, areNames_eq n.Stops h1, lineNames_eq n h2, areNames_eq (n.Lines.map (·.Name)) (by simpa using h2)]
 by_cases a1 : 2 ≤ n.Stops.length ∧ n.Stops.length ≤ 8
 ·have d1 : decide ((2 : Int) ≤ (n.Stops.length : Int) ∧ (n.Stops.length : Int) ≤ 8) = true := by simp; omega
  simp only [d1, Bool.not_true, Bool.false_eq_true, if_false]
  by_cases a2 : 1 ≤ n.Lines.length ∧ n.Lines.length ≤ 5
  ·have d2 : decide ((1 : Int) ≤ (n.Lines.length : Int) ∧ (n.Lines.length : Int) ≤ 5) = true := by simp; omega
   simp only [d2, Bool.not_true, Bool.false_eq_true, if_false]
   by_cases a3 : NamesP n.Stops
   ·simp only [a3, decide_true, Bool.not_true, Bool.false_eq_true, if_false]
    by_cases a4 : NamesP (n.Lines.map (·.Name))
    ·simp only [a4, decide_true, Bool.not_true, qb, Bool.false_eq_true, if_false]
     rw [all_val (hd := Classical.propDecidable _) n.Lines (fun i x => LineP n.Stops.length x) (fun i x hx => ?_) (by unfold zq5_L1; simp)]
     ·by_cases b1 : ∀ (i : Nat) x, n.Lines[i]? = some x → LineP n.Stops.length x
      ·rw [if_pos b1]
       have : Good n := ⟨a1, a2, a3, a4, b1⟩
       simp [this]
      ·rw [if_neg b1]
       have : ¬ Good n := fun h => b1 h.2.2.2.2
       simp [this]
     ·have hi := (List.getElem?_eq_some_iff.1 hx).1
      obtain ⟨g1, g2⟩ := h3 x (List.mem_of_getElem? hx)
      unfold zq5_L1
      have hlt : decide ((i : Int) < (n.Lines.length : Int)) = true := by simp; omega
      simp only [hlt, if_true, idx_nat, hx, qb, isValidLine_eq n x g1 g2, w64_succ (n := i) (by omega)]
      by_cases b : LineP n.Stops.length x
      ·left; simp [b]
      ·right; simp [b]
    ·have : ¬ Good n := fun h => a4 h.2.2.2.1
     simp [a4, this]
   ·have : ¬ Good n := fun h => a3 h.2.2.1
    simp [a3, this]
  ·have d2 : decide ((1 : Int) ≤ (n.Lines.length : Int) ∧ (n.Lines.length : Int) ≤ 5) = false := by simp; omega
   have : ¬ Good n := fun h => a2 h.2.1
   simp [d2, this]
 ·have d1 : decide ((2 : Int) ≤ (n.Stops.length : Int) ∧ (n.Stops.length : Int) ≤ 8) = false := by simp; omega
  have : ¬ Good n := fun h => a1 h.1
  simp [d1, this]
theorem good_eq (n : Network) (h : Bd n) : zq65 n = some (decide (Good n)) := by
 obtain ⟨h1, h2, h3⟩ := h
 unfold zq65
 simp only [l1In_eq, qb]
 by_cases a1 : 2 ≤ n.Stops.length ∧ n.Stops.length ≤ 8
 ·have d1 : decide ((2 : Int) ≤ (n.Stops.length : Int) ∧ (n.Stops.length : Int) ≤ 8) = true := by simp; omega
  simp only [d1, Bool.not_true, Bool.false_eq_true, if_false]
  by_cases a2 : 1 ≤ n.Lines.length ∧ n.Lines.length ≤ 5
  ·have d2 : decide ((1 : Int) ≤ (n.Lines.length : Int) ∧ (n.Lines.length : Int) ≤ 5) = true := by simp; omega
   simp only [d2, Bool.not_true, qb, Bool.false_eq_true, if_false]
   rw [all_val (hd := Classical.propDecidable _) n.Stops (fun i x => NameOK x ∧ fixI (fun e => x.toList == e.toList) n.Stops = (i : Int)) (fun i x hx => ?_) (by unfold zq65_L1; simp)]
   ·rw [all_val (hd := Classical.propDecidable _) n.Lines (fun i x => (NameOK x.Name ∧ LineP n.Stops.length x) ∧ fixI (fun e => x.Name.toList == e.toList) (n.Lines.map (·.Name)) = (i : Int)) (fun i x hx => ?_) (by unfold zq65_L2; simp)]
    ·by_cases b1 : NamesP n.Stops
     ·rw [if_pos (show ∀ (i : Nat) x, n.Stops[i]? = some x → NameOK x ∧ fixI (fun e => x.toList == e.toList) n.Stops = (i : Int) from b1)]
      by_cases b2 : ∀ (i : Nat) x, n.Lines[i]? = some x → (NameOK x.Name ∧ LineP n.Stops.length x) ∧ fixI (fun e => x.Name.toList == e.toList) (n.Lines.map (·.Name)) = (i : Int)
      ·rw [if_pos b2]
       have : Good n := ⟨a1, a2, b1, fun i y hy => by
        rw [List.getElem?_map] at hy
        obtain ⟨x, hx, rfl⟩ := Option.map_eq_some_iff.1 hy
        exact ⟨(b2 i x hx).1.1, (b2 i x hx).2⟩, fun i x hx => (b2 i x hx).1.2⟩
       simp [this]
      ·rw [if_neg b2]
       have : ¬ Good n := fun h => b2 fun i x hx => by
        have h4 := h.2.2.2.1 i x.Name (by rw [List.getElem?_map, hx]; rfl)
        exact ⟨⟨h4.1, h.2.2.2.2 i x hx⟩, h4.2⟩
       simp [this]
     ·rw [if_neg (show ¬ ∀ (i : Nat) x, n.Stops[i]? = some x → NameOK x ∧ fixI (fun e => x.toList == e.toList) n.Stops = (i : Int) from b1)]
      have : ¬ Good n := fun h => b1 h.2.2.1
      simp [this]
    ·have hi := (List.getElem?_eq_some_iff.1 hx).1
     obtain ⟨g1, g2⟩ := h3 x (List.mem_of_getElem? hx)
     unfold zq65_L2
     have hlt : decide ((i : Int) < (n.Lines.length : Int)) = true := by simp; omega
     simp only [hlt, if_true, idx_nat, hx, qb, l2Line_eq x n.Stops.length h1 g1 g2, l2LineNamed_eq n (by omega), w64_succ (n := i) (by omega)]
     by_cases b1 : NameOK x.Name ∧ LineP n.Stops.length x
     ·by_cases b2 : fixI (fun e => x.Name.toList == e.toList) (n.Lines.map (·.Name)) = (i : Int)
      ·left; simp [b1, b2]
      ·right; simp [b1, b2]
     ·right; simp [b1]
   ·have hi := (List.getElem?_eq_some_iff.1 hx).1
    unfold zq65_L1
    have hlt : decide ((i : Int) < (n.Stops.length : Int)) = true := by simp; omega
    simp only [hlt, if_true, idx_nat, hx, qb, l2Name_eq, l2Find_eq n.Stops (by omega), w64_succ (n := i) (by omega)]
    by_cases b1 : NameOK x
    ·by_cases b2 : fixI (fun e => x.toList == e.toList) n.Stops = (i : Int)
     ·left; simp [b1, b2]
     ·right; simp [b1, b2]
    ·right; simp [b1]
  ·have d2 : decide ((1 : Int) ≤ (n.Lines.length : Int) ∧ (n.Lines.length : Int) ≤ 5) = false := by simp; omega
   have : ¬ Good n := fun h => a2 h.2.1
   simp [d2, this]
 ·have d1 : decide ((2 : Int) ≤ (n.Stops.length : Int) ∧ (n.Stops.length : Int) ≤ 8) = false := by simp; omega
  have : ¬ Good n := fun h => a1 h.1
  simp [d1, this]
theorem l1Own_eq (l : List Int) (h : l.length ≤ 1000) : zq61 l = some l := by
 unfold zq61
 rw [chk_of (by simp; omega)]; rfl
theorem l2Own_eq (n : Network) (h : Bd n) : zq69 n = some n := by
 obtain ⟨h1, h2, h3⟩ := h
 unfold zq69
 rw [chk_of (by simp; omega)]
 simp only [qb]
 rw [app_loop (fun x : Line => x) n.Lines (fun i a x ha hx => ?_) (fun a ha => ?_)]
 ·simp only [qb, List.map_id', List.nil_append]
 ·have hi := (List.getElem?_eq_some_iff.1 hx).1
  obtain ⟨g1, g2⟩ := h3 x (List.mem_of_getElem? hx)
  unfold zq69_L1
  have hlt : decide ((i : Int) < (n.Lines.length : Int)) = true := by simp; omega
  have hch : ∀ y : Line, chk (a.length + ([y] : List Line).length ≤ 4294967296) = some () := fun y => chk_of (by simp; omega)
  simp only [hlt, if_true, idx_nat, hx, qb, l1Own_eq _ g1, l1Own_eq _ g2, hch, w64_succ (n := i) (by omega)]
 ·unfold zq69_L1; simp
theorem l2Own_t_eq (n : Network) (h : Bd n) : zq70 n = some n := by
 have : zq70 n = zq69 n := rfl
 rw [this]; exact l2Own_eq n h
theorem l2Back_eq (s : List Int) (hs : s.length ≤ 1000) : zq62 s = some s.reverse := by
 unfold zq62
 have e0 : w64 ((s.length : Int) - 1) = (s.length : Int) - 1 := w64_id (by omega)
 rw [e0]
 have h := iter_rule (step := zq62_L1 s) (fun m a => ∃ j : Nat, a.1 = (s.length : Int) - 1 - j ∧ m + j = s.length ∧ a.2 = s.reverse.take j) (fun b => b = s.reverse) ?_ (k := s.length) (a := ((s.length : Int) - 1, [])) ⟨0, by simp, by omega, by simp⟩
 ·obtain ⟨b, hb, rfl⟩ := h
  rw [hb]; rfl
 rintro m ⟨v, i⟩ ⟨j, hv, hm, hi⟩
 simp only at hv hi
 subst hv
 by_cases hlt : j < s.length
 ·left
  have ev : (s.length : Int) - 1 - j = ((s.length - 1 - j : Nat) : Int) := by omega
  rw [ev]
  obtain ⟨e, he⟩ := get_ex (l := s) (i := s.length - 1 - j) (by omega)
  have hd : decide ((0 : Int) ≤ ((s.length - 1 - j : Nat) : Int)) = true := by simp
  have hlen : i.length = j := by rw [hi]; simp; omega
  have hch : chk (i.length + ([e] : List Int).length ≤ 4294967296) = some () := chk_of (by simp; omega)
  have ev2 : w64 (((s.length - 1 - j : Nat) : Int) - 1) = (s.length : Int) - 1 - ((j + 1 : Nat) : Int) := by rw [w64_id (by omega)]; omega
  refine ⟨((s.length : Int) - 1 - ((j + 1 : Nat) : Int), i ++ [e]), m - 1, ?_, by omega, j + 1, rfl, by omega, ?_⟩
  ·unfold zq62_L1
   simp only [hd, if_true, idx_nat, he, hch, qb, ev2]
  ·show i ++ [e] = _
   rw [take_succ (x := e) (by rw [List.getElem?_reverse hlt]; exact he), hi]
 ·right
  have ej : j = s.length := by omega
  subst ej
  have hd : decide ((0 : Int) ≤ (s.length : Int) - 1 - (s.length : Int)) = false := by simp; omega
  refine ⟨i, by unfold zq62_L1; simp only [hd, Bool.false_eq_true, if_false], ?_⟩
  rw [hi, List.take_of_length_le (by simp)]
theorem l2BackF_eq (s : List Int) (hs : s.length ≤ 1000) : zq63 s = some s.reverse := l2Back_eq s hs
def LB (x : Line) : Prop := (2 ≤ x.Stops.length ∧ x.Stops.length ≤ 10) ∧ 1 ≤ x.Runs.length ∧ x.Runs.length ≤ 10
def NB (n : Network) : Prop := (2 ≤ n.Stops.length ∧ n.Stops.length ≤ 6) ∧ (1 ≤ n.Lines.length ∧ n.Lines.length ≤ 8) ∧ ∀ x ∈ n.Lines, LB x
theorem NB.bd {n : Network} (h : NB n) : Bd n := ⟨by have := h.1; omega, by have := h.2.1; omega, fun x hx => by have := h.2.2 x hx; unfold LB at this; omega⟩
theorem l1Num_ok (n : Int) (h0 : 0 ≤ n) (h1 : n < 10) : ∃ r, zq59 n = some r ∧ r.size ≤ 10 := by
 have e : zq59 n = zq59_F (zq59_k 4294967295) n := rfl
 rw [e]
 unfold zq59_F
 have d1 : decide (n < 0) = false := by simp; omega
 have d2 : decide (n < 10) = true := by simp; omega
 have e1 : w64 (n + 1) = n + 1 := w64_id (by omega)
 have hs : (str [48, 49, 50, 51, 52, 53, 54, 55, 56, 57]).size = 10 := rfl
 simp only [d1, d2, Bool.false_eq_true, if_false, if_true, e1, hs]
 rw [chk_of (by omega)]
 refine ⟨_, rfl, ?_⟩
 rw [ByteArray.size_extract, hs]
 omega
theorem line_ok {k : Nat} {c : l1Cur} (name : ByteArray) (stops : Int) (hs : 2 ≤ stops ∧ stops ≤ 1000) (h : Cur k c) (hk : k ≤ 1000000000) : ∃ r, zq46 c name stops = some r ∧ Cur (k + 40) r.2 ∧ LB r.1 := by
 unfold zq46
 obtain ⟨r, hr, hc, h0, h1⟩ := pick_ok stops h (by omega)
 obtain ⟨r1, hr1, hc1, h10, h11⟩ := pick_ok 3 hc (by omega)
 simp only [hr, hr1, qb]
 have e1 : w64 (2 + r1.1) = ((2 + r1.1.toNat : Nat) : Int) := by rw [w64_id (by omega)]; omega
 rw [e1]
 have loop : ∃ b, iter (zq46_L1 name stops) (r.1, ((2 + r1.1.toNat : Nat) : Int), r1.2.code_, r1.2.at_, r1.2.seed_.v, []) = some b ∧ (Cur (k + 4 + 2 * 4) ⟨b.1, b.2.1, ⟨b.2.2.1⟩⟩ ∧ 1 ≤ b.2.2.2.length ∧ b.2.2.2.length ≤ 4) := by
  refine iter_rule (fun m a => (0 ≤ a.1 ∧ a.1 < stops) ∧ a.2.1 = (m : Int) ∧ m + a.2.2.2.2.2.length ≤ 4 ∧ (1 ≤ m ∨ 1 ≤ a.2.2.2.2.2.length) ∧ Cur (k + 4 + 2 * (4 - m)) ⟨a.2.2.1, a.2.2.2.1, ⟨a.2.2.2.2.1⟩⟩) _ ?_ (k := 2 + r1.1.toNat) ⟨⟨h0, by show r.1 < stops; omega⟩, rfl, by simp; omega, .inl (by omega), hc1.mono (by omega)⟩
  rintro m ⟨v, v1, v2, v3, v4, v5⟩ ⟨hv, hv1, hl, hne, hcur⟩
  simp only at hv hv1 hl hne hcur
  subst hv1
  unfold zq46_L1
  cases m with
  | zero => right; exact ⟨_, by simp; rfl, hcur, by show 1 ≤ v5.length; omega, by show v5.length ≤ 4; omega⟩
  | succ m =>
   left
   have hpos : decide ((0 : Int) < ((m + 1 : Nat) : Int)) = true := by simp
   obtain ⟨r3, hr3, hc3, h30, h31⟩ := pick_ok 2 hcur (by omega)
   have hpl := l2Place_eq (⟨name, v5, []⟩ : Line) (by show v5.length ≤ _; omega) v
   have hch : chk (v5.length + ([v] : List Int).length ≤ 4294967296) = some () := chk_of (by simp; omega)
   have hne0 : chk (stops ≠ 0) = some () := chk_of (by omega)
   have w1 : w64 (v + 1) = v + 1 := w64_id (by omega)
   have w2 : w64 (v + 1 + r3.1) = v + 1 + r3.1 := w64_id (by omega)
   have ht := tmod_rng (a := v + 1 + r3.1) (b := stops) (by omega) (by omega)
   simp only [hpos, if_true, hpl, hch, hr3, hne0, w1, w2, qb]
   have w3 : w64 (((m + 1 : Nat) : Int) - 1) = (m : Int) := w64_pred (by omega)
   split
   ·refine ⟨_, m, by simp only [qb]; rfl, by omega, ht, w3, ?_, .inr ?_, ?_⟩
    ·simp; omega
    ·simp
    ·exact hc3.mono (by omega)
   ·rename_i hn
    refine ⟨_, m, by simp only [qb]; rfl, by omega, ht, w3, ?_, .inr ?_, ?_⟩
    ·show m + v5.length ≤ 4; omega
    ·show 1 ≤ v5.length
     cases v5 with
     | nil => simp [fixI] at hn
     | cons a l => simp
    ·exact hc3.mono (by omega)
 obtain ⟨⟨v7, v8, v9, v10⟩, hb, hcb, hlb⟩ := loop
 simp only at hcb hlb
 rw [hb]
 simp only [qb]
 -- at least two stops
 have two : ∃ v11 : List Int, (if decide ((v10.length : Int) < 2) = true then (idx v10 0).bind fun e1 => (chk ((stops : Int) ≠ 0)).bind fun u4 => (chk (v10.length + ([((w64 (e1 + 1)).tmod stops)] : List Int).length ≤ 4294967296)).bind fun u5 => some (v10 ++ ([((w64 (e1 + 1)).tmod stops)] : List Int)) else some v10) = some v11 ∧ 2 ≤ v11.length ∧ v11.length ≤ 5 := by
  by_cases h2 : (v10.length : Int) < 2
  ·obtain ⟨e, he, _⟩ := idx_lt (l := v10) (i := 0) (by omega) (by omega)
   have hch : ∀ y : Int, chk (v10.length + ([y] : List Int).length ≤ 4294967296) = some () := fun y => chk_of (by simp; omega)
   have hne0 : chk (stops ≠ 0) = some () := chk_of (by omega)
   refine ⟨v10 ++ [(w64 (e + 1)).tmod stops], by simp only [h2, decide_true, if_true, he, hne0, hch, qb], ?_, ?_⟩
   ·simp; omega
   ·simp; omega
  ·exact ⟨v10, by simp [h2], by omega, by omega⟩
 obtain ⟨v11, hv11, l1, l2⟩ := two
 rw [hv11]
 simp only [qb]
 have loop2 : ∃ b, iter (zq46_L2 v11) (1, v7, v8, v9, []) = some b ∧ (Cur (k + 40) ⟨b.1, b.2.1, ⟨b.2.2.1⟩⟩ ∧ b.2.2.2.length + 1 = v11.length) := by
  refine iter_rule (fun m a => ∃ i : Nat, a.1 = (i : Int) ∧ m + i = v11.length ∧ a.2.2.2.2.length + 1 = i ∧ Cur (k + 12 + 2 * i) ⟨a.2.1, a.2.2.1, ⟨a.2.2.2.1⟩⟩) _ ?_ (k := v11.length - 1) ⟨1, rfl, by omega, rfl, hcb.mono (by omega)⟩
  rintro m ⟨v12, v13, v14, v15, v16⟩ ⟨i, hi, hm, hl, hcur⟩
  simp only at hi hl hcur
  subst hi
  unfold zq46_L2
  by_cases hlt : i < v11.length
  ·left
   have hd : decide ((i : Int) < (v11.length : Int)) = true := by simp; omega
   obtain ⟨r5, hr5, hc5, _⟩ := pick_ok 12 hcur (by omega)
   have hch : ∀ y : Int, chk (v16.length + ([y] : List Int).length ≤ 4294967296) = some () := fun y => chk_of (by simp; omega)
   refine ⟨_, m - 1, by simp only [hd, if_true, hr5, hch, qb, w64_succ (n := i) (by omega)]; rfl, by omega, i + 1, rfl, by omega, ?_, ?_⟩
   ·simp; omega
   ·exact hc5.mono (by omega)
  ·right
   have hd : decide ((i : Int) < (v11.length : Int)) = false := by simp; omega
   refine ⟨_, by simp only [hd, Bool.false_eq_true, if_false]; rfl, ?_, ?_⟩
   ·exact hcur.mono (by omega)
   ·show v16.length + 1 = _; omega
 obtain ⟨⟨v17, v18, v19, v20⟩, hb2, hcb2, hl2⟩ := loop2
 simp only at hcb2 hl2
 rw [hb2]
 simp only [qb]
 exact ⟨_, rfl, hcb2, ⟨l1, by show v11.length ≤ 10; omega⟩, by show 1 ≤ v20.length; omega, by show v20.length ≤ 10; omega⟩
theorem lineF_ok {k : Nat} {c : l1Cur} (name : ByteArray) (stops : Int) (hs : 2 ≤ stops ∧ stops ≤ 1000) (h : Cur k c) (hk : k ≤ 1000000000) : ∃ r, zq47 c name stops = some r ∧ Cur (k + 40) r.2 ∧ LB r.1 := line_ok name stops hs h hk
theorem six_len (i : Nat) (h2 : 2 ≤ i) (h6 : i ≤ 6) (l : List ByteArray) (hl : l.length = 6) : 2 ≤ ((l.take i).drop (0 : Int).toNat).length ∧ ((l.take i).drop (0 : Int).toNat).length ≤ 6 := by
 simp; omega
theorem networkT_ok {k : Nat} {c : l1Cur} (h : Cur k c) (hk : k ≤ 500000000) : ∃ r, zq48 c = some r ∧ Cur (k + 300) r.2 ∧ NB r.1 := by
 unfold zq48
 obtain ⟨r, hr, hc, h0, h1⟩ := pick_ok 5 h (by omega)
 have e1 : w64 (2 + r.1) = 2 + r.1 := w64_id (by omega)
 have hsix : ([(str [112, 111, 114, 116]), (str [109, 105, 108, 108]), (str [112, 97, 114, 107]), (str [104, 97, 108, 108]), (str [100, 111, 99, 107]), (str [102, 97, 105, 114])] : List ByteArray).length = 6 := rfl
 simp only [hr, qb, e1, hsix]
 rw [chk_of (by omega)]
 obtain ⟨r1, hr1, hc1, h10, h11⟩ := pick_ok 3 hc (by omega)
 have e2 : w64 (1 + r1.1) = ((1 + r1.1.toNat : Nat) : Int) := by rw [w64_id (by omega)]; omega
 simp only [hr1, qb, e2]
 have loop : ∃ b, iter (zq48_L1 r) (((1 + r1.1.toNat : Nat) : Int), r1.2.code_, r1.2.at_, r1.2.seed_.v, []) = some b ∧ (Cur (k + 4 + 40 * 3) ⟨b.1, b.2.1, ⟨b.2.2.1⟩⟩ ∧ (1 ≤ b.2.2.2.length ∧ b.2.2.2.length ≤ 3) ∧ ∀ x ∈ b.2.2.2, LB x) := by
  refine iter_rule (fun m a => a.1 = (m : Int) ∧ m + a.2.2.2.2.length ≤ 3 ∧ 1 ≤ m + a.2.2.2.2.length ∧ (∀ x ∈ a.2.2.2.2, LB x) ∧ Cur (k + 4 + 40 * (3 - m)) ⟨a.2.1, a.2.2.1, ⟨a.2.2.2.1⟩⟩) _ ?_ (k := 1 + r1.1.toNat) ⟨rfl, by simp; omega, by simp, by simp, hc1.mono (by omega)⟩
  rintro m ⟨x, v, v1, v2, v3⟩ ⟨hx, hl, hl1, hlb, hcur⟩
  simp only at hx hl hl1 hlb hcur
  subst hx
  unfold zq48_L1
  cases m with
  | zero => right; exact ⟨_, by simp; rfl, hcur, ⟨by show 1 ≤ v3.length; omega, by show v3.length ≤ 3; omega⟩, hlb⟩
  | succ m =>
   left
   have hpos : decide ((0 : Int) < ((m + 1 : Nat) : Int)) = true := by simp
   obtain ⟨r4, hr4, hs4⟩ := l1Num_ok ((m + 1 : Nat) : Int) (by omega) (by omega)
   have hs : (str [108]).size = 1 := rfl
   have hch : chk ((str [108]).size + r4.size ≤ 4294967296) = some () := chk_of (by omega)
   obtain ⟨r5, hr5, hc5, hb5⟩ := lineF_ok (str [108] ++ r4) (2 + r.1) (by omega) hcur (by omega)
   have hch2 : ∀ y : Line, chk (v3.length + ([y] : List Line).length ≤ 4294967296) = some () := fun y => chk_of (by simp; omega)
   refine ⟨_, m, by simp only [hpos, if_true, hr4, hch, e1, hr5, hch2, qb]; rfl, by omega, ?_, ?_, ?_, ?_, ?_⟩
   ·exact w64_pred (by omega)
   ·simp; omega
   ·simp; omega
   ·intro y hy
    rcases List.mem_append.1 hy with hy | hy
    ·exact hlb y hy
    ·simp at hy; subst hy; exact hb5
   ·exact hc5.mono (by omega)
 obtain ⟨⟨v4, v5, v6, v7⟩, hb, hcb, hlb, hall⟩ := loop
 simp only at hcb hlb hall
 rw [hb]
 simp only [qb]
 obtain ⟨r6, hr6, hc6⟩ := one_ok 2 hcb (by omega)
 simp only [hr6, qb]
 have fin : ∀ (v8 : List UInt8) (v9 v10 : Int) (v11 : List Line), Cur (k + 200) ⟨v8, v9, ⟨v10⟩⟩ → (1 ≤ v11.length ∧ v11.length ≤ 8) → (∀ x ∈ v11, LB x) →
   ∃ r', ((zq70 (⟨((([(str [112, 111, 114, 116]), (str [109, 105, 108, 108]), (str [112, 97, 114, 107]), (str [104, 97, 108, 108]), (str [100, 111, 99, 107]), (str [102, 97, 105, 114])] : List ByteArray).take (2 + r.1).toNat).drop (0 : Int).toNat), v11⟩ : Network)).bind fun r11 => some ((⟨r11.Stops, r11.Lines⟩ : Network), (⟨v8, v9, (⟨v10⟩ : IK .u64)⟩ : l1Cur))) = some r' ∧ Cur (k + 300) r'.2 ∧ NB r'.1 := by
  intro v8 v9 v10 v11 g1 g2 g3
  have hst := six_len (2 + r.1).toNat (by omega) (by omega) _ hsix
  have hnb : NB (⟨((([(str [112, 111, 114, 116]), (str [109, 105, 108, 108]), (str [112, 97, 114, 107]), (str [104, 97, 108, 108]), (str [100, 111, 99, 107]), (str [102, 97, 105, 114])] : List ByteArray).take (2 + r.1).toNat).drop (0 : Int).toNat), v11⟩ : Network) := ⟨hst, g2, g3⟩
  rw [l2Own_t_eq _ hnb.bd]
  exact ⟨_, rfl, g1.mono (by omega), hnb⟩
 split
 ·obtain ⟨e, he, _, hem⟩ := idx_lt (l := v7) (i := 0) (by omega) (by omega)
  obtain ⟨g1, g2⟩ := hall e hem
  have hch2 : ∀ y : Line, chk (v7.length + ([y] : List Line).length ≤ 4294967296) = some () := fun y => chk_of (by simp; omega)
  simp only [he, l2BackF_eq e.Stops (by omega), l2BackF_eq e.Runs (by omega), hch2, qb]
  refine fin _ _ _ _ (hc6.mono (by omega)) (by simp; omega) fun y hy => ?_
  rcases List.mem_append.1 hy with hy | hy
  ·exact hall y hy
  ·simp at hy; subst hy
   exact ⟨by simpa using g1, by simpa using g2⟩
 ·simp only [qb]
  exact fin _ _ _ _ (hc6.mono (by omega)) (by omega) hall
theorem anyNetwork_ok {k : Nat} {c : l1Cur} (h : Cur k c) (hk : k ≤ 200000000) : ∃ r, zq45 c = some r ∧ Cur (k + 1000) r.2 ∧ Bd r.1 := by
 unfold zq45
 obtain ⟨r, hr, hc, hnb⟩ := networkT_ok h (by omega)
 obtain ⟨n1, n2, n3⟩ := hnb
 obtain ⟨r1, hr1, hc1, h10, h11⟩ := pick_ok (r.1.Lines.length : Int) hc (by omega)
 obtain ⟨e, he, he2, hem⟩ := idx_lt (l := r.1.Lines) (i := r1.1) h10 (by omega)
 obtain ⟨g1, g2⟩ := n3 e hem
 obtain ⟨r2, hr2, hc2, _⟩ := pick_ok 24 hc1 (by omega)
 simp only [hr, hr1, he, hr2, qb]
 have fin : ∀ (v : List UInt8) (v1 v2 : Int) (v3 : ByteArray) (v4 : List ByteArray) (v5 : List Line) (v6 : List Int), Cur (k + 900) ⟨v, v1, ⟨v2⟩⟩ → v4.length ≤ 6 → v5.length = r.1.Lines.length → (∀ x ∈ v5, LB x) → v6.length ≤ 11 →
   ∃ r', ((idx v5 r1.1).bind fun e9 => some ((⟨v4, (v5.set r1.1.toNat (⟨v3, e9.Stops, v6⟩ : Line))⟩ : Network), (⟨v, v1, (⟨v2⟩ : IK .u64)⟩ : l1Cur))) = some r' ∧ Cur (k + 1000) r'.2 ∧ Bd r'.1 := by
  intro v v1 v2 v3 v4 v5 v6 q1 q2 q3 q4 q5
  obtain ⟨e9, he9, _, hm9⟩ := idx_lt (l := v5) (i := r1.1) h10 (by omega)
  rw [he9]
  refine ⟨_, rfl, q1.mono (by omega), by show v4.length ≤ _; omega, by simp; omega, fun x hx => ?_⟩
  rcases List.mem_or_eq_of_mem_set hx with hx | hx
  ·have := q4 x hx
   unfold LB at this; omega
  ·subst hx
   have := q4 e9 hm9
   unfold LB at this
   exact ⟨by show e9.Stops.length ≤ _; omega, by show v6.length ≤ _; omega⟩
 split
 ·obtain ⟨r4, hr4, hc4, _⟩ := ofw_ok ([(str [109, 105, 108, 108]), (str []), (str [65]), (str [97, 98, 99, 100, 101, 102, 103, 104]), (str [97, 98, 99, 100, 101, 102, 103, 104, 105])] : List ByteArray) (by simp) hc2 (by omega)
  obtain ⟨e2, he2', _⟩ := idx_lt (l := r.1.Stops) (i := 0) (by omega) (by omega)
  simp only [hr4, he2', qb, flb_go]
  exact fin _ _ _ _ _ _ _ (hc4.mono (by omega)) (by simp; omega) rfl n3 (by omega)
 split
 ·obtain ⟨r5, hr5, hc5, _⟩ := ofw_ok ([(str [114, 49]), (str [108, 49]), (str []), (str [88])] : List ByteArray) (by simp) hc2 (by omega)
  simp only [hr5, qb, flb_go]
  exact fin _ _ _ _ _ _ _ (hc5.mono (by omega)) (by omega) rfl n3 (by omega)
 split
 ·obtain ⟨r8, hr8, hc8, h80, h81⟩ := pick_ok (e.Stops.length : Int) hc2 (by omega)
  obtain ⟨r9, hr9, hc9, _⟩ := pick_ok 10 hc8 (by omega)
  obtain ⟨e4, he4, _⟩ := idx_lt (l := e.Stops) (i := r8.1) h80 (by omega)
  simp only [hr8, hr9, he4, qb, flb_go]
  refine fin _ _ _ _ _ _ _ (hc9.mono (by omega)) (by omega) (by simp) (fun x hx => ?_) (by show e.Runs.length ≤ 11; omega)
  rcases List.mem_or_eq_of_mem_set hx with hx | hx
  ·exact n3 x hx
  ·subst hx; exact ⟨by simpa using g1, g2⟩
 split
 ·obtain ⟨r12, hr12, hc12, h120, h121⟩ := pick_ok (e.Runs.length : Int) hc2 (by omega)
  obtain ⟨r13, hr13, hc13, _⟩ := amongw_ok ([0, 60, 61, (-1)] : List Int) (by simp) hc12 (by omega)
  obtain ⟨e6, he6, _⟩ := idx_lt (l := e.Runs) (i := r12.1) h120 (by omega)
  simp only [hr12, hr13, he6, qb, flb_go]
  refine fin _ _ _ _ _ _ _ (hc13.mono (by omega)) (by omega) (by simp) (fun x hx => ?_) (by simp; omega)
  rcases List.mem_or_eq_of_mem_set hx with hx | hx
  ·exact n3 x hx
  ·subst hx; exact ⟨g1, by simpa using g2⟩
 split
 ·have hch : chk (e.Runs.length + ([3] : List Int).length ≤ 4294967296) = some () := chk_of (by simp; omega)
  simp only [hch, qb, flb_go]
  exact fin _ _ _ _ _ _ _ (hc2.mono (by omega)) (by omega) rfl n3 (by simp; omega)
 split
 ·simp only [flb_ret]
  exact ⟨_, rfl, hc2.mono (by omega), by show r.1.Stops.length ≤ _; omega, by simp, by simp⟩
 split
 ·have loop : ∃ b, iter (zq45_L1 r) (0, r2.2.code_, r2.2.at_, r2.2.seed_.v, r.1.Lines) = some b ∧ (Cur (k + 900) ⟨b.1, b.2.1, ⟨b.2.2.1⟩⟩ ∧ b.2.2.2.length ≤ 20 ∧ ∀ x ∈ b.2.2.2, LB x) := by
   refine iter_rule (fun m a => ∃ i : Nat, a.1 = (i : Int) ∧ m + i = 8 ∧ i ≤ 7 ∧ a.2.2.2.2.length ≤ 8 + i ∧ (∀ x ∈ a.2.2.2.2, LB x) ∧ Cur (k + 310 + 50 * i) ⟨a.2.1, a.2.2.1, ⟨a.2.2.2.1⟩⟩) _ ?_ (k := 8) ⟨0, rfl, rfl, by omega, by simpa using n2.2, n3, hc2.mono (by omega)⟩
   rintro m ⟨v7, v8, v9, v10, v11⟩ ⟨i, hi, hm, hi7, hl, hlb, hcur⟩
   simp only at hi hl hlb hcur
   subst hi
   unfold zq45_L1
   obtain ⟨r16, hr16, hc16, h160, h161⟩ := pick_ok 2 hcur (by omega)
   have w1 : w64 (5 + r16.1) = 5 + r16.1 := w64_id (by omega)
   simp only [hr16, w1, qb]
   by_cases a1 : (v11.length : Int) < 5 + r16.1 ∧ (i : Int) < 7
   ·left
    have d1 : decide ((v11.length : Int) < 5 + r16.1) = true := by simp; omega
    have d2 : decide ((i : Int) < 7) = true := by simp; omega
    obtain ⟨r19, hr19, hs19⟩ := l1Num_ok (i : Int) (by omega) (by omega)
    have hs : (str [120]).size = 1 := rfl
    have hch : chk ((str [120]).size + r19.size ≤ 4294967296) = some () := chk_of (by omega)
    obtain ⟨r20, hr20, hc20, hb20⟩ := line_ok (str [120] ++ r19) (r.1.Stops.length : Int) (by omega) hc16 (by omega)
    have hch2 : ∀ y : Line, chk (v11.length + ([y] : List Line).length ≤ 4294967296) = some () := fun y => chk_of (by simp; omega)
    refine ⟨_, m - 1, by simp only [d1, d2, if_true, hr19, hch, hr20, hch2, qb, w64_succ (n := i) (by omega)]; rfl, by omega, i + 1, rfl, by omega, by omega, ?_, fun x hx => ?_, ?_⟩
    ·simp; omega
    ·rcases List.mem_append.1 hx with hx | hx
     ·exact hlb x hx
     ·simp at hx; subst hx; exact hb20
    ·exact hc20.mono (by omega)
   ·right
    have hcond : (if decide ((v11.length : Int) < 5 + r16.1) = true then some (decide ((i : Int) < 7)) else some false) = some false := by
     by_cases b1 : (v11.length : Int) < 5 + r16.1
     ·have : decide ((i : Int) < 7) = false := by simp; omega
      simp [b1, this]
     ·simp [b1]
    refine ⟨_, by simp only [hcond, qb, Bool.false_eq_true, if_false]; rfl, ?_, ?_, hlb⟩
    ·exact hc16.mono (by omega)
    ·show v11.length ≤ 20; omega
  obtain ⟨⟨v13, v14, v15, v16⟩, hb, hcb, hlb, hall⟩ := loop
  simp only at hcb hlb hall
  rw [hb]
  simp only [qb, flb_ret]
  refine ⟨_, rfl, hcb.mono (by omega), by show r.1.Stops.length ≤ _; omega, by show v16.length ≤ _; omega, fun x hx => ?_⟩
  have := hall x hx
  unfold LB at this; omega
 ·simp only [flb_go]
  exact fin _ _ _ _ _ _ _ (hc2.mono (by omega)) (by omega) rfl n3 (by omega)
theorem t_pick {k : Nat} {c : l1Cur} (n : Int) (h : Cur k c) (hk : k ≤ 3000000000) : Tot (zq54 c n) fun r => Cur (k + 2) r.2 ∧ 0 ≤ r.1 ∧ (r.1 < n ∨ r.1 = 0) := pick_ok n h hk
theorem t_one {k : Nat} {c : l1Cur} (n : Int) (h : Cur k c) (hk : k ≤ 3000000000) : Tot (zq52 c n) fun r => Cur (k + 2) r.2 := one_ok n h hk
theorem t_among {k : Nat} {c : l1Cur} (l : List Int) (hl : l ≠ []) (h : Cur k c) (hk : k ≤ 3000000000) : Tot (zq43 c l) fun r => Cur (k + 2) r.2 ∧ r.1 ∈ l := among_ok l hl h hk
theorem t_amongw {k : Nat} {c : l1Cur} (l : List Int) (hl : l ≠ []) (h : Cur k c) (hk : k ≤ 3000000000) : Tot (zq44 c l) fun r => Cur (k + 2) r.2 ∧ r.1 ∈ l := amongw_ok l hl h hk
theorem rBig_eq (code : List UInt8) : zq92 code = some (decide (65536 < (code.length : Int))) := rfl
theorem idx0 {α : Type} (l : List α) : idx l 0 = l[0]? := idx_nat l 0
theorem rInts_refl (a : List Int) (h : a.length ≤ 100000) : zq93 a a = some true := by
 unfold zq93
 simp only [bne_self_eq_false, Bool.false_eq_true, if_false]
 rw [all_val (hd := Classical.propDecidable _) a (fun _ _ => True) (fun i x hx => ?_) (by unfold zq93_L1; simp)]
 ·rw [if_pos (fun _ _ _ => trivial)]
 ·have hi := get_lt hx
  unfold zq93_L1
  have hlt : decide ((i : Int) < (a.length : Int)) = true := by simp; omega
  left
  simp only [hlt, if_true, idx_nat, hx, qb, bne_self_eq_false, Bool.false_eq_true, if_false, w64_succ (n := i) (by omega), and_self]
theorem total_eq (l : List Int) (h1 : l.length ≤ 1000000) (h2 : ∀ x ∈ l, 0 ≤ x ∧ x ≤ 1000000) : zq22 l = some l.sum := by
 unfold zq22
 rw [sum_loop (fun x : Int => x) l h1 h2 (fun i s x hx => ?_) (fun s => ?_)]
 ·simp
 ·have := get_lt hx
  unfold zq22_L1
  simp (disch := omega) only [if_pos, if_neg, decide_eq_true_eq, decide_true, decide_false, Bool.not_true, Bool.not_false, Bool.false_eq_true, Bool.not_eq_true', decide_eq_false_iff_not, if_true, if_false, w64_id, chk_of, idx_nat, qb, Option.map_some, Int.toNat_natCast, not_true_eq_false, not_false_eq_true, true_and, and_true, and_self, false_and, and_false, reduceIte, flb_go, flb_ret, beq_self_eq_true, ne_eq, bne_self_eq_false, Int.ofNat_lt.2 this, hx]
 ·unfold zq22_L1; simp
theorem l2Run_eq (x : Line) (a b : Nat) (hab : a ≤ b) (hb : b ≤ x.Runs.length) (hl : x.Runs.length ≤ 1000) (h2 : ∀ r ∈ x.Runs, 0 ≤ r ∧ r ≤ 1000000) : zq72 x (a : Int) (b : Int) = some (((x.Runs.take b).drop a).sum) := by
 unfold zq72
 refine Tot.val (.call (P := fun v => v = ((x.Runs.take b).drop a).sum) ?_ fun v h => .ok h)
 refine .iter (fun m s => ∃ k : Nat, s.2 = ((a + k : Nat) : Int) ∧ m + k = b - a ∧ s.1 = (((x.Runs.take b).drop a).take k).sum) (n := b - a) ⟨0, by simp, by omega, by simp⟩ ?_
 rintro m ⟨s, v⟩ ⟨k, hk, hm, hs⟩
 simp only at hk hs
 subst hk
 unfold zq72_L1
 refine .iteP (fun hc => ?_) (fun hc => .dn ?_)
 ·obtain ⟨r, hr⟩ := get_ex (l := x.Runs) (i := a + k) (by omega)
  have hr2 : ((x.Runs.take b).drop a)[k]? = some r := by
   rw [List.getElem?_drop, List.getElem?_take_of_lt (by omega)]; exact hr
  have hb1 := h2 r (List.mem_of_getElem? hr)
  have hb2 := sum_bd (l := ((x.Runs.take b).drop a).take k) (M := 1000000) fun y hy => h2 y (List.mem_of_mem_take (List.mem_of_mem_drop (List.mem_of_mem_take hy)))
  have hlen : ((((x.Runs.take b).drop a).take k).length : Int) ≤ 1000 := by simp; omega
  rw [← hs] at hb2
  refine .eq (by rw [idx_nat]; exact hr) (.nx ⟨m - 1, by omega, k + 1, ?_, by omega, ?_⟩)
  ·show w64 (((a + k : Nat) : Int) + 1) = _
   rw [w64_id (by omega)]; omega
  ·show w64 (s + r) = _
   rw [w64_id (by omega), sum_take_succ hr2, hs]
 ·rw [hs, List.take_of_length_le (by rw [List.length_drop, List.length_take]; omega)]
theorem fdivp {x : Int} (h : 0 ≤ x) (k : Nat) : x.fdiv (2 ^ k) = x / (2 ^ k : Nat) := by
 rw [Int.fdiv_eq_ediv_of_nonneg _ (by exact_mod_cast Nat.zero_le (2 ^ k))]
 simp
theorem pow_step {x y : Int} {v k : Nat} (h : y * (2 ^ v : Nat) ≤ x) (hy : 0 ≤ y) : y / (2 ^ k : Nat) * (2 ^ (v + k) : Nat) ≤ x := by
 have h1 : y / (2 ^ k : Nat) * (2 ^ k : Nat) ≤ y := Int.ediv_mul_le _ (by have := Nat.two_pow_pos k; omega)
 have h2 : y / (2 ^ k : Nat) * (2 ^ k : Nat) * (2 ^ v : Nat) ≤ y * (2 ^ v : Nat) := Int.mul_le_mul_of_nonneg_right h1 (Int.natCast_nonneg _)
 rw [Nat.add_comm, Nat.pow_add, Int.natCast_mul, ← Int.mul_assoc]
 omega
theorem len64_ok (x : IK .u64) (h0 : 0 ≤ x.v) (h1 : x.v < 8589934592) : Tot (zq25 x) fun r => 0 ≤ r ∧ r ≤ 64 ∧ (1 ≤ x.v → ((2 ^ r.toNat : Nat) : Int) ≤ 2 * x.v) := by
 unfold zq25
 refine Tot.call (P := fun (r : Int × Int) => 0 ≤ r.1 ∧ r.1 < 4294967296 ∧ (1 ≤ x.v → 1 ≤ r.1) ∧ 0 ≤ r.2 ∧ r.2 ≤ 32 ∧ r.1 * (2 ^ r.2.toNat : Nat) ≤ x.v) (.iteP (fun hc => Tot.chk (by decide) (.ok ?_)) (fun hc => .ok ⟨h0, by dsimp only; omega, fun h => h, Int.le_refl _, by dsimp only; omega, by simp⟩)) fun ⟨x1, v⟩ ⟨p1, p2, p3, p4, p5, p6⟩ => ?_
 ·have e : ((2 ^ 32 : Nat) : Int) = 4294967296 := by decide
  have e2 : x.v.fdiv (2 ^ (min (32 : Int).toNat (IntKind.u64).bits)) = x.v / (2 ^ 32 : Nat) := fdivp h0 32
  simp only [e2]
  exact ⟨by omega, by omega, fun _ => by omega, by omega, by omega, Int.ediv_mul_le _ (by decide)⟩
 dsimp only at p1 p2 p3 p4 p5 p6 ⊢
 refine Tot.call (P := fun (r : Int × Int) => 0 ≤ r.1 ∧ r.1 < 65536 ∧ (1 ≤ x.v → 1 ≤ r.1) ∧ 0 ≤ r.2 ∧ r.2 ≤ 48 ∧ r.1 * (2 ^ r.2.toNat : Nat) ≤ x.v) (.iteP (fun hc => Tot.chk (by decide) (.ok ?_)) (fun hc => .ok ⟨p1, by dsimp only; omega, p3, p4, by dsimp only; omega, p6⟩)) fun ⟨x2, v1⟩ ⟨q1, q2, q3, q4, q5, q6⟩ => ?_
 ·have e : ((2 ^ 16 : Nat) : Int) = 65536 := by decide
  have e2 : x1.fdiv (2 ^ (min (16 : Int).toNat (IntKind.u64).bits)) = x1 / (2 ^ 16 : Nat) := fdivp p1 16
  have e3 : w64 (v + 16) = v + 16 := w64_id (by omega)
  have e4 : (v + 16).toNat = v.toNat + 16 := by omega
  simp only [e2, e3, e4]
  exact ⟨by omega, by omega, fun _ => by omega, by omega, by omega, pow_step p6 p1⟩
 dsimp only at q1 q2 q3 q4 q5 q6 ⊢
 refine Tot.call (P := fun (r : Int × Int) => 0 ≤ r.1 ∧ r.1 < 256 ∧ (1 ≤ x.v → 1 ≤ r.1) ∧ 0 ≤ r.2 ∧ r.2 ≤ 56 ∧ r.1 * (2 ^ r.2.toNat : Nat) ≤ x.v) (.iteP (fun hc => Tot.chk (by decide) (.ok ?_)) (fun hc => .ok ⟨q1, by dsimp only; omega, q3, q4, by dsimp only; omega, q6⟩)) fun ⟨x3, v2⟩ ⟨r1, r2, r3, r4, r5, r6⟩ => ?_
 ·have e : ((2 ^ 8 : Nat) : Int) = 256 := by decide
  have e2 : x2.fdiv (2 ^ (min (8 : Int).toNat (IntKind.u64).bits)) = x2 / (2 ^ 8 : Nat) := fdivp q1 8
  have e3 : w64 (v1 + 8) = v1 + 8 := w64_id (by omega)
  have e4 : (v1 + 8).toNat = v1.toNat + 8 := by omega
  simp only [e2, e3, e4]
  exact ⟨by omega, by omega, fun _ => by omega, by omega, by omega, pow_step q6 q1⟩
 dsimp only at r1 r2 r3 r4 r5 r6 ⊢
 have e8 : IntKind.u8.wrap x3 = x3 := Int.emod_eq_of_lt r1 r2
 rw [e8]
 generalize hs : str _ = S
 have hS : (Nat.beq S.size 256 && (List.range 256).all fun i => Nat.ble (S.data.toList.getD i 0).toNat 8 && (Nat.beq i 0 || Nat.ble (2 ^ (S.data.toList.getD i 0).toNat) (2 * i))) = true := by
  rw [← hs]; kernel_rfl
 clear hs
 simp only [Bool.and_eq_true, List.all_eq_true, List.mem_range, Bool.or_eq_true] at hS
 obtain ⟨s1, s2⟩ := hS
 have s1 := Nat.eq_of_beq_eq_true s1
 obtain ⟨n, rfl⟩ : ∃ n : Nat, x3 = n := ⟨x3.toNat, by omega⟩
 have s2 := s2 n (by omega)
 have t1 := Nat.le_of_ble_eq_true s2.1
 refine Tot.chk (by omega) (.ok ?_)
 rw [Int.toNat_natCast]
 revert t1 s2
 generalize (S.data.toList.getD n 0).toNat = t
 intro s2 t1
 rw [w64_id (x := (t : Int)) (by omega), w64_id (by omega)]
 refine ⟨by omega, by omega, fun hx => ?_⟩
 have e1 : (v2 + (t : Int)).toNat = v2.toNat + t := by omega
 rw [e1, Nat.pow_add, Int.natCast_mul]
 have hn := r3 hx
 have t2 : 2 ^ t ≤ 2 * n := by
  rcases s2.2 with h | h
  ·have := Nat.eq_of_beq_eq_true h; omega
  ·exact Nat.le_of_ble_eq_true h
 have t3 : ((2 ^ v2.toNat : Nat) : Int) * (2 ^ t : Nat) ≤ (2 ^ v2.toNat : Nat) * (2 * n : Nat) := Int.mul_le_mul_of_nonneg_left (by exact_mod_cast t2) (by exact_mod_cast Nat.zero_le _)
 have t4 : ((2 ^ v2.toNat : Nat) : Int) * ((2 * n : Nat) : Int) = 2 * ((n : Int) * (2 ^ v2.toNat : Nat)) := by
  rw [Int.natCast_mul, Int.mul_comm ((2 ^ v2.toNat : Nat) : Int), Int.mul_assoc]; rfl
 omega
theorem len_ok (x : IK .u64) (h0 : 0 ≤ x.v) (h1 : x.v < 8589934592) : Tot (zq24 x) fun r => 0 ≤ r ∧ r ≤ 64 ∧ (1 ≤ x.v → ((2 ^ r.toNat : Nat) : Int) ≤ 2 * x.v) := by
 unfold zq24
 exact Tot.call (len64_ok x h0 h1) fun r hr => .ok hr
theorem u64_id' {n : Int} (h0 : 0 ≤ n) (h1 : n < 18446744073709551616) : IntKind.u64.wrap n = n := by
 show n % 18446744073709551616 = n
 exact Int.emod_eq_of_lt h0 h1
theorem hlp : Pdq.Hlp zq83 zq91 := by
 refine ⟨fun n h1 h2 => ?_, fun x => ?_⟩
 ·unfold zq83
  rw [u64_id' (by omega) (by omega)]
  refine Tot.call (len_ok ⟨n⟩ (by dsimp only; omega) (by dsimp only; omega)) fun r ⟨r1, r2, r3⟩ => Tot.chk r1 (.ok ?_)
  have r3 := r3 (by dsimp only; omega)
  dsimp only at r3 ⊢
  have e : min r.toNat (IntKind.u64).bits = r.toNat := Nat.min_eq_left (by show r.toNat ≤ 64; omega)
  have e2 : (1 : Int) * 2 ^ r.toNat = ((2 ^ r.toNat : Nat) : Int) := by rw [Int.one_mul]; norm_cast
  rw [e, e2]
  have := Nat.two_pow_pos r.toNat
  rw [u64_id' (by omega) (by omega)]
  omega
 ·unfold zq91
  exact Tot.chk (by decide) (Tot.chk (by decide) (Tot.chk (by decide) (.ok trivial)))
noncomputable def c0_int (x y : Int) : Option Int := some (if x < y then -1 else 0)
theorem less_int (x y : Int) : zq0 x y = some (decide (x < y)) := by
 unfold zq0 zq1
 simp
theorem dlt_int (x y : Int) : decide ((if x < y then (-1 : Int) else 0) < 0) = decide (x < y) := by
 by_cases h : x < y <;> simp [h]
theorem insertionSort_L1_int (a : Int) : zq80_L1 a = Pdq.insertionSort_L1 a c0_int := by
 funext ⟨s0, s1⟩
 simp only [zq80_L1, Pdq.insertionSort_L1, c0_int, less_int, dlt_int, qb]
theorem insertionSort_L2_int (a : Int) (b : Int) : zq80_L2 a b = Pdq.insertionSort_L2 a b c0_int := by
 funext ⟨s0, s1⟩
 simp only [zq80_L2, Pdq.insertionSort_L2, insertionSort_L1_int, c0_int, less_int, dlt_int, qb]
theorem insertionSort_int (data : List Int) (a : Int) (b : Int) : zq80 data a b = Pdq.insertionSort data a b c0_int := by
 simp only [zq80, Pdq.insertionSort, insertionSort_L1_int, insertionSort_L2_int, c0_int, less_int, dlt_int, qb]
theorem siftDown_L1_int (hi : Int) (first : Int) : zq90_L1 hi first = Pdq.siftDown_L1 hi first c0_int := by
 funext ⟨s0, s1⟩
 simp only [zq90_L1, Pdq.siftDown_L1, insertionSort_L1_int, insertionSort_L2_int, insertionSort_int, c0_int, less_int, dlt_int, qb]
theorem siftDown_int (data : List Int) (lo : Int) (hi : Int) (first : Int) : zq90 data lo hi first = Pdq.siftDown data lo hi first c0_int := by
 simp only [zq90, Pdq.siftDown, insertionSort_L1_int, insertionSort_L2_int, insertionSort_int, siftDown_L1_int, c0_int, less_int, dlt_int, qb]
theorem heapSort_L1_int (a : Int) (b : Int) : zq79_L1 a b = Pdq.heapSort_L1 a b c0_int := by
 funext ⟨s0, s1⟩
 simp only [zq79_L1, Pdq.heapSort_L1, insertionSort_L1_int, insertionSort_L2_int, insertionSort_int, siftDown_L1_int, siftDown_int, c0_int, less_int, dlt_int, qb]
theorem heapSort_L2_int (a : Int) : zq79_L2 a = Pdq.heapSort_L2 a c0_int := by
 funext ⟨s0, s1⟩
 simp only [zq79_L2, Pdq.heapSort_L2, insertionSort_L1_int, insertionSort_L2_int, insertionSort_int, siftDown_L1_int, siftDown_int, heapSort_L1_int, c0_int, less_int, dlt_int, qb]
theorem heapSort_int (data : List Int) (a : Int) (b : Int) : zq79 data a b = Pdq.heapSort data a b c0_int := by
 simp only [zq79, Pdq.heapSort, insertionSort_L1_int, insertionSort_L2_int, insertionSort_int, siftDown_L1_int, siftDown_int, heapSort_L1_int, heapSort_L2_int, c0_int, less_int, dlt_int, qb]
theorem order2_int (data : List Int) (a : Int) (b : Int) (swaps : Int) : zq84 data a b swaps = Pdq.order2 data a b swaps c0_int := by
 simp only [zq84, Pdq.order2, insertionSort_L1_int, insertionSort_L2_int, insertionSort_int, siftDown_L1_int, siftDown_int, heapSort_L1_int, heapSort_L2_int, heapSort_int, c0_int, less_int, dlt_int, qb]
theorem median_int (data : List Int) (a : Int) (b : Int) (c : Int) (swaps : Int) : zq82 data a b c swaps = Pdq.median data a b c swaps c0_int := by
 simp only [zq82, Pdq.median, insertionSort_L1_int, insertionSort_L2_int, insertionSort_int, siftDown_L1_int, siftDown_int, heapSort_L1_int, heapSort_L2_int, heapSort_int, order2_int, c0_int, less_int, dlt_int, qb]
theorem medianAdjacent_int (data : List Int) (a : Int) (swaps : Int) : zq81 data a swaps = Pdq.medianAdjacent data a swaps c0_int := by
 simp only [zq81, Pdq.medianAdjacent, insertionSort_L1_int, insertionSort_L2_int, insertionSort_int, siftDown_L1_int, siftDown_int, heapSort_L1_int, heapSort_L2_int, heapSort_int, order2_int, median_int, c0_int, less_int, dlt_int, qb]
theorem choosePivot_int (data : List Int) (a : Int) (b : Int) : zq78 data a b = Pdq.choosePivot data a b c0_int := by
 simp only [zq78, Pdq.choosePivot, insertionSort_L1_int, insertionSort_L2_int, insertionSort_int, siftDown_L1_int, siftDown_int, heapSort_L1_int, heapSort_L2_int, heapSort_int, order2_int, median_int, medianAdjacent_int, c0_int, less_int, dlt_int, qb]
theorem reverseRange_L1_int : zq89_L1 = Pdq.reverseRange_L1 := by
 funext ⟨s0, s1, s2⟩
 simp only [zq89_L1, Pdq.reverseRange_L1, insertionSort_L1_int, insertionSort_L2_int, insertionSort_int, siftDown_L1_int, siftDown_int, heapSort_L1_int, heapSort_L2_int, heapSort_int, order2_int, median_int, medianAdjacent_int, choosePivot_int, c0_int, less_int, dlt_int, qb]
theorem reverseRange_int (data : List Int) (a : Int) (b : Int) : zq89 data a b = Pdq.reverseRange data a b c0_int := by
 simp only [zq89, Pdq.reverseRange, insertionSort_L1_int, insertionSort_L2_int, insertionSort_int, siftDown_L1_int, siftDown_int, heapSort_L1_int, heapSort_L2_int, heapSort_int, order2_int, median_int, medianAdjacent_int, choosePivot_int, reverseRange_L1_int, c0_int, less_int, dlt_int, qb]
theorem partialInsertionSort_L1_int (b : Int) (data1 : List Int) : zq85_L1 b data1 = Pdq.partialInsertionSort_L1 b c0_int data1 := by
 funext s0
 simp only [zq85_L1, Pdq.partialInsertionSort_L1, insertionSort_L1_int, insertionSort_L2_int, insertionSort_int, siftDown_L1_int, siftDown_int, heapSort_L1_int, heapSort_L2_int, heapSort_int, order2_int, median_int, medianAdjacent_int, choosePivot_int, reverseRange_L1_int, reverseRange_int, c0_int, less_int, dlt_int, qb]
theorem partialInsertionSort_L2_int : zq85_L2 = Pdq.partialInsertionSort_L2 c0_int := by
 funext ⟨s0, s1⟩
 simp only [zq85_L2, Pdq.partialInsertionSort_L2, insertionSort_L1_int, insertionSort_L2_int, insertionSort_int, siftDown_L1_int, siftDown_int, heapSort_L1_int, heapSort_L2_int, heapSort_int, order2_int, median_int, medianAdjacent_int, choosePivot_int, reverseRange_L1_int, reverseRange_int, partialInsertionSort_L1_int, c0_int, less_int, dlt_int, qb]
theorem partialInsertionSort_L3_int (b : Int) : zq85_L3 b = Pdq.partialInsertionSort_L3 b c0_int := by
 funext ⟨s0, s1⟩
 simp only [zq85_L3, Pdq.partialInsertionSort_L3, insertionSort_L1_int, insertionSort_L2_int, insertionSort_int, siftDown_L1_int, siftDown_int, heapSort_L1_int, heapSort_L2_int, heapSort_int, order2_int, median_int, medianAdjacent_int, choosePivot_int, reverseRange_L1_int, reverseRange_int, partialInsertionSort_L1_int, partialInsertionSort_L2_int, c0_int, less_int, dlt_int, qb]
theorem partialInsertionSort_L4_int (a : Int) (b : Int) : zq85_L4 a b = Pdq.partialInsertionSort_L4 a b c0_int := by
 funext ⟨s0, s1, s2⟩
 simp only [zq85_L4, Pdq.partialInsertionSort_L4, insertionSort_L1_int, insertionSort_L2_int, insertionSort_int, siftDown_L1_int, siftDown_int, heapSort_L1_int, heapSort_L2_int, heapSort_int, order2_int, median_int, medianAdjacent_int, choosePivot_int, reverseRange_L1_int, reverseRange_int, partialInsertionSort_L1_int, partialInsertionSort_L2_int, partialInsertionSort_L3_int, c0_int, less_int, dlt_int, qb]
theorem partialInsertionSort_int (data : List Int) (a : Int) (b : Int) : zq85 data a b = Pdq.partialInsertionSort data a b c0_int := by
 simp only [zq85, Pdq.partialInsertionSort, insertionSort_L1_int, insertionSort_L2_int, insertionSort_int, siftDown_L1_int, siftDown_int, heapSort_L1_int, heapSort_L2_int, heapSort_int, order2_int, median_int, medianAdjacent_int, choosePivot_int, reverseRange_L1_int, reverseRange_int, partialInsertionSort_L1_int, partialInsertionSort_L2_int, partialInsertionSort_L3_int, partialInsertionSort_L4_int, c0_int, less_int, dlt_int, qb]
theorem partitionEqual_L1_int (a : Int) (v1 : Int) (data1 : List Int) : zq86_L1 a v1 data1 = Pdq.partitionEqual_L1 a c0_int v1 data1 := by
 funext s0
 simp only [zq86_L1, Pdq.partitionEqual_L1, insertionSort_L1_int, insertionSort_L2_int, insertionSort_int, siftDown_L1_int, siftDown_int, heapSort_L1_int, heapSort_L2_int, heapSort_int, order2_int, median_int, medianAdjacent_int, choosePivot_int, reverseRange_L1_int, reverseRange_int, partialInsertionSort_L1_int, partialInsertionSort_L2_int, partialInsertionSort_L3_int, partialInsertionSort_L4_int, partialInsertionSort_int, c0_int, less_int, dlt_int, qb]
theorem partitionEqual_L2_int (a : Int) (data1 : List Int) (v4 : Int) : zq86_L2 a data1 v4 = Pdq.partitionEqual_L2 a c0_int data1 v4 := by
 funext s0
 simp only [zq86_L2, Pdq.partitionEqual_L2, insertionSort_L1_int, insertionSort_L2_int, insertionSort_int, siftDown_L1_int, siftDown_int, heapSort_L1_int, heapSort_L2_int, heapSort_int, order2_int, median_int, medianAdjacent_int, choosePivot_int, reverseRange_L1_int, reverseRange_int, partialInsertionSort_L1_int, partialInsertionSort_L2_int, partialInsertionSort_L3_int, partialInsertionSort_L4_int, partialInsertionSort_int, partitionEqual_L1_int, c0_int, less_int, dlt_int, qb]
theorem partitionEqual_L3_int (a : Int) : zq86_L3 a = Pdq.partitionEqual_L3 a c0_int := by
 funext ⟨s0, s1, s2⟩
 simp only [zq86_L3, Pdq.partitionEqual_L3, insertionSort_L1_int, insertionSort_L2_int, insertionSort_int, siftDown_L1_int, siftDown_int, heapSort_L1_int, heapSort_L2_int, heapSort_int, order2_int, median_int, medianAdjacent_int, choosePivot_int, reverseRange_L1_int, reverseRange_int, partialInsertionSort_L1_int, partialInsertionSort_L2_int, partialInsertionSort_L3_int, partialInsertionSort_L4_int, partialInsertionSort_int, partitionEqual_L1_int, partitionEqual_L2_int, c0_int, less_int, dlt_int, qb]
theorem partitionEqual_int (data : List Int) (a : Int) (b : Int) (pivot : Int) : zq86 data a b pivot = Pdq.partitionEqual data a b pivot c0_int := by
 simp only [zq86, Pdq.partitionEqual, insertionSort_L1_int, insertionSort_L2_int, insertionSort_int, siftDown_L1_int, siftDown_int, heapSort_L1_int, heapSort_L2_int, heapSort_int, order2_int, median_int, medianAdjacent_int, choosePivot_int, reverseRange_L1_int, reverseRange_int, partialInsertionSort_L1_int, partialInsertionSort_L2_int, partialInsertionSort_L3_int, partialInsertionSort_L4_int, partialInsertionSort_int, partitionEqual_L1_int, partitionEqual_L2_int, partitionEqual_L3_int, c0_int, less_int, dlt_int, qb]
theorem partition_L1_int (data : List Int) (a : Int) (b : Int) (pivot : Int) (e4 : Int) (e5 : Int) : zq87_L1 data a b pivot e4 e5 = Pdq.partition_L1 data a b pivot c0_int e4 e5 := by
 funext s0
 simp only [zq87_L1, Pdq.partition_L1, insertionSort_L1_int, insertionSort_L2_int, insertionSort_int, siftDown_L1_int, siftDown_int, heapSort_L1_int, heapSort_L2_int, heapSort_int, order2_int, median_int, medianAdjacent_int, choosePivot_int, reverseRange_L1_int, reverseRange_int, partialInsertionSort_L1_int, partialInsertionSort_L2_int, partialInsertionSort_L3_int, partialInsertionSort_L4_int, partialInsertionSort_int, partitionEqual_L1_int, partitionEqual_L2_int, partitionEqual_L3_int, partitionEqual_int, c0_int, less_int, dlt_int, qb]
theorem partition_L2_int (data : List Int) (a : Int) (pivot : Int) (e4 : Int) (e5 : Int) (v2 : Int) : zq87_L2 data a pivot e4 e5 v2 = Pdq.partition_L2 data a pivot c0_int e4 e5 v2 := by
 funext s0
 simp only [zq87_L2, Pdq.partition_L2, insertionSort_L1_int, insertionSort_L2_int, insertionSort_int, siftDown_L1_int, siftDown_int, heapSort_L1_int, heapSort_L2_int, heapSort_int, order2_int, median_int, medianAdjacent_int, choosePivot_int, reverseRange_L1_int, reverseRange_int, partialInsertionSort_L1_int, partialInsertionSort_L2_int, partialInsertionSort_L3_int, partialInsertionSort_L4_int, partialInsertionSort_int, partitionEqual_L1_int, partitionEqual_L2_int, partitionEqual_L3_int, partitionEqual_int, partition_L1_int, c0_int, less_int, dlt_int, qb]
theorem partition_L3_int (a : Int) (v7 : Int) (data1 : List Int) : zq87_L3 a v7 data1 = Pdq.partition_L3 a c0_int v7 data1 := by
 funext s0
 simp only [zq87_L3, Pdq.partition_L3, insertionSort_L1_int, insertionSort_L2_int, insertionSort_int, siftDown_L1_int, siftDown_int, heapSort_L1_int, heapSort_L2_int, heapSort_int, order2_int, median_int, medianAdjacent_int, choosePivot_int, reverseRange_L1_int, reverseRange_int, partialInsertionSort_L1_int, partialInsertionSort_L2_int, partialInsertionSort_L3_int, partialInsertionSort_L4_int, partialInsertionSort_int, partitionEqual_L1_int, partitionEqual_L2_int, partitionEqual_L3_int, partitionEqual_int, partition_L1_int, partition_L2_int, c0_int, less_int, dlt_int, qb]
theorem partition_L4_int (a : Int) (data1 : List Int) (v10 : Int) : zq87_L4 a data1 v10 = Pdq.partition_L4 a c0_int data1 v10 := by
 funext s0
 simp only [zq87_L4, Pdq.partition_L4, insertionSort_L1_int, insertionSort_L2_int, insertionSort_int, siftDown_L1_int, siftDown_int, heapSort_L1_int, heapSort_L2_int, heapSort_int, order2_int, median_int, medianAdjacent_int, choosePivot_int, reverseRange_L1_int, reverseRange_int, partialInsertionSort_L1_int, partialInsertionSort_L2_int, partialInsertionSort_L3_int, partialInsertionSort_L4_int, partialInsertionSort_int, partitionEqual_L1_int, partitionEqual_L2_int, partitionEqual_L3_int, partitionEqual_int, partition_L1_int, partition_L2_int, partition_L3_int, c0_int, less_int, dlt_int, qb]
theorem partition_L5_int (a : Int) : zq87_L5 a = Pdq.partition_L5 a c0_int := by
 funext ⟨s0, s1, s2⟩
 simp only [zq87_L5, Pdq.partition_L5, insertionSort_L1_int, insertionSort_L2_int, insertionSort_int, siftDown_L1_int, siftDown_int, heapSort_L1_int, heapSort_L2_int, heapSort_int, order2_int, median_int, medianAdjacent_int, choosePivot_int, reverseRange_L1_int, reverseRange_int, partialInsertionSort_L1_int, partialInsertionSort_L2_int, partialInsertionSort_L3_int, partialInsertionSort_L4_int, partialInsertionSort_int, partitionEqual_L1_int, partitionEqual_L2_int, partitionEqual_L3_int, partitionEqual_int, partition_L1_int, partition_L2_int, partition_L3_int, partition_L4_int, c0_int, less_int, dlt_int, qb]
theorem partition_int (data : List Int) (a : Int) (b : Int) (pivot : Int) : zq87 data a b pivot = Pdq.partition data a b pivot c0_int := by
 simp only [zq87, Pdq.partition, insertionSort_L1_int, insertionSort_L2_int, insertionSort_int, siftDown_L1_int, siftDown_int, heapSort_L1_int, heapSort_L2_int, heapSort_int, order2_int, median_int, medianAdjacent_int, choosePivot_int, reverseRange_L1_int, reverseRange_int, partialInsertionSort_L1_int, partialInsertionSort_L2_int, partialInsertionSort_L3_int, partialInsertionSort_L4_int, partialInsertionSort_int, partitionEqual_L1_int, partitionEqual_L2_int, partitionEqual_L3_int, partitionEqual_int, partition_L1_int, partition_L2_int, partition_L3_int, partition_L4_int, partition_L5_int, c0_int, less_int, dlt_int, qb]
theorem breakPatterns_L1_int (a : Int) (b : Int) (r : (IK .u64)) : zq77_L1 a b r = Pdq.breakPatterns_L1 zq91 a b r := by
 funext ⟨s0, s1, s2⟩
 simp only [zq77_L1, Pdq.breakPatterns_L1, insertionSort_L1_int, insertionSort_L2_int, insertionSort_int, siftDown_L1_int, siftDown_int, heapSort_L1_int, heapSort_L2_int, heapSort_int, order2_int, median_int, medianAdjacent_int, choosePivot_int, reverseRange_L1_int, reverseRange_int, partialInsertionSort_L1_int, partialInsertionSort_L2_int, partialInsertionSort_L3_int, partialInsertionSort_L4_int, partialInsertionSort_int, partitionEqual_L1_int, partitionEqual_L2_int, partitionEqual_L3_int, partitionEqual_int, partition_L1_int, partition_L2_int, partition_L3_int, partition_L4_int, partition_L5_int, partition_int, c0_int, less_int, dlt_int, qb]
theorem breakPatterns_int (data : List Int) (a : Int) (b : Int) : zq77 data a b = Pdq.breakPatterns zq83 zq91 data a b c0_int := by
 simp only [zq77, Pdq.breakPatterns, insertionSort_L1_int, insertionSort_L2_int, insertionSort_int, siftDown_L1_int, siftDown_int, heapSort_L1_int, heapSort_L2_int, heapSort_int, order2_int, median_int, medianAdjacent_int, choosePivot_int, reverseRange_L1_int, reverseRange_int, partialInsertionSort_L1_int, partialInsertionSort_L2_int, partialInsertionSort_L3_int, partialInsertionSort_L4_int, partialInsertionSort_int, partitionEqual_L1_int, partitionEqual_L2_int, partitionEqual_L3_int, partitionEqual_int, partition_L1_int, partition_L2_int, partition_L3_int, partition_L4_int, partition_L5_int, partition_int, breakPatterns_L1_int, c0_int, less_int, dlt_int, qb]
theorem pdq_L1_int (rec_ : List Int → Int → Int → Int → Option (List Int)) : zq88_L1 rec_ = Pdq.pdq_L1 zq83 zq91 c0_int rec_ := by
 funext ⟨s0, s1, s2, s3, s4, s5⟩
 simp only [zq88_L1, Pdq.pdq_L1, insertionSort_L1_int, insertionSort_L2_int, insertionSort_int, siftDown_L1_int, siftDown_int, heapSort_L1_int, heapSort_L2_int, heapSort_int, order2_int, median_int, medianAdjacent_int, choosePivot_int, reverseRange_L1_int, reverseRange_int, partialInsertionSort_L1_int, partialInsertionSort_L2_int, partialInsertionSort_L3_int, partialInsertionSort_L4_int, partialInsertionSort_int, partitionEqual_L1_int, partitionEqual_L2_int, partitionEqual_L3_int, partitionEqual_int, partition_L1_int, partition_L2_int, partition_L3_int, partition_L4_int, partition_L5_int, partition_int, breakPatterns_L1_int, breakPatterns_int, c0_int, less_int, dlt_int, qb]
theorem pdq_F_int (rec_ : List Int → Int → Int → Int → Option (List Int)) (l : List Int) (a b k : Int) : zq88_F rec_ l a b k = Pdq.pdq_F zq83 zq91 c0_int rec_ l a b k := by
 unfold zq88_F Pdq.pdq_F
 rw [pdq_L1_int]
theorem pdqk_int : ∀ n, zq88_k n = Pdq.pdq_k zq83 zq91 c0_int n
 | 0 => rfl
 | n + 1 => by
  funext l a b k
  show zq88_F (zq88_k n) l a b k = Pdq.pdq_F zq83 zq91 c0_int (Pdq.pdq_k zq83 zq91 c0_int n) l a b k
  rw [pdqk_int n, pdq_F_int]
theorem lt_int : Pdq.Lt c0_int (· ≤ ·) := by
 refine ⟨fun x y => by omega, fun a b => by omega, fun x y => ⟨_, rfl, ?_⟩⟩
 by_cases h : x < y <;> simp [h] <;> omega
theorem sort_int (l : List Int) (h : l.length < 4294967296) : Tot (zq76 l) fun l' => l'.Perm l ∧ l'.Pairwise (· ≤ ·) := by
 unfold zq76
 refine Tot.call (len_ok _ (by dsimp only; rw [u64_id' (by omega) (by omega)]; omega) (by dsimp only; rw [u64_id' (by omega) (by omega)]; omega)) fun r _ => ?_
 unfold zq88
 rw [pdqk_int]
 refine Tot.call (Pdq.pdq_ok lt_int hlp (limit := r) h) fun l' hl' => .ok hl'
def PatP (n : Network) (p : Int) (x : Pattern) : Prop := (0 ≤ x.Line ∧ x.Line < (n.Lines.length : Int)) ∧ 0 ≤ x.Offset ∧ x.Offset ≤ p - 1
def GoodO (n : Network) (p : Int) (l : List Pattern) : Prop := (Good n ∧ (1 ≤ p ∧ p ≤ 60) ∧ 1 ≤ (l.length : Int) ∧ (l.length : Int) ≤ 3) ∧ ∀ (i : Nat) x, l[i]? = some x → PatP n p x
noncomputable instance (n : Network) (p : Int) (l : List Pattern) : Decidable (GoodO n p l) := Classical.propDecidable _
theorem validO_eq {n : Network} (hb : Bd n) {p : Int} (hp : -10 ≤ p ∧ p ≤ 1000) {l : List Pattern} (hl : l.length ≤ 1000) : zq6 n p l = some (decide (GoodO n p l)) := by
 unfold zq6
 simp only [valid_eq n hb, within_eq, qb]
 rw [ite3, qb]
 by_cases hA : Good n ∧ (1 ≤ p ∧ p ≤ 60) ∧ 1 ≤ (l.length : Int) ∧ (l.length : Int) ≤ 3
 ·rw [decide_eq_true hA]
  simp only [Bool.not_true, Bool.false_eq_true, if_false]
  haveI : Decidable (∀ (i : Nat) x, l[i]? = some x → PatP n p x) := Classical.propDecidable _
  rw [flb_dec (P := ∀ (i : Nat) x, l[i]? = some x → PatP n p x) ?_]
  ·congr 1
   exact decide_eq_decide.2 ⟨fun h => ⟨hA, h⟩, fun h => h.2⟩
  refine Tot.iter (fun m (s : Int) => ∃ i : Nat, m + i = l.length ∧ s = (i : Int) ∧ ∀ (j : Nat) x, j < i → l[j]? = some x → PatP n p x) (n := l.length) ⟨0, by omega, rfl, fun j x h => by omega⟩ ?_
  rintro m s ⟨i, hm, rfl, hv⟩
  unfold zq6_L1
  dsimp only
  refine .iteP (fun hlt => ?_) (fun hge => .dn (.inl ⟨rfl, fun j x hx => hv j x (by have := get_lt hx; omega) hx⟩))
  obtain ⟨x, hx⟩ := get_ex (l := l) (i := i) (by omega)
  rw [ixs hx, qb, isLine_eq, qb, within_eq, w64_id (by omega)]
  by_cases h1 : 0 ≤ x.Line ∧ x.Line < (n.Lines.length : Int)
  ·by_cases h2 : 0 ≤ x.Offset ∧ x.Offset ≤ p - 1
   ·simp only [decide_eq_true h1, decide_eq_true h2, Bool.not_true, Bool.false_eq_true, if_false, qb]
    refine .nx ⟨m - 1, by omega, i + 1, by omega, w64_succ (by omega), fun j z hj hz => ?_⟩
    by_cases hji : j = i
    ·subst hji; rw [hx] at hz; cases hz; exact ⟨h1, h2⟩
    ·exact hv j z (by omega) hz
   ·simp only [decide_eq_true h1, decide_eq_false h2, Bool.not_true, Bool.not_false, Bool.false_eq_true, if_false, if_true, qb]
    exact .dn (.inr ⟨rfl, fun h => h2 (h i x hx).2⟩)
  ·simp only [decide_eq_false h1, Bool.not_false, if_true, qb]
   exact .dn (.inr ⟨rfl, fun h => h1 (h i x hx).1⟩)
 ·rw [decide_eq_false hA, decide_eq_false (fun h : GoodO n p l => hA h.1)]
  rfl
theorem l10Good_eq {n : Network} (hb : Bd n) {p : Int} (hp : -10 ≤ p ∧ p ≤ 1000) {l : List Pattern} (hl : l.length ≤ 1000) : zq39 n p l = some (decide (GoodO n p l)) := by
 have hb2 := hb.2.1
 unfold zq39
 simp only [good_eq n hb, l1In_eq, qb]
 rw [ite3, qb]
 by_cases hA : Good n ∧ (1 ≤ p ∧ p ≤ 60) ∧ 1 ≤ (l.length : Int) ∧ (l.length : Int) ≤ 3
 ·rw [decide_eq_true hA]
  simp only [Bool.not_true, Bool.false_eq_true, if_false]
  haveI : Decidable (∀ (i : Nat) x, l[i]? = some x → PatP n p x) := Classical.propDecidable _
  rw [flb_dec (P := ∀ (i : Nat) x, l[i]? = some x → PatP n p x) ?_]
  ·congr 1
   exact decide_eq_decide.2 ⟨fun h => ⟨hA, h⟩, fun h => h.2⟩
  refine Tot.iter (fun m (s : Int) => ∃ i : Nat, m + i = l.length ∧ s = (i : Int) ∧ ∀ (j : Nat) x, j < i → l[j]? = some x → PatP n p x) (n := l.length) ⟨0, by omega, rfl, fun j x h => by omega⟩ ?_
  rintro m s ⟨i, hm, rfl, hv⟩
  unfold zq39_L1
  dsimp only
  refine .iteP (fun hlt => ?_) (fun hge => .dn (.inl ⟨rfl, fun j x hx => hv j x (by have := get_lt hx; omega) hx⟩))
  obtain ⟨x, hx⟩ := get_ex (l := l) (i := i) (by omega)
  rw [ixs hx, qb, l1In_eq, qb, qb, l1In_eq, w64_id (x := p - 1) (by omega), w64_id (x := (n.Lines.length : Int) - 1) (by omega)]
  by_cases h1 : 0 ≤ x.Line ∧ x.Line ≤ (n.Lines.length : Int) - 1
  ·by_cases h2 : 0 ≤ x.Offset ∧ x.Offset ≤ p - 1
   ·simp only [decide_eq_true h1, decide_eq_true h2, Bool.not_true, Bool.false_eq_true, if_false, qb]
    refine .nx ⟨m - 1, by omega, i + 1, by omega, w64_succ (by omega), fun j z hj hz => ?_⟩
    by_cases hji : j = i
    ·subst hji; rw [hx] at hz; cases hz; exact ⟨by omega, h2⟩
    ·exact hv j z (by omega) hz
   ·simp only [decide_eq_true h1, decide_eq_false h2, Bool.not_true, Bool.not_false, Bool.false_eq_true, if_false, if_true, qb]
    exact .dn (.inr ⟨rfl, fun h => h2 (h i x hx).2⟩)
  ·simp only [decide_eq_false h1, Bool.not_false, if_true, qb]
   exact .dn (.inr ⟨rfl, fun h => h1 (by have := (h i x hx).1; omega)⟩)
 ·rw [decide_eq_false hA, decide_eq_false (fun h : GoodO n p l => hA h.1)]
  rfl
def AskO (n : Network) (p : Int) (l : List Pattern) (s : Int) : Prop := GoodO n p l ∧ 0 ≤ s ∧ s < (n.Stops.length : Int)
noncomputable instance (n : Network) (p : Int) (l : List Pattern) (s : Int) : Decidable (AskO n p l s) := Classical.propDecidable _
theorem arePassed_eq {n : Network} (hb : Bd n) {p : Int} (hp : -10 ≤ p ∧ p ≤ 1000) {l : List Pattern} (hl : l.length ≤ 1000) (s : Int) : zq11 n p l s = some (decide (AskO n p l s)) := by
 unfold zq11
 rw [validO_eq hb hp hl, qb, isStop_eq]
 by_cases h1 : GoodO n p l
 ·rw [decide_eq_true h1]
  simp only [if_true, qb]
  congr 1
  exact decide_eq_decide.2 ⟨fun h => ⟨h1, h⟩, fun h => h.2⟩
 ·rw [decide_eq_false h1, decide_eq_false (fun h : AskO n p l s => h1 h.1)]
  rfl
theorem l10Asked_eq {n : Network} (hb : Bd n) {p : Int} (hp : -10 ≤ p ∧ p ≤ 1000) {l : List Pattern} (hl : l.length ≤ 1000) (s : Int) : zq36 n p l s = some (decide (AskO n p l s)) := by
 have hb1 := hb.1
 unfold zq36
 rw [l10Good_eq hb hp hl, qb, l1In_eq, w64_id (by omega)]
 by_cases h1 : GoodO n p l
 ·rw [decide_eq_true h1]
  simp only [if_true, qb]
  congr 1
  exact decide_eq_decide.2 ⟨fun h => ⟨h1, by omega⟩, fun h => by have := h.2; omega⟩
 ·rw [decide_eq_false h1, decide_eq_false (fun h : AskO n p l s => h1 h.1)]
  rfl
theorem patterns_ok {k : Nat} {c : l1Cur} (h : Cur k c) (hk : k ≤ 1000000) {most : Int} (hm : 1 ≤ most ∧ most ≤ 9) : Tot (zq53 c most) fun r => Cur (k + 1300) r.2.2.2 ∧ Bd r.1 ∧ (-10 ≤ r.2.1 ∧ r.2.1 ≤ 1000) ∧ r.2.2.1.length ≤ 30 := by
 unfold zq53
 refine .call (anyNetwork_ok h (by omega)) fun ⟨n, c0⟩ ⟨h0, hB⟩ => .chk ⟨by omega, by omega, by simp; omega⟩ ?_
 dsimp only at h0 hB ⊢
 have hne : ([1, 5, 6, 10, 12, 15, 20, 30, 60] : List Int).take most.toNat ≠ [] := by
  obtain ⟨m, rfl⟩ : ∃ m : Nat, most = ((m + 1 : Nat) : Int) := ⟨(most - 1).toNat, by omega⟩
  simp
 refine .call (t_among _ (by simpa using hne) h0 (by omega)) fun ⟨p, c1⟩ ⟨h1, m1⟩ => ?_
 dsimp only at h1 m1 ⊢
 have hp : 1 ≤ p ∧ p ≤ 60 := by
  have := List.mem_of_mem_take (List.mem_of_mem_drop m1)
  simp at this
  omega
 refine .call (t_pick 3 h1 (by omega)) fun ⟨x, c2⟩ ⟨h2, x0, x1⟩ => ?_
 dsimp only at h2 x0 x1 ⊢
 rw [w64_id (by omega)]
 refine .call (P := fun o => Cur (k + 1030) ⟨o.1, o.2.1, ⟨o.2.2.1⟩⟩ ∧ o.2.2.2.length ≤ 3) (.iter (fun m (s : Int × List UInt8 × Int × Int × List Pattern) => s.1 = (m : Int) ∧ m + s.2.2.2.2.length ≤ 3 ∧ Cur (k + 1004 + 4 * s.2.2.2.2.length) ⟨s.2.1, s.2.2.1, ⟨s.2.2.2.1⟩⟩) (n := (1 + x).toNat) ⟨by show 1 + x = _; omega, by show (1 + x).toNat + 0 ≤ 3; omega, h2.mono (by omega)⟩ ?_) fun ⟨v4, v5, v6, k1⟩ ⟨hc, hk1⟩ => ?_
 ·rintro m ⟨f, v, v1, v2, l⟩ ⟨hf, hm2, hc⟩
  dsimp only at hf hm2 hc
  subst hf
  unfold zq53_L1
  dsimp only
  by_cases hlt : 0 < (m : Int) ∧ 0 < (n.Lines.length : Int)
  ·have e : (if (decide (0 < (m : Int))) = true then some (decide (0 < (n.Lines.length : Int))) else some false) = some true := by rw [if_pos (decide_eq_true hlt.1), decide_eq_true hlt.2]
   rw [e, qb, if_pos rfl]
   refine .call (t_pick _ hc (by omega)) fun r1 ⟨hr1, _⟩ => .call (t_pick _ hr1 (by omega)) fun r2 ⟨hr2, _⟩ => .chk (by simp; omega) (.nx ⟨m - 1, by omega, by show w64 ((m : Int) - 1) = _; rw [w64_id (by omega)]; omega, by show m - 1 + (l ++ _).length ≤ 3; rw [List.length_append, List.length_singleton]; omega, by show Cur (k + 1004 + 4 * (l ++ _).length) _; rw [List.length_append, List.length_singleton]; exact hr2.mono (by omega)⟩)
  ·have e : (if (decide (0 < (m : Int))) = true then some (decide (0 < (n.Lines.length : Int))) else some false) = some false := by
    by_cases h5 : 0 < (m : Int)
    ·rw [if_pos (decide_eq_true h5), decide_eq_false (fun h6 => hlt ⟨h5, h6⟩)]
    ·rw [if_neg (by simpa using h5)]
   rw [e, qb, if_neg (by simp)]
   exact .dn ⟨hc.mono (by omega), by show l.length ≤ 3; omega⟩
 ·dsimp only at hc hk1 ⊢
  refine .ite (fun _ => .ok ⟨hc.mono (by omega), hB, by show -10 ≤ p ∧ p ≤ 1000; omega, by show k1.length ≤ 30; omega⟩) (fun hn => ?_)
  have hpos : 0 < k1.length := by
   have : (k1.length : Int) ≠ 0 := by simpa using hn
   omega
  refine .call (t_pick _ hc (by omega)) fun ⟨i5, c5⟩ ⟨h5, j0, j1⟩ => ?_
  dsimp only at h5 j0 j1 ⊢
  refine .idx j0 (by omega) fun e he => ?_
  refine .call (P := fun o => Cur (k + 1200) ⟨o.2.1, o.2.2.1, ⟨o.2.2.2.1⟩⟩ ∧ (-10 ≤ o.1 ∧ o.1 ≤ 1000) ∧ k1.length ≤ o.2.2.2.2.1.length ∧ o.2.2.2.2.1.length ≤ 30) (.call (t_pick 40 h5 (by omega)) fun ⟨i6, c6⟩ ⟨h6, _⟩ => ?_) fun ⟨k2, v7, v8, v9, k3, v10, v11⟩ ⟨hc3, hp3, hl3, hl4⟩ => ?_
  ·dsimp only at h6 ⊢
   refine .ite (fun _ => .call (t_among _ (by simp) h6 (by omega)) fun r7 ⟨h7, _⟩ => .ok ⟨h7.mono (by omega), by show -10 ≤ p ∧ p ≤ 1000; omega, Nat.le_refl _, by show k1.length ≤ 30; omega⟩) fun _ => .ite (fun _ => .call (t_among _ (by simp) h6 (by omega)) fun r7 ⟨h7, _⟩ => .ok ⟨h7.mono (by omega), by show -10 ≤ p ∧ p ≤ 1000; omega, Nat.le_refl _, by show k1.length ≤ 30; omega⟩) fun _ => .ite (fun _ => .call (t_among _ (by simp) h6 (by omega)) fun r7 ⟨h7, m7⟩ => .ok ⟨h7.mono (by omega), by show -10 ≤ r7.1 ∧ r7.1 ≤ 1000; simp at m7; omega, Nat.le_refl _, by show k1.length ≤ 30; omega⟩) fun _ => .ite (fun _ => ?_) fun _ => .ok ⟨h6.mono (by omega), by show -10 ≤ p ∧ p ≤ 1000; omega, Nat.le_refl _, by show k1.length ≤ 30; omega⟩
   refine .call (P := fun o => Cur (k + 1150) ⟨o.1, o.2.1, ⟨o.2.2.1⟩⟩ ∧ k1.length ≤ o.2.2.2.length ∧ o.2.2.2.length ≤ 30) (.iter (fun m (s : List UInt8 × Int × Int × List Pattern) => m + s.2.2.2.length = 10 ∧ s.2.2.2.length ≤ 4 ∧ k1.length ≤ s.2.2.2.length ∧ Cur (k + 1060 + 2 * s.2.2.2.length) ⟨s.1, s.2.1, ⟨s.2.2.1⟩⟩) (n := 10 - k1.length) ⟨by show 10 - k1.length + k1.length = 10; omega, by show k1.length ≤ 4; omega, Nat.le_refl _, h6.mono (by show _ ≤ k + 1060 + 2 * k1.length; omega)⟩ ?_) fun ⟨a1, a2, a3, k5⟩ ⟨q1, q2, q3⟩ => .ok ⟨q1.mono (by omega), by show -10 ≤ p ∧ p ≤ 1000; omega, q2, q3⟩
   rintro m ⟨w1, w2, w3, k4⟩ ⟨hm4, h4, hge, hc4⟩
   dsimp only at hm4 h4 hge hc4
   unfold zq53_L2
   dsimp only
   refine .call (t_pick 2 hc4 (by omega)) fun r9 ⟨h9, z0, z1⟩ => ?_
   rw [w64_id (by omega)]
   refine .iteP (fun hlt => .chk (by simp; omega) (.nx ⟨m - 1, by omega, by show m - 1 + (k4 ++ _).length = 10; rw [List.length_append, List.length_singleton]; omega, by show (k4 ++ _).length ≤ 4; rw [List.length_append, List.length_singleton]; omega, by show k1.length ≤ (k4 ++ _).length; rw [List.length_append]; omega, by show Cur (k + 1060 + 2 * (k4 ++ _).length) _; rw [List.length_append, List.length_singleton]; exact h9.mono (by omega)⟩)) (fun hge2 => .dn ⟨h9.mono (by omega), hge, by show k4.length ≤ 30; omega⟩)
  ·dsimp only at hc3 hp3 hl3 hl4 ⊢
   exact .idx j0 (by omega) fun e1 _ => .ok ⟨hc3.mono (by omega), hB, hp3, by show (k3.set _ _).length ≤ 30; rw [List.length_set]; exact hl4⟩
theorem stop10_ok {k : Nat} {c : l1Cur} (h : Cur k c) (hk : k ≤ 1000000) {n : Network} (hb : Bd n) {l : List Pattern} (hl : l.length ≤ 1000) : Tot (zq55 c n l) fun r => Cur (k + 20) r.2 := by
 have hb1 := hb.1
 have hb2 := hb.2.1
 unfold zq55
 refine .flb ?_
 have hA : Tot (if (decide (0 < (l.length : Int))) = true then (zq65 n).bind fun r =>
  if r = true then (zq52 c 6).bind fun r1 =>
  some ((!r1.1), r1.2.code_, r1.2.at_, r1.2.seed_.v) else some (false, c.code_, c.at_, c.seed_.v) else some (false, c.code_, c.at_, c.seed_.v)) (fun o => Cur (k + 2) ⟨o.2.1, o.2.2.1, ⟨o.2.2.2⟩⟩ ∧ (o.1 = true → Good n ∧ 0 < l.length)) := by
  rw [good_eq n hb, qb]
  refine .iteP (fun h0 => .iteP (fun hg => .call (t_one 6 h (by omega)) fun r1 h1 => .ok ⟨h1, fun _ => ⟨hg, by omega⟩⟩) fun _ => .ok ⟨h.mono (by omega), fun h => (by cases h)⟩) fun _ => .ok ⟨h.mono (by omega), fun h => (by cases h)⟩
 refine .call hA fun ⟨b, v4, v5, v6⟩ ⟨hc, hg⟩ => ?_
 dsimp only at hc hg ⊢
 have hend : ∀ (a : List UInt8) (b d : Int), Cur (k + 4) ⟨a, b, ⟨d⟩⟩ → Tot ((zq54 (⟨a, b, (⟨d⟩ : IK .u64)⟩ : l1Cur) (w64 ((n.Stops.length : Int) + 1))).bind fun r7 =>
   (zq54 r7.2 12).bind fun r8 => (chk ((11 : Int) ≠ 0)).bind fun u => some ((w64 (r7.1 - (w64 (r8.1.tdiv 11)))), r8.2)) fun r => Cur (k + 20) r.2 := fun a b d hc =>
  .call (t_pick _ hc (by omega)) fun r7 ⟨h7, _⟩ => .call (t_pick _ h7 (by omega)) fun r8 ⟨h8, _⟩ => .chk (by omega) (.ok (h8.mono (by omega)))
 refine .ite (fun hb => ?_) (fun _ => .ok ⟨fun r h => (by cases h), fun u hu => by cases hu; exact hend _ _ _ (hc.mono (by omega))⟩)
 obtain ⟨hg, hpos⟩ := hg hb
 refine .call (t_pick _ hc (by omega)) fun ⟨i, c2⟩ ⟨h2, i0, i1⟩ => ?_
 dsimp only at h2 i0 i1 ⊢
 refine .idx i0 (by omega) fun e he => ?_
 rw [l1In_eq, qb, w64_id (by omega)]
 refine .iteP (fun hin => ?_) (fun _ => .ok ⟨fun r h => (by cases h), fun u hu => by cases hu; exact hend _ _ _ (h2.mono (by omega))⟩)
 obtain ⟨x, hx⟩ := get_ex (l := n.Lines) (i := e.Line.toNat) (by omega)
 have hix : idx n.Lines e.Line = some x := idx_of hin.1 hx
 have hx2 := (hg.2.2.2.2 _ x hx).1
 rw [hix, qb, qb]
 exact .call (t_pick _ h2 (by omega)) fun ⟨j, c5⟩ ⟨h5, j0, j1⟩ => .idx j0 (by dsimp only at j0 j1 ⊢; omega) fun e6 _ => .ok ⟨fun r hr => by cases hr; exact h5.mono (by omega), fun u hu => (by cases hu)⟩
theorem stop10w_ok {k : Nat} {c : l1Cur} (h : Cur k c) (hk : k ≤ 1000000) {n : Network} (hb : Bd n) {l : List Pattern} (hl : l.length ≤ 1000) : Tot (zq56 c n l) fun r => Cur (k + 20) r.2 := stop10_ok h hk hb hl
theorem drawBo_ok (code : List UInt8) : Tot (zq27 code) fun r => Bd r.1 ∧ (-10 ≤ r.2.1 ∧ r.2.1 ≤ 1000) ∧ r.2.2.1.length ≤ 30 := by
 unfold zq27
 refine .call (t_pick 12 (cur0 code) (by omega)) fun r ⟨hr, r0, r1⟩ => .chk (by omega) ?_
 have hq : 0 ≤ r.1.tdiv 11 ∧ r.1.tdiv 11 ≤ 1 := by
  rw [Int.tdiv_eq_ediv_of_nonneg r0]; omega
 rw [w64_id (x := r.1.tdiv 11) (by omega), w64_id (by omega)]
 exact .call (patterns_ok hr (by omega) (by omega)) fun r1 ⟨h1, h2, h3, h4⟩ => .call (stop10w_ok h1 (by omega) h2 (by omega)) fun r3 _ => .ok ⟨h2, h3, h4⟩
theorem l1Most_eq (a b : Int) : zq58 a b = some (if b < a then a else b) := by
 unfold zq58
 by_cases h : b < a <;> simp [h]
theorem drawTw_ok (code : List UInt8) : Tot (zq30 code) fun r => Bd r.1 ∧ (-10 ≤ r.2.1 ∧ r.2.1 ≤ 1000) ∧ r.2.2.1.length ≤ 30 := by
 unfold zq30
 refine .call (patterns_ok (cur0 code) (by omega) (by omega)) fun r ⟨h1, h2, h3, h4⟩ => .call (stop10_ok h1 (by omega) h2 (by omega)) fun r1 hr1 => ?_
 rw [l1Most_eq, qb]
 refine .call (t_pick _ hr1 (by omega)) fun r8 ⟨h8, _⟩ => .call (t_pick _ h8 (by omega)) fun r9 ⟨h9, _⟩ => .call (t_pick _ h9 (by omega)) fun r10 ⟨h10, _⟩ => .chk (by omega) (.call (t_pick 24 h10 (by omega)) fun r11 ⟨h11, a0, a1⟩ => .chk (by omega) ?_)
 have hq : 0 ≤ r11.1.tdiv 11 ∧ r11.1.tdiv 11 ≤ 2 := by
  rw [Int.tdiv_eq_ediv_of_nonneg a0]; omega
 rw [w64_id (x := r11.1.tdiv 11) (by omega), w64_id (x := 5 + r11.1.tdiv 11) (by omega)]
 refine .chk ⟨by omega, by omega, by simp; omega⟩ (.call (t_amongw _ ?_ h11 (by omega)) fun r12 _ => .ok ⟨h2, h3, h4⟩)
 obtain ⟨m, hm⟩ : ∃ m : Nat, (5 + r11.1.tdiv 11).toNat = m + 1 := ⟨(4 + r11.1.tdiv 11).toNat, by omega⟩
 rw [hm]; simp
theorem drawMt_ok (code : List UInt8) : Tot (zq29 code) fun r => Bd r.1 ∧ (-10 ≤ r.2.1 ∧ r.2.1 ≤ 1000) ∧ r.2.2.1.length ≤ 30 := by
 unfold zq29
 refine .call (patterns_ok (cur0 code) (by omega) (by omega)) fun r ⟨h1, h2, h3, h4⟩ => ?_
 rw [l1Most_eq, qb]
 exact .call (t_pick _ h1 (by omega)) fun r8 ⟨h8, _⟩ => .call (t_pick _ h8 (by omega)) fun r9 ⟨h9, _⟩ => .call (t_pick _ h9 (by omega)) fun r10 ⟨h10, _⟩ => .chk (by omega) (.ok ⟨h2, h3, h4⟩)
theorem drawEt_ok (code : List UInt8) : Tot (zq28 code) fun r => (-10 ≤ r.1 ∧ r.1 ≤ 1000) ∧ -10 ≤ r.2 ∧ r.2 ≤ 1000 := by
 unfold zq28
 refine .call (t_pick 24 (cur0 code) (by omega)) fun r ⟨h11, a0, a1⟩ => .chk (by omega) ?_
 have hq : 0 ≤ r.1.tdiv 11 ∧ r.1.tdiv 11 ≤ 2 := by
  rw [Int.tdiv_eq_ediv_of_nonneg a0]; omega
 rw [w64_id (x := r.1.tdiv 11) (by omega), w64_id (x := 5 + r.1.tdiv 11) (by omega)]
 refine .chk ⟨by omega, by omega, by simp; omega⟩ (.call (t_among _ ?_ h11 (by omega)) fun r1 ⟨h1, m1⟩ => ?_)
 ·obtain ⟨m, hm⟩ : ∃ m : Nat, (5 + r.1.tdiv 11).toNat = m + 1 := ⟨(4 + r.1.tdiv 11).toNat, by omega⟩
  rw [hm]; simp
 have hp : 0 ≤ r1.1 ∧ r1.1 ≤ 61 := by
  have := List.mem_of_mem_take (List.mem_of_mem_drop m1)
  simp at this
  omega
 rw [w64_id (by omega)]
 exact .call (t_among _ (by simp) h1 (by omega)) fun r2 ⟨_, m2⟩ => .ok ⟨by simp at m2; omega, by omega⟩
def restO (n : Network) (p : Int) (x : Pattern) (s : Int) : Int := match n.Lines[x.Line.toNat]? with
 | none => -1
 | some l => if fixI (fun e => s == e) l.Stops < 0 then -1 else (x.Offset + (l.Runs.take (fixI (fun e => s == e) l.Stops).toNat).sum).tmod p
theorem rest_both {n : Network} (hb : Bd n) (hg : Good n) {p : Int} (hp : 1 ≤ p ∧ p ≤ 60) {x : Pattern} (hx : PatP n p x) (s : Int) :
  zq21 n p x s = some (restO n p x s) ∧ zq41 n p x s = some (restO n p x s) ∧ -1 ≤ restO n p x s ∧ restO n p x s < p := by
 obtain ⟨hl, ho⟩ := hx
 obtain ⟨l, hl2⟩ := get_ex (l := n.Lines) (i := x.Line.toNat) (by omega)
 have hix : idx n.Lines x.Line = some l := idx_of hl.1 hl2
 have hL := hg.2.2.2.2 _ l hl2
 have hbl := hb.2.2 l (List.mem_of_getElem? hl2)
 unfold zq21 zq41 restO
 rw [hix, qb, qb, index_int_eq _ (by omega), l2Place_eq _ (by omega), qb, qb, hl2]
 dsimp only
 by_cases h : fixI (fun e => s == e) l.Stops < 0
 ·simp only [if_pos h, decide_eq_true h, if_true, true_and]
  omega
 ·obtain ⟨k, e, hk, hke, _⟩ := idx_fix h
  have hkl := get_lt hke
  have hkr : k ≤ l.Runs.length := by have := hL.2.1; omega
  have hrun : ∀ r ∈ l.Runs, 0 ≤ r ∧ r ≤ 60 := fun r hr => by
   obtain ⟨i, hi⟩ := List.getElem?_of_mem hr
   have := hL.2.2.2 i r hi
   omega
  have hs := sum_bd (l := l.Runs.take k) (M := 60) fun y hy => hrun y (List.mem_of_mem_take hy)
  have hsl : ((l.Runs.take k).length : Int) ≤ 6 := by rw [List.length_take]; have := hL.1; omega
  have h2 : ¬ ((k : Nat) : Int) < 0 := by omega
  rw [hk]
  simp only [if_neg h2, decide_eq_false h2, Bool.false_eq_true, if_false, qb, Int.toNat_natCast]
  rw [chk_of (show (0 : Int) ≤ 0 ∧ (0 : Int) ≤ (k : Int) ∧ (k : Int) ≤ (l.Runs.length : Int) by omega), qb, chk_of (show p ≠ 0 by omega)]
  have e0 : (l.Runs.take k).drop (0 : Int).toNat = l.Runs.take k := by simp
  have e1 := l2Run_eq l 0 k (by omega) hkr (by omega) fun r hr => by have := hrun r hr; omega
  rw [e0, total_eq _ (by rw [List.length_take]; omega) (fun y hy => by have := hrun y (List.mem_of_mem_take hy); omega)]
  have e1' : zq72 l 0 (k : Int) = some (l.Runs.take k).sum := by
   have := e1
   rw [show ((0 : Nat) : Int) = 0 from rfl] at this
   rw [this]; simp
  rw [e1']
  simp only [qb]
  rw [w64_id (by omega)]
  have := tmod_rng (a := x.Offset + (l.Runs.take k).sum) (b := p) (by omega) (by omega)
  exact ⟨rfl, rfl, by omega, this.2⟩
def valO (n : Network) (p : Int) (l : List Pattern) (s : Int) : List Int := (l.map fun x => restO n p x s).filter fun r => decide (0 ≤ r)
theorem valO_take {n : Network} {p : Int} {l : List Pattern} {s : Int} {i : Nat} {x : Pattern} (h : l[i]? = some x) : valO n p (l.take (i + 1)) s = valO n p (l.take i) s ++ (if 0 ≤ restO n p x s then [restO n p x s] else []) := by
 unfold valO
 rw [take_succ h, List.map_append, List.filter_append]
 congr 1
 by_cases h0 : 0 ≤ restO n p x s
 ·simp [h0]
 ·simp [h0]
theorem valO_len (n : Network) (p : Int) (l : List Pattern) (s : Int) : (valO n p l s).length ≤ l.length := by
 unfold valO
 exact Nat.le_trans (List.length_filter_le _ _) (by rw [List.length_map]; exact Nat.le_refl _)
theorem asc_ins {l : List Int} (h : l.Pairwise (· ≤ ·)) {x : Int} {k : Nat} (h1 : ∀ y ∈ l.take k, y ≤ x) (h2 : ∀ y ∈ l.drop k, x ≤ y) : (l.take k ++ [x] ++ l.drop k).Pairwise (· ≤ ·) ∧ (l.take k ++ [x] ++ l.drop k).Perm (l ++ [x]) := by
 constructor
 ·rw [List.append_assoc]
  refine List.pairwise_append.2 ⟨h.sublist (List.take_sublist _ _), ?_, fun a ha b hb => ?_⟩
  ·exact List.pairwise_cons.2 ⟨h2, h.sublist (List.drop_sublist _ _)⟩
  ·rcases List.mem_cons.1 hb with rfl | hb
   ·exact h1 a ha
   ·exact Int.le_trans (h1 a ha) (h2 b hb)
 ·have e : l.take k ++ l.drop k = l := List.take_append_drop k l
  have : (l.take k ++ [x] ++ l.drop k).Perm (l.take k ++ l.drop k ++ [x]) := by
   rw [List.append_assoc, List.append_assoc]
   exact List.Perm.append_left _ List.perm_append_comm
  rwa [e] at this
theorem pwO {l : List Int} (h : l.Pairwise (· ≤ ·)) {i j : Nat} {a b : Int} (hij : i < j) (ha : l[i]? = some a) (hb : l[j]? = some b) : a ≤ b := by
 obtain ⟨h1, rfl⟩ := List.getElem?_eq_some_iff.1 ha
 obtain ⟨h2, rfl⟩ := List.getElem?_eq_some_iff.1 hb
 exact List.pairwise_iff_getElem.1 h i j h1 h2 hij
theorem insO_ok {l : List Int} (hs : l.Pairwise (· ≤ ·)) (hl : l.length ≤ 1000) (x : Int) : Tot (iter (zq42_L1 l x) (l.length : Int)) fun v => ∃ k : Nat, v = (k : Int) ∧ k ≤ l.length ∧ (∀ y ∈ l.take k, y ≤ x) ∧ ∀ y ∈ l.drop k, x ≤ y := by
 refine Tot.iter (fun m (s : Int) => s = (m : Int) ∧ m ≤ l.length ∧ ∀ y ∈ l.drop m, x ≤ y) (n := l.length) ⟨rfl, Nat.le_refl _, by simp⟩ ?_
 rintro m s ⟨rfl, hm, hd⟩
 unfold zq42_L1
 dsimp only
 by_cases h0 : 0 < (m : Int)
 ·obtain ⟨k, rfl⟩ : ∃ k, m = k + 1 := ⟨m - 1, by omega⟩
  obtain ⟨y, hy⟩ := get_ex (l := l) (i := k) (by omega)
  rw [if_pos (decide_eq_true h0), w64_pred (by omega), ixs hy, qb, qb]
  refine .iteP (fun hc => .nx ⟨k, by omega, rfl, by omega, fun z hz => ?_⟩) (fun hc => .dn ⟨k + 1, rfl, hm, fun z hz => ?_, hd⟩)
  ·rw [List.drop_eq_getElem_cons (by omega)] at hz
   rcases List.mem_cons.1 hz with rfl | hz
   ·have := (List.getElem?_eq_some_iff.1 hy).2
    omega
   ·exact hd z hz
  ·obtain ⟨j, hj⟩ := List.getElem?_of_mem hz
   have hjl := get_lt hj
   rw [List.length_take] at hjl
   rw [List.getElem?_take_of_lt (by omega)] at hj
   by_cases hjk : j = k
   ·subst hjk; rw [hy] at hj; cases hj; omega
   ·have := pwO hs (by omega : j < k) hj hy
    omega
 ·have : m = 0 := by omega
  subst this
  rw [if_neg (by simp), qb, if_neg (by simp)]
  exact .dn ⟨0, rfl, by omega, by simp, hd⟩
theorem rests_both {n : Network} (hb : Bd n) (hg : Good n) {p : Int} (hp : 1 ≤ p ∧ p ≤ 60) {l : List Pattern} (hl : l.length ≤ 3) (hv : ∀ (i : Nat) x, l[i]? = some x → PatP n p x) (s : Int) :
  ∃ R, zq20 n p l s = some R ∧ zq42 n p l s = some R ∧ R.Pairwise (· ≤ ·) ∧ R.Perm (valO n p l s) := by
 have h1 : Tot (zq42 n p l s) fun R => R.Pairwise (· ≤ ·) ∧ R.Perm (valO n p l s) := by
  unfold zq42
  refine .call (P := fun R => R.Pairwise (· ≤ ·) ∧ R.Perm (valO n p l s)) (.iter (fun m (st : Int × List Int) => ∃ i : Nat, m + i = l.length ∧ st.1 = (i : Int) ∧ st.2.Pairwise (· ≤ ·) ∧ st.2.Perm (valO n p (l.take i) s)) (n := l.length) ⟨0, by omega, rfl, List.Pairwise.nil, by show ([] : List Int).Perm (valO n p (l.take 0) s); unfold valO; simp⟩ ?_) fun R h => .ok h
  rintro m ⟨v, a⟩ ⟨i, hm, hv1, hs, hpm⟩
  dsimp only at hv1 hs hpm
  subst hv1
  unfold zq42_L2
  dsimp only
  refine .iteP (fun hlt => ?_) (fun hge => .dn ?_)
  ·obtain ⟨x, hx⟩ := get_ex (l := l) (i := i) (by omega)
   obtain ⟨_, q2, q3, q4⟩ := rest_both hb hg hp (hv i x hx) s
   have hal : a.length ≤ 3 := by
    rw [hpm.length_eq]
    exact Nat.le_trans (valO_len _ _ _ _) (by rw [List.length_take]; omega)
   refine .call (P := fun a' => a'.Pairwise (· ≤ ·) ∧ a'.Perm (valO n p (l.take (i + 1)) s)) ?_ fun a' h' => .nx ⟨m - 1, by omega, i + 1, by omega, w64_succ (by omega), h'⟩
   rw [ixs hx, qb, q2, qb, valO_take hx]
   refine .iteP (fun hn => .ok ⟨hs, by rw [if_neg (by omega), List.append_nil]; exact hpm⟩) (fun hn => ?_)
   refine .call (insO_ok hs (by omega) _) fun v5 ⟨k, hk, hkl, c1, c2⟩ => ?_
   subst hk
   have e0 : (a.take k).drop (0 : Int).toNat = a.take k := by simp
   have e1 : ([] : List Int) ++ (a.take k) = a.take k := rfl
   rw [Int.toNat_natCast, e0, e1]
   refine .chk ⟨by omega, by omega, by omega⟩ (.chk (by simp; omega) (.chk (by simp; omega) (.chk ⟨by omega, by omega⟩ (.chk (by simp; omega) (.ok ?_)))))
   obtain ⟨r1, r2⟩ := asc_ins hs c1 c2
   refine ⟨r1, r2.trans ?_⟩
   rw [if_pos (by omega)]
   exact hpm.append_right _
  ·rw [List.take_of_length_le (by omega)] at hpm
   exact ⟨hs, hpm⟩
 obtain ⟨R, g1, g2, g3⟩ := h1
 refine ⟨R, ?_, g1, g2, g3⟩
 unfold zq20
 have h2 : iter (zq20_L1 n p l s) ((0 : Int), ([] : List Int)) = some (valO n p l s) := by
  refine Tot.val (Tot.iter (fun m (st : Int × List Int) => ∃ i : Nat, m + i = l.length ∧ st.1 = (i : Int) ∧ st.2 = valO n p (l.take i) s) (n := l.length) ⟨0, by omega, rfl, by show ([] : List Int) = valO n p (l.take 0) s; unfold valO; simp⟩ ?_)
  rintro m ⟨v, a⟩ ⟨i, hm, hv1, ha⟩
  dsimp only at hv1 ha
  subst hv1; subst ha
  unfold zq20_L1
  dsimp only
  refine .iteP (fun hlt => ?_) (fun hge => .dn (by rw [List.take_of_length_le (by omega)]))
  obtain ⟨x, hx⟩ := get_ex (l := l) (i := i) (by omega)
  obtain ⟨q1, _, q3, q4⟩ := rest_both hb hg hp (hv i x hx) s
  refine .call (P := fun a' => a' = valO n p (l.take (i + 1)) s) ?_ fun a' h' => .nx ⟨m - 1, by omega, i + 1, by omega, w64_succ (by omega), h'⟩
  have hal := valO_len n p (l.take i) s
  rw [List.length_take] at hal
  rw [ixs hx, qb, q1, qb, valO_take hx]
  refine .iteP (fun hn => .chk (by rw [List.length_singleton]; omega) (.ok (by rw [if_pos hn]))) (fun hn => .ok (by rw [if_neg hn, List.append_nil]))
 rw [h2, qb]
 obtain ⟨R', k1, k2, k3⟩ := sort_int (valO n p l s) (by have := valO_len n p l s; omega)
 rw [k1, qb]
 exact congrArg some (List.Perm.eq_of_pairwise (le := (· ≤ ·)) (fun a b _ _ h3 h4 => by omega) k3 g2 (k2.trans g3.symm))
theorem valO_rng {n : Network} (hb : Bd n) (hg : Good n) {p : Int} (hp : 1 ≤ p ∧ p ≤ 60) {l : List Pattern} (hv : ∀ (i : Nat) x, l[i]? = some x → PatP n p x) (s : Int) : ∀ y ∈ valO n p l s, 0 ≤ y ∧ y < p := by
 intro y hy
 unfold valO at hy
 obtain ⟨h1, h2⟩ := List.mem_filter.1 hy
 obtain ⟨x, hx, rfl⟩ := List.mem_map.1 h1
 obtain ⟨i, hi⟩ := List.getElem?_of_mem hx
 exact ⟨of_decide_eq_true h2, (rest_both hb hg hp (hv i x hi) s).2.2.2⟩
def gapO (R : List Int) (p : Int) (i : Nat) : Int := (if i + 1 < R.length then R.getD (i + 1) 0 else R.getD 0 0 + p) - R.getD i 0
def gapsO (R : List Int) (p : Int) : List Int := (List.range R.length).map (gapO R p)
theorem gapsO_len (R : List Int) (p : Int) : (gapsO R p).length = R.length := by unfold gapsO; simp
theorem gapsO_at {R : List Int} {p : Int} {i : Nat} (h : i < R.length) : (gapsO R p)[i]? = some (gapO R p i) := by
 unfold gapsO
 rw [List.getElem?_map, List.getElem?_range h]; rfl
def RB (R : List Int) (p : Int) : Prop := R.length ≤ 1000 ∧ (1 ≤ p ∧ p ≤ 60) ∧ R.Pairwise (· ≤ ·) ∧ ∀ y ∈ R, 0 ≤ y ∧ y < p
theorem gapO_rng {R : List Int} {p : Int} (h : RB R p) {i : Nat} (hi : i < R.length) : 0 ≤ gapO R p i ∧ gapO R p i ≤ p := by
 obtain ⟨h1, h2, h3, h4⟩ := h
 obtain ⟨x, hx⟩ := get_ex hi
 obtain ⟨y, hy⟩ := get_ex (l := R) (i := 0) (by omega)
 have bx := h4 x (List.mem_of_getElem? hx)
 have b0 := h4 y (List.mem_of_getElem? hy)
 unfold gapO
 rw [getD_of hx, getD_of hy]
 by_cases hlt : i + 1 < R.length
 ·obtain ⟨z, hz⟩ := get_ex hlt
  have bz := h4 z (List.mem_of_getElem? hz)
  have := pwO h3 (by omega : i < i + 1) hx hz
  rw [if_pos hlt, getD_of hz]; omega
 ·rw [if_neg hlt]
  by_cases h0 : i = 0
  ·subst h0; rw [hx] at hy; cases hy; omega
  ·have := pwO h3 (by omega : 0 < i) hy hx
   omega
theorem igaps_eq {R : List Int} {p : Int} (h : RB R p) : zq12 R p = some (gapsO R p) := by
 obtain ⟨h1, h2, h3, h4⟩ := h
 unfold zq12
 refine Tot.val (.chk ⟨by omega, by omega⟩ (.call (P := fun r => r = gapsO R p) (.iter (fun m (st : Int × List Int) => ∃ i : Nat, m + i = R.length ∧ st.1 = (i : Int) ∧ st.2.length = R.length ∧ ∀ j, j < i → st.2[j]? = some (gapO R p j)) (n := R.length) ⟨0, by omega, rfl, by simp, fun j hj => by omega⟩ ?_) fun r h => .ok h))
 rintro m ⟨v, a⟩ ⟨i, hm, hv1, hal, ha⟩
 dsimp only at hv1 hal ha
 subst hv1
 unfold zq12_L1
 dsimp only
 refine .iteP (fun hlt => ?_) (fun hge => .dn ?_)
 ·obtain ⟨x, hx⟩ := get_ex (l := R) (i := i) (by omega)
  obtain ⟨y, hy⟩ := get_ex (l := R) (i := 0) (by omega)
  obtain ⟨g, hgi⟩ := get_ex (l := a) (i := i) (by omega)
  have bx := h4 x (List.mem_of_getElem? hx)
  have b0 := h4 y (List.mem_of_getElem? hy)
  refine .call (P := fun a' => a' = a.set i (gapO R p i)) ?_ fun a' h' => ?_
  ·rw [ixs hx, qb, w64_succ (by omega), idx0]
   unfold gapO
   rw [getD_of hx, getD_of hy]
   refine .iteP (fun hl2 => ?_) (fun hl2 => ?_)
   ·obtain ⟨z, hz⟩ := get_ex (l := R) (i := i + 1) (by omega)
    have bz := h4 z (List.mem_of_getElem? hz)
    rw [ixs hz, qb, ixs hgi, qb, if_pos (by omega), getD_of hz, w64_id (by omega)]
    exact .ok (by rw [Int.toNat_natCast])
   ·rw [hy, qb, ixs hgi, qb, if_neg (by omega), w64_id (x := y + p) (by omega), w64_id (by omega)]
    exact .ok (by rw [Int.toNat_natCast])
  ·subst h'
   refine .nx ⟨m - 1, by omega, i + 1, by omega, w64_succ (by omega), by show (a.set i _).length = _; rw [List.length_set]; exact hal, fun j hj => ?_⟩
   show (a.set i _)[j]? = _
   by_cases hji : j = i
   ·subst hji; rw [List.getElem?_set_self (by omega)]
   ·rw [List.getElem?_set_ne (Ne.symm hji)]; exact ha j (by omega)
 ·refine List.ext_getElem? fun j => ?_
  by_cases hj : j < R.length
  ·rw [ha j (by omega), gapsO_at hj]
  ·rw [List.getElem?_eq_none (by omega), List.getElem?_eq_none (by rw [gapsO_len]; omega)]
theorem sgaps_eq {R : List Int} {p : Int} (h : RB R p) : zq38 R p = some (gapsO R p) := by
 obtain ⟨h1, h2, h3, h4⟩ := h
 unfold zq38
 refine Tot.val (.call (P := fun r => r = gapsO R p) (.iter (fun m (st : Int × List Int) => ∃ i : Nat, m + i = R.length ∧ st.1 = (i : Int) ∧ st.2 = (gapsO R p).take i) (n := R.length) ⟨0, by omega, rfl, by simp⟩ ?_) fun r h => .ok h)
 rintro m ⟨v, a⟩ ⟨i, hm, hv1, ha⟩
 dsimp only at hv1 ha
 subst hv1; subst ha
 unfold zq38_L1
 dsimp only
 refine .iteP (fun hlt => ?_) (fun hge => .dn (by rw [List.take_of_length_le (by rw [gapsO_len]; omega)]))
 obtain ⟨x, hx⟩ := get_ex (l := R) (i := i) (by omega)
 obtain ⟨y, hy⟩ := get_ex (l := R) (i := 0) (by omega)
 have bx := h4 x (List.mem_of_getElem? hx)
 have b0 := h4 y (List.mem_of_getElem? hy)
 rw [idx0, hy, qb, w64_succ (by omega), w64_id (x := y + p) (by omega)]
 refine .call (P := fun z => z - x = gapO R p i ∧ 0 ≤ z ∧ z ≤ 200) ?_ fun z ⟨hz, z0, z1⟩ => ?_
 ·unfold gapO
  rw [getD_of hx, getD_of hy]
  refine .iteP (fun hl2 => ?_) (fun hl2 => ?_)
  ·obtain ⟨z, hz⟩ := get_ex (l := R) (i := i + 1) (by omega)
   have bz := h4 z (List.mem_of_getElem? hz)
   rw [ixs hz, qb, if_pos (by omega), getD_of hz]
   exact .ok ⟨rfl, by omega, by omega⟩
  ·rw [if_neg (by omega)]
   exact .ok ⟨rfl, by omega, by omega⟩
 ·rw [ixs hx, qb, w64_id (by omega), hz]
  exact .chk (by rw [List.length_take, List.length_singleton]; omega) (.nx ⟨m - 1, by omega, i + 1, by omega, rfl, by rw [take_succ (gapsO_at (by omega))]⟩)
theorem largest_both {R : List Int} {p : Int} (h : RB R p) (hne : R ≠ []) : ∃ (g x : Int) (b : Nat), zq18 R p = some (g, x) ∧ zq40 (gapsO R p) = some (g, (b : Int)) ∧ R[b]? = some x ∧ 0 ≤ g ∧ g ≤ p := by
 have hpos : 0 < R.length := List.length_pos_iff.2 hne
 have h1 := h.1
 unfold zq18 zq40
 rw [igaps_eq h, qb]
 obtain ⟨x0, hx0⟩ := get_ex hpos
 have g0 := gapO_rng h hpos
 have first : zq18_L1 R (gapsO R p) (((-1) : Int), (0 : Int), (0 : Int)) = some (.nx (gapO R p 0, x0, (1 : Int))) := by
  unfold zq18_L1
  dsimp only
  rw [if_pos (by rw [gapsO_len, decide_eq_true_eq]; omega), idx0, gapsO_at hpos, qb, if_pos (by rw [decide_eq_true_eq]; omega), idx0, hx0]
  rfl
 rw [iter_nx first]
 have key : ∃ (r : Int × Int) (b' : Int), iter (zq18_L1 R (gapsO R p)) (gapO R p 0, x0, (1 : Int)) = some r ∧ iter (zq40_L1 (gapsO R p)) ((0 : Int), (1 : Int)) = some b' ∧ ∃ b : Nat, b' = (b : Int) ∧ r.1 = gapO R p b ∧ R[b]? = some r.2 ∧ b < R.length := by
  refine iter2 (step := zq18_L1 R (gapsO R p)) (step' := zq40_L1 (gapsO R p))
   (fun m (s : Int × Int × Int) (s' : Int × Int) => ∃ i b : Nat, m + i = R.length ∧ s.2.2 = (i : Int) ∧ s' = ((b : Int), (i : Int)) ∧ b < R.length ∧ s.1 = gapO R p b ∧ R[b]? = some s.2.1)
   (fun r b' => ∃ b : Nat, b' = (b : Int) ∧ r.1 = gapO R p b ∧ R[b]? = some r.2 ∧ b < R.length) ?_ (k := R.length - 1) (a := (gapO R p 0, x0, (1 : Int))) (a' := ((0 : Int), (1 : Int))) ⟨1, 0, by omega, rfl, rfl, hpos, rfl, hx0⟩
  rintro m ⟨g, x, v⟩ ⟨b', v'⟩ ⟨i, b, hm, hv1, hb', hbl, hg, hx⟩
  dsimp only at hv1 hg hx
  cases hb'
  subst hv1; subst hg
  unfold zq18_L1 zq40_L1
  dsimp only
  by_cases hlt : i < R.length
  ·left
   obtain ⟨z, hz⟩ := get_ex hlt
   rw [if_pos (by rw [gapsO_len, decide_eq_true_eq]; omega), if_pos (by rw [gapsO_len, decide_eq_true_eq]; omega), ixs (gapsO_at hlt), ixs (gapsO_at hbl), qb, qb, qb]
   by_cases hc : gapO R p b < gapO R p i
   ·rw [if_pos (decide_eq_true hc), if_pos (decide_eq_true hc), ixs hz]
    exact ⟨_, _, m - 1, rfl, rfl, by omega, i + 1, i, by omega, w64_succ (by omega), by rw [w64_succ (by omega)], hlt, rfl, hz⟩
   ·rw [if_neg (by simpa using hc), if_neg (by simpa using hc)]
    exact ⟨_, _, m - 1, rfl, rfl, by omega, i + 1, b, by omega, w64_succ (by omega), by rw [w64_succ (by omega)], hbl, rfl, hx⟩
  ·right
   rw [if_neg (by rw [gapsO_len, decide_eq_true_eq]; omega), if_neg (by rw [gapsO_len, decide_eq_true_eq]; omega)]
   exact ⟨_, _, rfl, rfl, b, rfl, rfl, hx, hbl⟩
 obtain ⟨⟨g, x⟩, b', e1, e2, b, q0, q1, q2, q3⟩ := key
 dsimp only at q1 q2
 subst q0; subst q1
 rw [e1, e2]
 refine ⟨gapO R p b, x, b, rfl, ?_, q2, gapO_rng h q3⟩
 rw [qb, ixs (gapsO_at q3)]; rfl
def Srv (n : Network) (s ln : Int) : Prop := ∃ l, n.Lines[ln.toNat]? = some l ∧ ¬ fixI (fun e => s == e) l.Stops < 0
theorem srv_iff {n : Network} (hb : Bd n) (hg : Good n) {p : Int} (hp : 1 ≤ p ∧ p ≤ 60) {x : Pattern} (hx : PatP n p x) (s : Int) : 0 ≤ restO n p x s ↔ Srv n s x.Line := by
 obtain ⟨l, hl⟩ := get_ex (l := n.Lines) (i := x.Line.toNat) (by have := hx.1; omega)
 have hL := hg.2.2.2.2 _ l hl
 unfold restO Srv
 rw [hl]
 dsimp only
 constructor
 ·intro h
  refine ⟨l, rfl, fun hf => ?_⟩
  rw [if_pos hf] at h; omega
 ·rintro ⟨l', e, hf⟩
  cases e
  rw [if_neg hf]
  have hs := sum_nonneg (l := l.Runs.take (fixI (fun e => s == e) l.Stops).toNat) fun r hr => by
   obtain ⟨i, hi⟩ := List.getElem?_of_mem (List.mem_of_mem_take hr)
   have := hL.2.2.2 i r hi
   omega
  exact (tmod_rng (by have := hx.2; omega) (by omega)).1
def putO (c : List Pattern) (i : Nat) (d : List Int) : List Pattern := c.take i ++ List.zipWith (fun ln v => (⟨ln, v⟩ : Pattern)) ((c.map (·.Line)).drop i) d
def digO (P : Nat) : Nat → List (List Int)
 | 0 => [[]]
 | k + 1 => (List.range P).flatMap fun (v : Nat) => (digO P k).map fun e => (v : Int) :: e
def offO (c : List Pattern) : List Int := c.map (·.Offset)
def updO (F : List Pattern → Int) (st : List Int × Int) (c : List Pattern) : List Int × Int := if st.1 = [] ∨ F c < st.2 then (offO c, F c) else st
noncomputable def gO (n : Network) (p s : Int) (l : List Pattern) : Int := match zq20 n p l s with
 | some R => (match zq18 R p with
  | some r => r.1
  | none => 0)
 | none => 0
def TryO (n : Network) (p s : Int) (l : List Pattern) : Prop := l.length ≤ 3 ∧ 1 ≤ l.length ∧ (∀ (i : Nat) x, l[i]? = some x → PatP n p x) ∧ ∃ x ∈ l, Srv n s x.Line
theorem lg_both {n : Network} (hb : Bd n) (hg : Good n) {p : Int} (hp : 1 ≤ p ∧ p ≤ 60) {s : Int} {l : List Pattern} (h : TryO n p s l) :
  ∃ (R : List Int) (x : Int) (b : Nat), zq20 n p l s = some R ∧ zq42 n p l s = some R ∧ zq18 R p = some (gO n p s l, x) ∧ zq38 R p = some (gapsO R p) ∧ zq40 (gapsO R p) = some (gO n p s l, (b : Int)) ∧ R[b]? = some x ∧ 0 ≤ gO n p s l ∧ gO n p s l ≤ p ∧ 0 < R.length ∧ R.length ≤ 3 := by
 obtain ⟨h1, h2, h3, y, hy, hs⟩ := h
 obtain ⟨R, r1, r2, r3, r4⟩ := rests_both hb hg hp h1 h3 s
 obtain ⟨i, hi⟩ := List.getElem?_of_mem hy
 have hne : R ≠ [] := by
  rintro rfl
  have : restO n p y s ∈ valO n p l s := by
   unfold valO
   exact List.mem_filter.2 ⟨List.mem_map.2 ⟨y, hy, rfl⟩, decide_eq_true ((srv_iff hb hg hp (h3 i y hi) s).2 hs)⟩
  have := r4.symm.mem_iff.1 this
  cases this
 have hlen : R.length ≤ 3 := by rw [r4.length_eq]; exact Nat.le_trans (valO_len _ _ _ _) h1
 have hRB : RB R p := ⟨by omega, hp, r3, fun y hy => valO_rng hb hg hp h3 s y (r4.mem_iff.1 hy)⟩
 obtain ⟨g, x, b, q1, q2, q3, q4, q5⟩ := largest_both hRB hne
 have e : gO n p s l = g := by unfold gO; rw [r1]; dsimp only; rw [q1]
 rw [e]
 exact ⟨R, x, b, r1, r2, q1, sgaps_eq hRB, q2, q3, q4, q5, List.length_pos_iff.2 hne, hlen⟩
def SameO (i : Nat) (c c' : List Pattern) : Prop := c'.map (·.Line) = c.map (·.Line) ∧ c'.take i = c.take i
theorem SameO.len {i : Nat} {c c' : List Pattern} (h : SameO i c c') : c'.length = c.length := by
 have := congrArg List.length h.1
 simpa using this
theorem putO_same {i : Nat} {c c' : List Pattern} (h : SameO i c c') (d : List Int) : putO c' i d = putO c i d := by
 unfold putO; rw [h.1, h.2]
theorem same_set {i : Nat} {c : List Pattern} {x : Pattern} (hx : c[i]? = some x) (v : Int) : SameO i c (c.set i ⟨x.Line, v⟩) := by
 constructor
 ·refine List.ext_getElem? fun j => ?_
  rw [List.getElem?_map, List.getElem?_map]
  by_cases hj : j = i
  ·subst hj; rw [List.getElem?_set_self (get_lt hx), hx]; rfl
  ·rw [List.getElem?_set_ne (Ne.symm hj)]
 ·rw [List.take_set_of_le (Nat.le_refl _)]
theorem putO_cons {i : Nat} {c : List Pattern} {x : Pattern} (hx : c[i]? = some x) (v : Int) (d : List Int) : putO (c.set i ⟨x.Line, v⟩) (i + 1) d = putO c i (v :: d) := by
 have hs := same_set hx v
 unfold putO
 rw [hs.1, take_succ (set_at hx), hs.2]
 have hd : (c.map (·.Line)).drop i = x.Line :: (c.map (·.Line)).drop (i + 1) := by
  rw [List.drop_eq_getElem_cons (by rw [List.length_map]; exact get_lt hx)]
  congr 1
  rw [List.getElem_map]
  rw [(List.getElem?_eq_some_iff.1 hx).2]
 rw [hd, List.zipWith_cons_cons, List.append_assoc]; rfl
theorem try_set {n : Network} {p s : Int} {c : List Pattern} {i : Nat} {x : Pattern} (h : TryO n p s c) (hx : c[i]? = some x) {v : Int} (hv : 0 ≤ v ∧ v ≤ p - 1) : TryO n p s (c.set i ⟨x.Line, v⟩) := by
 obtain ⟨h1, h2, h3, y, hy, hs⟩ := h
 refine ⟨by rw [List.length_set]; exact h1, by rw [List.length_set]; exact h2, fun j z hz => ?_, ?_⟩
 ·by_cases hj : j = i
  ·subst hj; rw [List.getElem?_set_self (get_lt hx)] at hz; cases hz
   exact ⟨(h3 j x hx).1, hv⟩
  ·rw [List.getElem?_set_ne (Ne.symm hj)] at hz; exact h3 j z hz
 ·obtain ⟨j, hj⟩ := List.getElem?_of_mem hy
  by_cases hji : j = i
  ·subst hji; rw [hx] at hj; cases hj
   exact ⟨_, List.mem_of_getElem? (set_at hx), hs⟩
  ·exact ⟨y, List.mem_of_getElem? (i := j) (by rw [List.getElem?_set_ne (Ne.symm hji)]; exact hj), hs⟩
theorem rec_ok {n : Network} (hb : Bd n) (hg : Good n) {P : Nat} (hp : 1 ≤ P ∧ P ≤ 20) {s : Int} : ∀ (d : Nat) {fuel i : Nat} {cur : List Pattern} (best : List Int) (least : Int), cur.length = i + d → TryO n P s cur → d < fuel →
  Tot (zq3_k fuel (i : Int) cur (P : Int) n s ⟨best⟩ least) fun r => SameO i cur r.1 ∧ TryO n P s r.1 ∧ (r.2.1.l, r.2.2) = ((digO P d).map (putO cur i)).foldl (updO (gO n P s)) (best, least) := by
 intro d
 induction d with
 | zero =>
  intro fuel i cur best least hlen ht hf
  obtain ⟨f, rfl⟩ : ∃ f, fuel = f + 1 := ⟨fuel - 1, by omega⟩
  obtain ⟨R, x, b, r1, r2, r3, r4, r5, r6, r7, r8, r9, r10⟩ := lg_both hb hg (p := (P : Int)) (by omega) ht
  have hput : putO cur i [] = cur := by
   unfold putO
   rw [List.take_of_length_le (by omega), List.zipWith_nil_right, List.append_nil]
  have hl3 := ht.1
  have hl1 := ht.2.1
  show Tot (zq3_F (zq3_k f) (i : Int) cur (P : Int) n s ⟨best⟩ least) _
  unfold zq3_F
  refine .iteP (fun hlt => by omega) (fun _ => ?_)
  rw [r1, qb, r3, qb]
  have hoff : iter (zq3_L2 cur (gO n P s cur, x)) ((0 : Int), ([] : List Int)) = some (cur, ⟨offO cur⟩, gO n P s cur) := by
   refine Tot.val (Tot.iter (fun m (st : Int × List Int) => ∃ j : Nat, m + j = cur.length ∧ st.1 = (j : Int) ∧ st.2 = (offO cur).take j) (n := cur.length) ⟨0, by omega, rfl, by simp⟩ ?_)
   rintro m ⟨v, a⟩ ⟨j, hm, hv, ha⟩
   dsimp only at hv ha
   subst hv; subst ha
   have hol : (offO cur).length = cur.length := by unfold offO; simp
   unfold zq3_L2
   dsimp only
   refine .iteP (fun hlt => ?_) (fun hge => ?_)
   ·obtain ⟨y, hy⟩ := get_ex (l := cur) (i := j) (by omega)
    rw [ixs hy, qb]
    refine .chk (by rw [List.length_take, List.length_singleton]; omega) (.nx ⟨m - 1, by omega, j + 1, by omega, w64_succ (by omega), ?_⟩)
    rw [take_succ (show (offO cur)[j]? = some y.Offset by unfold offO; rw [List.getElem?_map, hy]; rfl)]
   ·rw [List.take_of_length_le (by omega), chk_of (show (offO cur).length ≠ 0 by omega)]
    exact .dn rfl
  have hfold : ((digO P 0).map (putO cur i)).foldl (updO (gO n P s)) (best, least) = updO (gO n P s) (best, least) cur := by
   show updO _ _ (putO cur i []) = _
   rw [hput]
  rw [hfold]
  unfold updO
  cases best with
  | nil =>
   show Tot (((some (true, ([] : List Int))).bind _)) _
   rw [qb]
   dsimp only
   rw [if_pos rfl, hoff, if_pos (.inl rfl)]
   exact .ok ⟨⟨rfl, rfl⟩, ht, rfl⟩
  | cons a l =>
   show Tot (((some ((decide (gO n P s cur < least)), (a :: l))).bind _)) _
   rw [qb]
   refine .iteP (fun hlt => ?_) (fun hge => ?_)
   ·rw [hoff, if_pos (.inr hlt)]
    exact .ok ⟨⟨rfl, rfl⟩, ht, rfl⟩
   ·rw [if_neg (by rintro (h | h); exact absurd h (by simp); exact hge h)]
    exact .chk (by simp) (.ok ⟨⟨rfl, rfl⟩, ht, rfl⟩)
 | succ d ih =>
  intro fuel i cur best least hlen ht hf
  obtain ⟨f, rfl⟩ : ∃ f, fuel = f + 1 := ⟨fuel - 1, by omega⟩
  have hl3 := ht.1
  show Tot (zq3_F (zq3_k f) (i : Int) cur (P : Int) n s ⟨best⟩ least) _
  unfold zq3_F
  refine .iteP (fun _ => ?_) (fun hge => by omega)
  refine .call (P := fun r => SameO i cur r.1 ∧ TryO n P s r.1 ∧ (r.2.1.l, r.2.2) = ((digO P (d + 1)).map (putO cur i)).foldl (updO (gO n P s)) (best, least)) ?_ fun ⟨a1, a2, a3⟩ h => .ok h
  refine .iter (fun m (st : Int × List Pattern × Nl Int × Int) => ∃ v : Nat, m + v = P ∧ st.1 = (v : Int) ∧ SameO i cur st.2.1 ∧ TryO n P s st.2.1 ∧ (st.2.2.1.l, st.2.2.2) = (((List.range v).flatMap fun (v : Nat) => (digO P d).map fun e => (v : Int) :: e).map (putO cur i)).foldl (updO (gO n P s)) (best, least)) (n := P) ⟨0, by omega, rfl, ⟨rfl, rfl⟩, ht, by simp⟩ ?_
  rintro m ⟨v', c, ⟨b⟩, g⟩ ⟨v, hm, hv, hs, hc, hfo⟩
  dsimp only at hv hs hc hfo
  subst hv
  unfold zq3_L1
  dsimp only
  refine .iteP (fun hlt => ?_) (fun hge => .dn ⟨hs, hc, ?_⟩)
  ·have hcl := hs.len
   obtain ⟨x, hx⟩ := get_ex (l := c) (i := i) (by omega)
   rw [ixs hx, qb, w64_succ (by omega), Int.toNat_natCast]
   refine .call (ih b g (by rw [List.length_set]; omega) (try_set hc hx (by omega)) (by omega)) fun ⟨c2, ⟨b2⟩, g2⟩ ⟨e1, e2, e3⟩ => ?_
   dsimp only at e1 e2 e3 ⊢
   have hss := same_set hx (v : Int)
   refine .nx ⟨m - 1, by omega, v + 1, by omega, w64_succ (by omega), ?_, e2, ?_⟩
   ·refine ⟨by rw [e1.1, hss.1, hs.1], ?_⟩
    have q1 := congrArg (List.take i) e1.2
    rw [List.take_take, List.take_take, Nat.min_eq_left (by omega)] at q1
    show c2.take i = cur.take i
    rw [q1, hss.2, hs.2]
   ·show (b2, g2) = _
    rw [e3, List.range_succ, List.flatMap_append, List.map_append, List.foldl_append, ← hfo]
    congr 1
    rw [List.flatMap_cons, List.flatMap_nil, List.append_nil, List.map_map]
    refine List.map_congr_left fun e _ => ?_
    show putO (c.set i ⟨x.Line, (v : Int)⟩) (i + 1) e = putO cur i ((v : Int) :: e)
    rw [putO_cons hx, putO_same hs]
  ·have : v = P := by omega
   subst this
   exact hfo
theorem rangeO_mul (a b : Nat) : List.range (a * b) = (List.range a).flatMap fun x => (List.range b).map fun y => x * b + y := by
 induction a with
 | zero => simp
 | succ a ih => rw [Nat.succ_mul, List.range_add, ih, List.range_succ, List.flatMap_append]; simp
def updS (F : List Pattern → Int) (st : Int × List Int) (c : List Pattern) : Int × List Int := if F c < st.1 then (F c, offO c) else st
theorem foldO_rel {F : List Pattern → Int} : ∀ {cs : List (List Pattern)} {b : List Int} {g : Int}, (∀ c ∈ cs, offO c ≠ []) → b ≠ [] → cs.foldl (updO F) (b, g) = ((cs.foldl (updS F) (g, b)).2, (cs.foldl (updS F) (g, b)).1)
 | [], b, g, _, _ => rfl
 | c :: cs, b, g, h, hb => by
  rw [List.foldl_cons, List.foldl_cons]
  unfold updO updS
  by_cases hc : F c < g
  ·rw [if_pos (.inr hc), if_pos hc]
   exact foldO_rel (fun c' hc' => h c' (List.mem_cons_of_mem _ hc')) (h c (List.mem_cons_self ..))
  ·rw [if_neg (by rintro (h1 | h1); exact hb h1; exact hc h1), if_neg hc]
   exact foldO_rel (fun c' hc' => h c' (List.mem_cons_of_mem _ hc')) hb
theorem foldO_all {F : List Pattern → Int} {cs : List (List Pattern)} {M : Int} (h : ∀ c ∈ cs, offO c ≠ [] ∧ F c < M) (hne : cs ≠ []) (g : Int) : cs.foldl (updO F) ([], g) = ((cs.foldl (updS F) (M, [])).2, (cs.foldl (updS F) (M, [])).1) := by
 cases cs with
 | nil => exact absurd rfl hne
 | cons c cs =>
  have hc := h c (List.mem_cons_self ..)
  have e1 : updO F ([], g) c = (offO c, F c) := by unfold updO; rw [if_pos (.inl rfl)]
  have e2 : updS F (M, []) c = (F c, offO c) := by unfold updS; rw [if_pos hc.2]
  rw [List.foldl_cons, List.foldl_cons, e1, e2]
  exact foldO_rel (fun c' hc' => (h c' (List.mem_cons_of_mem _ hc')).1) hc.1
theorem foldS_best {F : List Pattern → Int} : ∀ {cs : List (List Pattern)} {g : Int} {b : List Int}, (cs.foldl (updS F) (g, b)).1 ≤ g ∧ (∀ c ∈ cs, (cs.foldl (updS F) (g, b)).1 ≤ F c) ∧ ((cs.foldl (updS F) (g, b)) = (g, b) ∨ ∃ c ∈ cs, cs.foldl (updS F) (g, b) = (F c, offO c))
 | [], g, b => ⟨Int.le_refl _, by simp, .inl rfl⟩
 | c :: cs, g, b => by
  rw [List.foldl_cons]
  by_cases hc : F c < g
  ·have e : updS F (g, b) c = (F c, offO c) := by unfold updS; rw [if_pos hc]
   rw [e]
   obtain ⟨h1, h2, h3⟩ := foldS_best (F := F) (cs := cs) (g := F c) (b := offO c)
   refine ⟨by omega, fun c' hc' => ?_, .inr ?_⟩
   ·rcases List.mem_cons.1 hc' with rfl | hc'
    ·exact h1
    ·exact h2 c' hc'
   ·rcases h3 with h3 | ⟨c', q1, q2⟩
    ·exact ⟨c, List.mem_cons_self .., h3⟩
    ·exact ⟨c', List.mem_cons_of_mem _ q1, q2⟩
  ·have e : updS F (g, b) c = (g, b) := by unfold updS; rw [if_neg hc]
   rw [e]
   obtain ⟨h1, h2, h3⟩ := foldS_best (F := F) (cs := cs) (g := g) (b := b)
   refine ⟨h1, fun c' hc' => ?_, ?_⟩
   ·rcases List.mem_cons.1 hc' with rfl | hc'
    ·omega
    ·exact h2 c' hc'
   ·rcases h3 with h3 | ⟨c', q1, q2⟩
    ·exact .inl h3
    ·exact .inr ⟨c', List.mem_cons_of_mem _ q1, q2⟩
theorem loop3_ok {n : Network} (hb : Bd n) (hg : Good n) {P : Nat} (hp : 1 ≤ P ∧ P ≤ 20) {s : Int} {l : List Pattern} (hl : l.length ≤ 3) {x0 : Pattern} (hx0 : l[0]? = some x0) {N : Nat} (hN : N ≤ 400) (conf : Nat → List Pattern)
  (h : ∀ c, c < N → ∃ v4 : List Int, iter (zq26_L2 (P : Int) l) ((c : Int), (w64 ((l.length : Int) - 1)), (([] : List Pattern) ++ l), (List.replicate (l.length : Int).toNat (0 : Int))) = some (conf c, v4) ∧ 0 < v4.length ∧ v4.set 0 x0.Offset = offO (conf c) ∧ TryO n P s (conf c)) :
  iter (zq26_L3 n (P : Int) l s (N : Int)) ((w64 ((P : Int) + 1)), (0 : Int), ([] : List Int)) = some (((List.range N).map conf).foldl (updS (gO n P s)) ((P : Int) + 1, [])) := by
 rw [w64_id (by omega)]
 refine Tot.val (Tot.iter (fun m (st : Int × Int × List Int) => ∃ i : Nat, m + i = N ∧ st.2.1 = (i : Int) ∧ (st.1, st.2.2) = ((List.range i).map conf).foldl (updS (gO n P s)) ((P : Int) + 1, [])) (n := N) ⟨0, by omega, rfl, rfl⟩ ?_)
 rintro m ⟨g, v, b⟩ ⟨i, hm, hv, hf⟩
 dsimp only at hv hf
 subst hv
 unfold zq26_L3
 dsimp only
 refine .iteP (fun hlt => ?_) (fun hge => .dn ?_)
 ·obtain ⟨v4, e1, e2, e3, e4⟩ := h i (by omega)
  obtain ⟨R, x, b', r1, r2, r3, r4, r5, r6, r7, r8, r9, r10⟩ := lg_both hb hg (p := (P : Int)) (by omega) e4
  obtain ⟨z, hz⟩ := get_ex e2
  refine .call (P := fun o => o = updS (gO n P s) (g, b) (conf i)) (.chk (by simp; omega) (.chk ⟨by omega, by omega⟩ (.eq e1 ?_))) fun ⟨g', b'⟩ he => .nx ⟨m - 1, by omega, i + 1, by omega, w64_succ (by omega), ?_⟩
  ·dsimp only
   rw [idx0, hx0, qb, idx0, hz, qb, r2, qb, r4, qb, r5, qb]
   unfold updS
   refine .iteP (fun hc => .ok ?_) (fun hc => .ok ?_)
   ·rw [if_pos hc, ← e3]; rfl
   ·rw [if_neg hc]
  ·show (g', b') = _
   rw [List.range_succ, List.map_append, List.foldl_append, ← hf, he]; rfl
 ·have : i = N := by omega
  subst this
  exact hf
theorem tdm (c P : Nat) : ((c : Int).tdiv (P : Int)) = ((c / P : Nat) : Int) ∧ ((c : Int).tmod (P : Int)) = ((c % P : Nat) : Int) := by
 rw [Int.tdiv_eq_ediv_of_nonneg (by omega), Int.tmod_eq_emod_of_nonneg (by omega)]
 exact ⟨by simp, by simp⟩
def cfsO (P : Nat) (l : List Pattern) : List (List Pattern) := (digO P (l.length - 1)).map (putO l 1)
theorem sbest_ok {n : Network} (hb : Bd n) (hg : Good n) {P : Nat} (hp : 1 ≤ P ∧ P ≤ 20) {s : Int} {l : List Pattern} (ht : TryO n P s l) :
  ((iter (zq26_L1 (P : Int) l) ((1 : Int), (1 : Int))).bind fun (code1 : Int) => iter (zq26_L3 n (P : Int) l s code1) ((w64 ((P : Int) + 1)), (0 : Int), ([] : List Int))) = some ((cfsO P l).foldl (updS (gO n P s)) ((P : Int) + 1, [])) ∧ (∀ c ∈ cfsO P l, TryO n P s c ∧ c.map (·.Line) = l.map (·.Line) ∧ c[0]? = l[0]?) ∧ l ∈ cfsO P l := by
 have hP0 : (P : Int) ≠ 0 := by omega
 have hm20 : ∀ c : Nat, c % P < P := fun c => Nat.mod_lt _ (by omega)
 match l, ht with
 | [], ht => exact absurd ht.2.1 (by simp)
 | [x0], ht =>
  have e1 : iter (zq26_L1 (P : Int) [x0]) ((1 : Int), (1 : Int)) = some 1 := iter_dn (by unfold zq26_L1; simp)
  have hc : cfsO P [x0] = [[x0]] := rfl
  refine ⟨?_, ?_, ?_⟩
  ·rw [e1, qb]
   have := loop3_ok hb hg hp (s := s) (l := [x0]) (by simp) rfl (N := 1) (by omega) (fun _ => [x0]) fun c hc => ⟨[0], iter_dn (by unfold zq26_L2; rfl), by simp, rfl, ht⟩
   exact this
  ·rw [hc]; intro c hc; rw [List.mem_singleton] at hc; subst hc; exact ⟨ht, rfl, rfl⟩
  ·rw [hc]; exact List.mem_singleton.2 rfl
 | [x0, x1], ht =>
  have hx1 : (([x0, x1] : List Pattern))[1]? = some x1 := rfl
  have e1 : iter (zq26_L1 (P : Int) [x0, x1]) ((1 : Int), (1 : Int)) = some (P : Int) := by
   rw [iter_nx (a' := ((P : Int), (2 : Int)))]
   ·exact iter_dn (by unfold zq26_L1; simp)
   ·unfold zq26_L1
    dsimp only
    rw [if_pos (by simp), Int.one_mul, w64_id (by omega), w64_id (by omega)]; rfl
  have hcf : cfsO P [x0, x1] = (List.range P).map fun (c : Nat) => [x0, ⟨x1.Line, (c : Int)⟩] := by
   show ((List.range P).flatMap fun (v : Nat) => [[(v : Int)]]).map (putO [x0, x1] 1) = _
   rw [← List.map_eq_flatMap, List.map_map]; rfl
  have htry : ∀ v : Nat, v < P → TryO n P s [x0, ⟨x1.Line, (v : Int)⟩] := fun v hv => try_set ht hx1 (v := (v : Int)) (by omega)
  have hr : (List.range P).map (fun (c : Nat) => ([x0, ⟨x1.Line, ((c % P : Nat) : Int)⟩] : List Pattern)) = (List.range P).map fun (c : Nat) => [x0, ⟨x1.Line, (c : Int)⟩] := List.map_congr_left fun c hc => by rw [Nat.mod_eq_of_lt (List.mem_range.1 hc)]
  refine ⟨?_, ?_, ?_⟩
  ·rw [e1, qb, hcf, ← hr]
   refine loop3_ok hb hg hp (s := s) (l := [x0, x1]) (by simp) rfl (N := P) (by omega) (fun (c : Nat) => [x0, ⟨x1.Line, ((c % P : Nat) : Int)⟩]) fun c hc => ⟨[0, ((c % P : Nat) : Int)], ?_, by simp, rfl, htry _ (hm20 c)⟩
   have hw : w64 ((([x0, x1] : List Pattern).length : Int) - 1) = 1 := w64_id (by simp)
   rw [hw, iter_nx (a' := (((c / P : Nat) : Int), (0 : Int), ([x0, ⟨x1.Line, ((c % P : Nat) : Int)⟩] : List Pattern), ([0, ((c % P : Nat) : Int)] : List Int)))]
   ·exact iter_dn (by unfold zq26_L2; rfl)
   ·unfold zq26_L2
    dsimp only
    rw [(tdm c P).1, (tdm c P).2, if_pos (by simp), chk_of hP0]
    have : w64 ((c / P : Nat) : Int) = ((c / P : Nat) : Int) := w64_nat (Nat.le_trans (Nat.div_le_self c P) (by omega))
    rw [this]; rfl
  ·rw [hcf]
   intro c hc
   obtain ⟨v, hv, rfl⟩ := List.mem_map.1 hc
   exact ⟨htry v (List.mem_range.1 hv), rfl, rfl⟩
  ·rw [hcf]
   have h1 := (ht.2.2.1 1 x1 rfl).2
   exact List.mem_map.2 ⟨x1.Offset.toNat, List.mem_range.2 (by omega), by rw [Int.toNat_of_nonneg h1.1]⟩
 | [x0, x1, x2], ht =>
  have hx1 : (([x0, x1, x2] : List Pattern))[1]? = some x1 := rfl
  have hPP : P * P ≤ 400 := by
   have : P * P ≤ 20 * 20 := Nat.mul_le_mul hp.2 hp.2
   omega
  have e1 : iter (zq26_L1 (P : Int) [x0, x1, x2]) ((1 : Int), (1 : Int)) = some ((P * P : Nat) : Int) := by
   rw [iter_nx (a' := ((P : Int), (2 : Int)))]
   ·rw [iter_nx (a' := (((P * P : Nat) : Int), (3 : Int)))]
    ·exact iter_dn (by unfold zq26_L1; simp)
    ·unfold zq26_L1
     dsimp only
     have : (P : Int) * (P : Int) = ((P * P : Nat) : Int) := by simp
     rw [if_pos (by simp), this, w64_id (x := ((P * P : Nat) : Int)) (by omega), w64_id (by omega)]; rfl
   ·unfold zq26_L1
    dsimp only
    rw [if_pos (by simp), Int.one_mul, w64_id (by omega), w64_id (by omega)]; rfl
  have hcf : cfsO P [x0, x1, x2] = (List.range P).flatMap fun (a : Nat) => (List.range P).map fun (b : Nat) => [x0, ⟨x1.Line, (a : Int)⟩, ⟨x2.Line, (b : Int)⟩] := by
   show ((List.range P).flatMap fun (v : Nat) => ((List.range P).flatMap fun (w : Nat) => [[(w : Int)]]).map fun e => (v : Int) :: e).map (putO [x0, x1, x2] 1) = _
   rw [List.map_flatMap]
   congr 1
   funext a
   rw [← List.map_eq_flatMap, List.map_map, List.map_map]; rfl
  have htry : ∀ v w : Nat, v < P → w < P → TryO n P s [x0, ⟨x1.Line, (v : Int)⟩, ⟨x2.Line, (w : Int)⟩] := fun v w hv hw => try_set (try_set ht hx1 (v := (v : Int)) (by omega)) (i := 2) (x := x2) rfl (v := (w : Int)) (by omega)
  have hr : (List.range (P * P)).map (fun (c : Nat) => ([x0, ⟨x1.Line, (((c / P) % P : Nat) : Int)⟩, ⟨x2.Line, ((c % P : Nat) : Int)⟩] : List Pattern)) = (List.range P).flatMap fun (a : Nat) => (List.range P).map fun (b : Nat) => [x0, ⟨x1.Line, (a : Int)⟩, ⟨x2.Line, (b : Int)⟩] := by
   rw [rangeO_mul, List.map_flatMap]
   have : ∀ a ∈ List.range P, ((List.range P).map fun y => a * P + y).map (fun (c : Nat) => ([x0, ⟨x1.Line, (((c / P) % P : Nat) : Int)⟩, ⟨x2.Line, ((c % P : Nat) : Int)⟩] : List Pattern)) = (List.range P).map fun (b : Nat) => [x0, ⟨x1.Line, (a : Int)⟩, ⟨x2.Line, (b : Int)⟩] := fun a ha => by
    rw [List.map_map]
    refine List.map_congr_left fun b hb => ?_
    have ha2 := List.mem_range.1 ha
    have hb2 := List.mem_range.1 hb
    have q1 : (a * P + b) / P = a := by
     rw [Nat.mul_comm, Nat.mul_add_div (by omega), Nat.div_eq_of_lt hb2, Nat.add_zero]
    have q2 : (a * P + b) % P = b := by
     rw [Nat.mul_comm, Nat.mul_add_mod, Nat.mod_eq_of_lt hb2]
    show ([x0, ⟨x1.Line, ((((a * P + b) / P) % P : Nat) : Int)⟩, ⟨x2.Line, (((a * P + b) % P : Nat) : Int)⟩] : List Pattern) = _
    rw [q1, q2, Nat.mod_eq_of_lt ha2]
   rw [List.flatMap_def, List.flatMap_def, List.map_congr_left this]
  refine ⟨?_, ?_, ?_⟩
  ·rw [e1, qb, hcf, ← hr]
   refine loop3_ok hb hg hp (s := s) (l := [x0, x1, x2]) (by simp) rfl (N := P * P) hPP (fun (c : Nat) => [x0, ⟨x1.Line, (((c / P) % P : Nat) : Int)⟩, ⟨x2.Line, ((c % P : Nat) : Int)⟩]) fun c hc => ⟨[0, (((c / P) % P : Nat) : Int), ((c % P : Nat) : Int)], ?_, by simp, rfl, htry _ _ (hm20 _) (hm20 c)⟩
   have hw : w64 ((([x0, x1, x2] : List Pattern).length : Int) - 1) = 2 := w64_id (by simp)
   have d1 := Nat.div_le_self c P
   have d2 := Nat.div_le_self (c / P) P
   rw [hw, iter_nx (a' := (((c / P : Nat) : Int), (1 : Int), ([x0, x1, ⟨x2.Line, ((c % P : Nat) : Int)⟩] : List Pattern), ([0, 0, ((c % P : Nat) : Int)] : List Int)))]
   ·rw [iter_nx (a' := (((c / P / P : Nat) : Int), (0 : Int), ([x0, ⟨x1.Line, (((c / P) % P : Nat) : Int)⟩, ⟨x2.Line, ((c % P : Nat) : Int)⟩] : List Pattern), ([0, (((c / P) % P : Nat) : Int), ((c % P : Nat) : Int)] : List Int)))]
    ·exact iter_dn (by unfold zq26_L2; rfl)
    ·unfold zq26_L2
     dsimp only
     rw [(tdm (c / P) P).1, (tdm (c / P) P).2, if_pos (by simp), chk_of hP0]
     have : w64 ((c / P / P : Nat) : Int) = ((c / P / P : Nat) : Int) := w64_nat (Nat.le_trans d2 (Nat.le_trans d1 (by omega)))
     rw [this]; rfl
   ·unfold zq26_L2
    dsimp only
    rw [(tdm c P).1, (tdm c P).2, if_pos (by simp), chk_of hP0]
    have : w64 ((c / P : Nat) : Int) = ((c / P : Nat) : Int) := w64_nat (Nat.le_trans d1 (by omega))
    rw [this]; rfl
  ·rw [hcf]
   intro c hc
   obtain ⟨v, hv, hc⟩ := List.mem_flatMap.1 hc
   obtain ⟨w, hw, rfl⟩ := List.mem_map.1 hc
   exact ⟨htry v w (List.mem_range.1 hv) (List.mem_range.1 hw), rfl, rfl⟩
  ·rw [hcf]
   have h1 := (ht.2.2.1 1 x1 rfl).2
   have h2 := (ht.2.2.1 2 x2 rfl).2
   exact List.mem_flatMap.2 ⟨x1.Offset.toNat, List.mem_range.2 (by omega), List.mem_map.2 ⟨x2.Offset.toNat, List.mem_range.2 (by omega), by rw [Int.toNat_of_nonneg h1.1, Int.toNat_of_nonneg h2.1]⟩⟩
 | _ :: _ :: _ :: _ :: _, ht => exact absurd ht.1 (by simp)
theorem largest_eq {n : Network} (hb : Bd n) {p : Int} (hp : -10 ≤ p ∧ p ≤ 1000) {l : List Pattern} (hl : l.length ≤ 1000) (s : Int) :
  (¬ (AskO n p l s ∧ TryO n p s l) ∧ zq7 n p l s = some (0, 0, false) ∧ zq33 n p l s = some (0, 0, false) ∧ (AskO n p l s → zq20 n p l s = some [])) ∨
  (AskO n p l s ∧ TryO n p s l ∧ ∃ x, zq7 n p l s = some (gO n p s l, x, true) ∧ zq33 n p l s = some (gO n p s l, x, true) ∧ ∃ R, zq20 n p l s = some R ∧ 0 < R.length ∧ R.length ≤ 3) := by
 unfold zq7 zq33 zq32
 rw [arePassed_eq hb hp hl, l10Asked_eq hb hp hl]
 by_cases hA : AskO n p l s
 ·obtain ⟨⟨⟨hg, hpp, hl1, hl3⟩, hv⟩, hs⟩ := id hA
  obtain ⟨R, r1, r2, r3, r4⟩ := rests_both hb hg hpp (l := l) (by omega) hv s
  rw [decide_eq_true hA, r1, r2]
  simp only [qb, Bool.not_true, Bool.false_eq_true, if_false]
  by_cases hne : R = []
  ·left
   subst hne
   have hnt : ¬ TryO n p s l := fun ht => by
    obtain ⟨R', x, b, q1, _, _, _, _, _, _, _, q9, _⟩ := lg_both hb hg hpp ht
    rw [r1] at q1; cases q1; simp at q9
   have hRB : RB [] p := ⟨by simp, hpp, List.Pairwise.nil, by simp⟩
   refine ⟨fun h => hnt h.2, rfl, ?_, fun _ => rfl⟩
   rw [sgaps_eq hRB]; rfl
  ·right
   have ht : TryO n p s l := by
    refine ⟨by omega, by omega, hv, ?_⟩
    obtain ⟨y, hy⟩ : ∃ y, y ∈ R := List.exists_mem_of_ne_nil R hne
    have hy2 := r4.mem_iff.1 hy
    unfold valO at hy2
    obtain ⟨h1, h2⟩ := List.mem_filter.1 hy2
    obtain ⟨x, hx, rfl⟩ := List.mem_map.1 h1
    obtain ⟨i, hi⟩ := List.getElem?_of_mem hx
    exact ⟨x, hx, (srv_iff hb hg hpp (hv i x hi) s).1 (of_decide_eq_true h2)⟩
   obtain ⟨R', x, b, q1, q2, q3, q4, q5, q6, q7, q8, q9, q10⟩ := lg_both hb hg hpp ht
   rw [r1] at q1; cases q1
   have h0 : ((R.length : Int) == 0) = false := by
    cases h : ((R.length : Int) == 0) with
    | false => rfl
    | true => have := eq_of_beq h; omega
   have h0' : (((gapsO R p).length : Int) == 0) = false := by rw [gapsO_len]; exact h0
   refine ⟨hA, ht, x, ?_, ?_, R, rfl, q9, q10⟩
   ·rw [h0, q3]; rfl
   ·rw [q4]
    simp only [qb, Bool.not_true, Bool.false_eq_true, if_false]
    rw [h0', q5]
    simp only [qb, Bool.false_eq_true, if_false]
    rw [ixs q6]; rfl
 ·left
  rw [decide_eq_false hA]
  exact ⟨fun h => hA h.1, rfl, rfl, fun h => absurd h hA⟩
theorem offO_len (c : List Pattern) : (offO c).length = c.length := by unfold offO; simp
theorem best_both {n : Network} (hb : Bd n) {p : Int} (hp : -10 ≤ p ∧ p ≤ 1000) {l : List Pattern} (hl : l.length ≤ 1000) (s : Int) :
  ∃ (off : List Int) (g : Int) (k : Bool), zq2 n p l s = some (off, g, k) ∧ zq26 n p l s = some (off, g, k) ∧ off.length ≤ 3 ∧ (k = true → AskO n p l s ∧ TryO n p s l ∧ ∃ c, TryO n p s c ∧ c.map (·.Line) = l.map (·.Line) ∧ c[0]? = l[0]? ∧ off = offO c ∧ g = gO n p s c ∧ g ≤ gO n p s l) := by
 unfold zq2 zq26
 rw [arePassed_eq hb hp hl]
 rcases largest_eq hb hp hl s with ⟨h1, h2, h3, h4⟩ | ⟨hA, ht, x, h2, h3, R, h4, h5, h6⟩
 ·refine ⟨[], 0, false, ?_, ?_, by simp, fun h => (by cases h)⟩
  ·rw [qb]
   by_cases hA : AskO n p l s
   ·rw [decide_eq_true hA, h4 hA]
    by_cases h20 : 20 < p
    ·simp [h20]
    ·simp [h20]
   ·rw [decide_eq_false hA]; rfl
  ·rw [h3]; rfl
 ·obtain ⟨⟨⟨hg, hpp, hl1, hl3⟩, hv⟩, hs⟩ := id hA
  have h0 : ((R.length : Int) == 0) = false := by
   cases h : ((R.length : Int) == 0) with
   | false => rfl
   | true => have := eq_of_beq h; omega
  rw [decide_eq_true hA, h3, h4]
  simp only [qb, Bool.not_true, Bool.false_eq_true, if_false]
  by_cases h20 : 20 < p
  ·rw [if_pos (decide_eq_true h20), decide_eq_true h20]
   exact ⟨[], 0, false, rfl, rfl, by simp, fun h => (by cases h)⟩
  ·rw [if_neg (by simpa using h20), decide_eq_false h20, h0]
   simp only [qb, Bool.false_eq_true, if_false]
   obtain ⟨P, rfl⟩ : ∃ P : Nat, p = (P : Int) := ⟨p.toNat, by omega⟩
   obtain ⟨s1, s2, s3⟩ := sbest_ok hb hg (P := P) (by omega) ht
   obtain ⟨⟨c', ⟨b⟩, g⟩, e1, _, _, e2⟩ := rec_ok hb hg (P := P) (by omega) (s := s) (l.length - 1) (fuel := 4294967296) (i := 1) (cur := l) [] 0 (by omega) ht (by omega)
   dsimp only at e2
   have hall : ∀ c ∈ cfsO P l, offO c ≠ [] ∧ gO n P s c < (P : Int) + 1 := fun c hc => by
    obtain ⟨t1, t2, t3⟩ := s2 c hc
    obtain ⟨_, _, _, _, _, _, _, _, _, _, q8, _, _⟩ := lg_both hb hg hpp t1
    refine ⟨fun h => ?_, by omega⟩
    have h9 : c.length = 0 := by rw [← offO_len, h]; rfl
    have := t1.2.1
    omega
   have hf := foldO_all (F := gO n P s) hall (List.ne_nil_of_mem s3) 0
   unfold cfsO at hf
   rw [hf] at e2
   obtain ⟨f1, f2, f3⟩ := foldS_best (F := gO n P s) (cs := cfsO P l) (g := (P : Int) + 1) (b := [])
   have hclone : zq73 l = some l := by
    unfold zq73
    rw [chk_of (by simp; omega)]; rfl
   have hbest : zq3 1 l (P : Int) n s (⟨[]⟩ : Nl Int) 0 = some (c', ⟨b⟩, g) := e1
   rw [hclone, qb, hbest, qb]
   rw [bind_assoc', s1, qb]
   cases hfold : (cfsO P l).foldl (updS (gO n P s)) ((P : Int) + 1, []) with
   | mk x2 o2 =>
    unfold cfsO at hfold
    rw [hfold] at e2
    simp only [Prod.mk.injEq] at e2
    obtain ⟨eb, eg⟩ := e2
    have hfold' : (cfsO P l).foldl (updS (gO n P s)) ((P : Int) + 1, []) = (x2, o2) := hfold
    rw [hfold'] at f1 f2 f3
    rcases f3 with f3 | ⟨c, hc, f3⟩
    ·cases f3
     have := f2 l s3
     have := (hall l s3).2
     dsimp only at *
     omega
    ·cases f3
     obtain ⟨t1, t2, t3⟩ := s2 c hc
     subst eb; subst eg
     have hlen : (offO c).length ≠ 0 := by rw [offO_len]; have := t1.2.1; omega
     rw [chk_of hlen]
     exact ⟨offO c, gO n P s c, true, rfl, rfl, by rw [offO_len]; exact t1.1, fun _ => ⟨hA, ht, c, t1, t2, t3, rfl, rfl, f2 l s3⟩⟩
theorem isPat_eq (l : List Pattern) (i : Int) : zq15 l i = some (decide (0 ≤ i ∧ i < (l.length : Int))) := by
 unfold zq15
 by_cases h : 0 ≤ i <;> simp [h]
theorem small_mod {t p : Int} (h0 : 0 ≤ t) (h : t < 2 * p) : t % p = if t < p then t else t - p := by
 by_cases hc : t < p
 ·rw [if_pos hc]; exact Int.emod_eq_of_lt h0 hc
 ·rw [if_neg hc]
  have e : t % p = (t - p) % p := by
   rw [show t = (t - p) + p by omega, Int.add_emod_right]
   congr 1; omega
  rw [e]; exact Int.emod_eq_of_lt (by omega) (by omega)
theorem wait_ok {p x y walk : Int} (hp : 1 ≤ p ∧ p ≤ 60) (hx : 0 ≤ x ∧ x < p) (hy : 0 ≤ y ∧ y < p) (hw : 0 ≤ walk ∧ walk ≤ 60) :
  ∃ d : Int, iter (zq9_L1 p x y) walk = some (walk + d) ∧ (w64 (walk + ((w64 ((w64 (y - ((w64 (x + walk)).tmod p))) + p)).tmod p))) = walk + d ∧ 0 ≤ d ∧ d < p := by
 have hq0 := Int.emod_nonneg (x + walk) (show p ≠ 0 by omega)
 have hq1 := Int.emod_lt_of_pos (x + walk) (show 0 < p by omega)
 have e1 : (x + walk).tmod p = (x + walk) % p := Int.tmod_eq_emod_of_nonneg (by omega)
 have hd : ∃ d, d = (y - (x + walk) % p + p) % p := ⟨_, rfl⟩
 obtain ⟨d, hd⟩ := hd
 have hd2 := small_mod (t := y - (x + walk) % p + p) (p := p) (by omega) (by omega)
 rw [← hd] at hd2
 have hdr : 0 ≤ d ∧ d < p := by
  split at hd2 <;> omega
 refine ⟨d, ?_, ?_, hdr⟩
 ·refine Tot.val (Tot.iter (fun m (v : Int) => ∃ j : Nat, v = walk + (j : Int) ∧ (m : Int) + (j : Int) = d) (n := d.toNat) ⟨0, by omega, by omega⟩ ?_)
  rintro m v ⟨j, rfl, hm⟩
  unfold zq9_L1
  refine .chk (by omega) ?_
  have e2 : (w64 (x + (walk + (j : Int)))).tmod p = ((x + walk) % p + (j : Int)) % p := by
   rw [w64_id (by omega), Int.tmod_eq_emod_of_nonneg (by omega), Int.emod_add_emod]
   congr 1; omega
  have e3 := small_mod (t := (x + walk) % p + (j : Int)) (p := p) (by omega) (by omega)
  rw [e2, e3]
  refine .ite (fun hc => ?_) (fun hc => ?_)
  ·have hne : (if (x + walk) % p + (j : Int) < p then (x + walk) % p + (j : Int) else (x + walk) % p + (j : Int) - p) ≠ y := by simpa using hc
   have hm0 : m ≠ 0 := by
    rintro rfl
    apply hne
    have : (j : Int) = d := by omega
    rw [this]
    split at hd2 <;> split <;> omega
   exact .nx ⟨m - 1, by omega, j + 1, by rw [w64_id (by omega)]; omega, by omega⟩
  ·have he : (if (x + walk) % p + (j : Int) < p then (x + walk) % p + (j : Int) else (x + walk) % p + (j : Int) - p) = y := by simpa using hc
   refine .dn ?_
   have : (j : Int) = d := by
    split at hd2 <;> split at he <;> omega
   rw [this]
 ·rw [w64_id (x := x + walk) (by omega), e1, w64_id (x := y - (x + walk) % p) (by omega), w64_id (x := y - (x + walk) % p + p) (by omega), Int.tmod_eq_emod_of_nonneg (by omega), ← hd, w64_id (by omega)]
theorem fix_first {n : Network} {l : Line} (hL : LineP n.Stops.length l) {s e0 : Int} (h0 : l.Stops[0]? = some e0) (hf : 0 ≤ fixI (fun e => s == e) l.Stops) : e0 = s ↔ fixI (fun e => s == e) l.Stops < 1 := by
 constructor
 ·rintro rfl
  have := (hL.2.2.1 0 e0 h0).2
  rw [this]; simp
 ·intro h
  obtain ⟨k, x, h1, h2, h3, _⟩ := idx_fix (p := fun e => s == e) (l := l.Stops) (by omega)
  have : k = 0 := by omega
  subst this
  rw [h0] at h2; cases h2
  exact (by simpa using h3 : s = e0).symm
theorem fix_last {n : Network} {l : Line} (hL : LineP n.Stops.length l) {s e1 : Int} (h0 : l.Stops[l.Stops.length - 1]? = some e1) (hf : 0 ≤ fixI (fun e => s == e) l.Stops) : e1 = s ↔ fixI (fun e => s == e) l.Stops = (l.Stops.length : Int) - 1 := by
 have h2l := hL.1
 constructor
 ·rintro rfl
  have := (hL.2.2.1 _ e1 h0).2
  rw [this]; omega
 ·intro h
  obtain ⟨k, x, h1, h2, h3, _⟩ := idx_fix (p := fun e => s == e) (l := l.Stops) (by omega)
  have : k = l.Stops.length - 1 := by omega
  subst this
  rw [h0] at h2; cases h2
  exact (by simpa using h3 : s = e1).symm
theorem rest_neg {n : Network} (hb : Bd n) (hg : Good n) {p : Int} (hp : 1 ≤ p ∧ p ≤ 60) {x : Pattern} (hx : PatP n p x) (s : Int) {l : Line} (hl : n.Lines[x.Line.toNat]? = some l) : restO n p x s < 0 ↔ fixI (fun e => s == e) l.Stops < 0 := by
 have := srv_iff hb hg hp hx s
 unfold Srv at this
 rw [hl] at this
 constructor
 ·intro h
  refine Classical.byContradiction fun hc => ?_
  have := this.2 ⟨l, rfl, hc⟩
  omega
 ·intro h
  refine Classical.byContradiction fun hc => ?_
  obtain ⟨l', e, h2⟩ := this.1 (by omega)
  cases e
  exact h2 h
theorem tw_both {n : Network} (hb : Bd n) {p : Int} (hp : -10 ≤ p ∧ p ≤ 1000) {l : List Pattern} (hl : l.length ≤ 1000) (a b s walk : Int) :
  ∃ (w : Int) (k : Bool), zq9 n p l a b s walk = some (w, k) ∧ zq35 n p l a b s walk = some (w, k) ∧ (k = true → walk ≤ w ∧ w < walk + p ∧ 0 ≤ walk ∧ walk ≤ 60 ∧ p ≤ 60) := by
 unfold zq9 zq35
 simp only [arePassed_eq hb hp hl, l10Asked_eq hb hp hl, isPat_eq, within_eq, l1In_eq, qb]
 rw [w64_id (x := (l.length : Int) - 1) (by omega)]
 have no : ∃ (w : Int) (k : Bool), some ((0 : Int), false) = some (w, k) ∧ some ((0 : Int), false) = some (w, k) ∧ (k = true → walk ≤ w ∧ w < walk + p ∧ 0 ≤ walk ∧ walk ≤ 60 ∧ p ≤ 60) := ⟨0, false, rfl, rfl, fun h => (by cases h)⟩
 by_cases hA : AskO n p l s
 ·by_cases ha : 0 ≤ a ∧ a < (l.length : Int)
  ·by_cases hbb : 0 ≤ b ∧ b < (l.length : Int)
   ·by_cases hab : a = b
    ·have ha' : 0 ≤ a ∧ a ≤ (l.length : Int) - 1 := by omega
     have hb' : 0 ≤ b ∧ b ≤ (l.length : Int) - 1 := by omega
     have hab' : (a == b) = true := by simpa using hab
     simpa only [decide_eq_true hA, decide_eq_true ha, decide_eq_true hbb, decide_eq_true ha', decide_eq_true hb', hab', Bool.not_true, Bool.false_eq_true, if_false, if_true, qb] using no
    ·by_cases hw : 0 ≤ walk ∧ walk ≤ 60
     ·have ha' : 0 ≤ a ∧ a ≤ (l.length : Int) - 1 := by omega
      have hb' : 0 ≤ b ∧ b ≤ (l.length : Int) - 1 := by omega
      have hab' : (a == b) = false := by simpa using hab
      simp only [decide_eq_true hA, decide_eq_true ha, decide_eq_true hbb, decide_eq_true ha', decide_eq_true hb', hab', decide_eq_true hw, Bool.not_true, Bool.false_eq_true, if_false, if_true, qb]
      clear ha' hb' hab'
      obtain ⟨⟨⟨hg, hpp, hl1, hl3⟩, hv⟩, hs⟩ := id hA
      obtain ⟨xa, hxa⟩ := get_ex (l := l) (i := a.toNat) (by omega)
      obtain ⟨xb, hxb⟩ := get_ex (l := l) (i := b.toNat) (by omega)
      have pa := hv _ xa hxa
      have pb := hv _ xb hxb
      obtain ⟨la, hla⟩ := get_ex (l := n.Lines) (i := xa.Line.toNat) (by have := pa.1; omega)
      obtain ⟨lb, hlb⟩ := get_ex (l := n.Lines) (i := xb.Line.toNat) (by have := pb.1; omega)
      have La := hg.2.2.2.2 _ la hla
      have Lb := hg.2.2.2.2 _ lb hlb
      have ia : idx l a = some xa := idx_of ha.1 hxa
      have ib : idx l b = some xb := idx_of hbb.1 hxb
      have ja : idx n.Lines xa.Line = some la := idx_of pa.1.1 hla
      have jb : idx n.Lines xb.Line = some lb := idx_of pb.1.1 hlb
      obtain ⟨ra1, ra2, ra3, ra4⟩ := rest_both hb hg hpp pa s
      obtain ⟨rb1, rb2, rb3, rb4⟩ := rest_both hb hg hpp pb s
      have na := rest_neg hb hg hpp pa s hla
      have nb := rest_neg hb hg hpp pb s hlb
      obtain ⟨ea, hea⟩ := get_ex (l := la.Stops) (i := 0) (by have := La.1; omega)
      obtain ⟨eb, heb⟩ := get_ex (l := lb.Stops) (i := lb.Stops.length - 1) (by have := Lb.1; omega)
      have hbl := hb.2.2 lb (List.mem_of_getElem? hlb)
      have hal := hb.2.2 la (List.mem_of_getElem? hla)
      have hlast : idx lb.Stops (w64 ((lb.Stops.length : Int) - 1)) = some eb := by
       rw [w64_id (by omega)]
       exact idx_of (by have := Lb.1; omega) (by rw [show ((lb.Stops.length : Int) - 1).toNat = lb.Stops.length - 1 by omega]; exact heb)
      rw [ia, ib]
      simp only [qb]
      rw [ra1, rb1, ja, jb]
      simp only [qb]
      rw [idx0, hea, hlast, l2Place_eq _ (by omega), l2Place_eq _ (by omega), w64_id (x := (lb.Stops.length : Int) - 1) (by omega), ra2, rb2]
      simp only [qb]
      have ff := fix_first (n := n) La hea (s := s)
      have fl := fix_last (n := n) Lb heb (s := s)
      by_cases c1 : restO n p xa s < 0
      ·have d1 : fixI (fun e => s == e) la.Stops < 1 := by have := na.1 c1; omega
       rw [if_pos (decide_eq_true c1), if_pos (decide_eq_true d1)]
       exact no
      ·have f0 : 0 ≤ fixI (fun e => s == e) la.Stops := by
        refine Classical.byContradiction fun hc => c1 (na.2 (by omega))
       by_cases c2 : restO n p xb s < 0
       ·have d2 : fixI (fun e => s == e) lb.Stops < 0 := nb.1 c2
        rw [if_neg (by simpa using c1), if_pos (decide_eq_true c2)]
        by_cases d1 : fixI (fun e => s == e) la.Stops < 1
        ·rw [if_pos (decide_eq_true d1)]; exact no
        ·rw [if_neg (by simpa using d1), if_pos (decide_eq_true d2)]; exact no
       ·have f1 : 0 ≤ fixI (fun e => s == e) lb.Stops := by
         refine Classical.byContradiction fun hc => c2 (nb.2 (by omega))
        have d2 : ¬ fixI (fun e => s == e) lb.Stops < 0 := by omega
        rw [if_neg (by simpa using c1), if_neg (by simpa using c2)]
        by_cases c3 : ea = s
        ·have d1 := (ff f0).1 c3
         rw [if_pos (by simpa using c3), if_pos (decide_eq_true d1)]; exact no
        ·have d1 : ¬ fixI (fun e => s == e) la.Stops < 1 := fun h => c3 ((ff f0).2 h)
         rw [if_neg (by simpa using c3), if_neg (by simpa using d1), if_neg (by simpa using d2)]
         by_cases c4 : eb = s
         ·have d4 := (fl f1).1 c4
          have q1 : (eb == s) = true := by simpa using c4
          have q2 : (fixI (fun e => s == e) lb.Stops == (lb.Stops.length : Int) - 1) = true := by simpa using d4
          rw [q1, q2]; exact no
         ·have d4 : ¬ fixI (fun e => s == e) lb.Stops = (lb.Stops.length : Int) - 1 := fun h => c4 ((fl f1).2 h)
          have q1 : (eb == s) = false := by simpa using c4
          have q2 : (fixI (fun e => s == e) lb.Stops == (lb.Stops.length : Int) - 1) = false := by simpa using d4
          rw [q1, q2]
          simp only [qb, Bool.false_eq_true, if_false]
          obtain ⟨d, w1, w2, w3, w4⟩ := wait_ok hpp (x := restO n p xa s) (y := restO n p xb s) ⟨by omega, ra4⟩ ⟨by omega, rb4⟩ hw
          rw [chk_of (show p ≠ 0 by omega)]
          simp only [qb]
          rw [w1, w2]
          exact ⟨walk + d, true, rfl, rfl, fun _ => ⟨by omega, by omega, hw.1, hw.2, hpp.2⟩⟩
     ·have ha' : 0 ≤ a ∧ a ≤ (l.length : Int) - 1 := by omega
      have hb' : 0 ≤ b ∧ b ≤ (l.length : Int) - 1 := by omega
      have hab' : (a == b) = false := by simpa using hab
      simpa only [decide_eq_true hA, decide_eq_true ha, decide_eq_true hbb, decide_eq_true ha', decide_eq_true hb', hab', decide_eq_false hw, Bool.not_true, Bool.not_false, Bool.false_eq_true, if_false, if_true, qb] using no
   ·have ha' : 0 ≤ a ∧ a ≤ (l.length : Int) - 1 := by omega
    have hb' : ¬ (0 ≤ b ∧ b ≤ (l.length : Int) - 1) := by omega
    simpa only [decide_eq_true hA, decide_eq_true ha, decide_eq_false hbb, decide_eq_true ha', decide_eq_false hb', Bool.not_true, Bool.not_false, Bool.false_eq_true, if_false, if_true, qb] using no
  ·have ha' : ¬ (0 ≤ a ∧ a ≤ (l.length : Int) - 1) := by omega
   simpa only [decide_eq_true hA, decide_eq_false ha, decide_eq_false ha', Bool.not_true, Bool.not_false, Bool.false_eq_true, if_false, if_true, qb] using no
 ·simpa only [decide_eq_false hA, Bool.not_true, Bool.not_false, Bool.false_eq_true, if_false, if_true, qb] using no
theorem mt_both {n : Network} (hb : Bd n) {p : Int} (hp : -10 ≤ p ∧ p ≤ 1000) {l : List Pattern} (hl : l.length ≤ 1000) (a b : Int) :
  ∃ (r : List Int) (k : Bool), zq8 n p l a b = some (r, k) ∧ zq34 n p l a b = some (r, k) ∧ r.length ≤ 1000 := by
 unfold zq8 zq34
 simp only [validO_eq hb hp hl, l10Good_eq hb hp hl, isPat_eq, l1In_eq, qb]
 rw [w64_id (x := (l.length : Int) - 1) (by omega)]
 have no : ∃ (r : List Int) (k : Bool), some (([] : List Int), false) = some (r, k) ∧ some (([] : List Int), false) = some (r, k) ∧ r.length ≤ 1000 := ⟨[], false, rfl, rfl, by simp⟩
 by_cases hA : GoodO n p l
 ·by_cases ha : 0 ≤ a ∧ a < (l.length : Int)
  ·have ha' : 0 ≤ a ∧ a ≤ (l.length : Int) - 1 := by omega
   by_cases hbb : 0 ≤ b ∧ b < (l.length : Int)
   ·have hb' : 0 ≤ b ∧ b ≤ (l.length : Int) - 1 := by omega
    simp only [decide_eq_true hA, decide_eq_true ha, decide_eq_true hbb, decide_eq_true ha', decide_eq_true hb', Bool.not_true, Bool.false_eq_true, if_false, if_true, qb]
    obtain ⟨⟨hg, hpp, hl1, hl3⟩, hv⟩ := id hA
    obtain ⟨xa, hxa⟩ := get_ex (l := l) (i := a.toNat) (by omega)
    obtain ⟨xb, hxb⟩ := get_ex (l := l) (i := b.toNat) (by omega)
    have pa := hv _ xa hxa
    have pb := hv _ xb hxb
    obtain ⟨la, hla⟩ := get_ex (l := n.Lines) (i := xa.Line.toNat) (by have := pa.1; omega)
    have ia : idx l a = some xa := idx_of ha.1 hxa
    have ib : idx l b = some xb := idx_of hbb.1 hxb
    have ja : idx n.Lines xa.Line = some la := idx_of pa.1.1 hla
    have hal := (hb.2.2 la (List.mem_of_getElem? hla)).1
    rw [ia, qb, qb, ja, qb, qb]
    obtain ⟨r, r', e1, e2, rfl, h3⟩ : ∃ (r r' : List Int), iter (zq8_L1 n p l a b la) ((0 : Int), ([] : List Int)) = some r ∧ iter (zq34_L1 n p l a b la) ((0 : Int), ([] : List Int)) = some r' ∧ r = r' ∧ r.length ≤ 1000 := by
     refine iter2 (fun m (s s' : Int × List Int) => ∃ i : Nat, m + i = la.Stops.length ∧ s.1 = (i : Int) ∧ s' = s ∧ s.2.length ≤ i) (fun (r r' : List Int) => r = r' ∧ r.length ≤ 1000) ?_ (k := la.Stops.length) ⟨0, by omega, rfl, rfl, by simp⟩
     rintro m ⟨v, r⟩ s' ⟨i, hm, hv1, rfl, hr⟩
     dsimp only at hv1 hr
     subst hv1
     unfold zq8_L1 zq34_L1
     dsimp only
     by_cases hlt : i < la.Stops.length
     ·left
      obtain ⟨e, he⟩ := get_ex hlt
      obtain ⟨q1, q2, _, _⟩ := rest_both hb hg hpp pa e
      obtain ⟨q3, q4, _, _⟩ := rest_both hb hg hpp pb e
      rw [if_pos (by simpa using hlt), if_pos (by simpa using hlt), ixs he, ia, ib]
      simp only [qb]
      rw [q1, q2, q3, q4]
      simp only [qb]
      rw [w64_succ (by omega)]
      by_cases hc : restO n p xa e = restO n p xb e
      ·have c1 : (restO n p xa e == restO n p xb e) = true := by simpa using hc
       have c2 : (restO n p xb e == restO n p xa e) = true := by simpa using hc.symm
       rw [if_pos c1, if_pos c2, chk_of (by rw [List.length_singleton]; omega)]
       exact ⟨_, _, m - 1, rfl, rfl, by omega, i + 1, by omega, rfl, rfl, by show (r ++ _).length ≤ _; rw [List.length_append, List.length_singleton]; omega⟩
      ·have c1 : (restO n p xa e == restO n p xb e) = false := by simpa using hc
       have c2 : (restO n p xb e == restO n p xa e) = false := by simpa using fun h => hc h.symm
       rw [c1, c2]
       exact ⟨_, _, m - 1, rfl, rfl, by omega, i + 1, by omega, rfl, rfl, by show r.length ≤ _; omega⟩
     ·right
      rw [if_neg (by simpa using hlt), if_neg (by simpa using hlt)]
      exact ⟨r, r, rfl, rfl, rfl, by omega⟩
    rw [e1, e2]
    exact ⟨r, true, rfl, rfl, h3⟩
   ·have hb' : ¬ (0 ≤ b ∧ b ≤ (l.length : Int) - 1) := by omega
    simpa only [decide_eq_true hA, decide_eq_true ha, decide_eq_false hbb, decide_eq_true ha', decide_eq_false hb', Bool.not_true, Bool.not_false, Bool.false_eq_true, if_false, if_true, qb] using no
  ·have ha' : ¬ (0 ≤ a ∧ a ≤ (l.length : Int) - 1) := by omega
   simpa only [decide_eq_true hA, decide_eq_false ha, decide_eq_false ha', Bool.not_true, Bool.not_false, Bool.false_eq_true, if_false, if_true, qb] using no
 ·simpa only [decide_eq_false hA, Bool.not_true, Bool.not_false, Bool.false_eq_true, if_false, if_true, qb] using no
theorem et_both (count p : Int) : ∃ (r : List Int) (k : Bool), zq4 count p = some (r, k) ∧ zq31 count p = some (r, k) ∧ r.length ≤ 1000 := by
 unfold zq4 zq31
 simp only [within_eq, l1In_eq, qb]
 have no : ∃ (r : List Int) (k : Bool), some (([] : List Int), false) = some (r, k) ∧ some (([] : List Int), false) = some (r, k) ∧ r.length ≤ 1000 := ⟨[], false, rfl, rfl, by simp⟩
 by_cases h1 : 1 ≤ p ∧ p ≤ 60
 ·by_cases h2 : 1 ≤ count ∧ count ≤ p
  ·simp only [decide_eq_true h1, decide_eq_true h2, Bool.not_true, Bool.false_eq_true, if_false, if_true, qb]
   obtain ⟨N, rfl⟩ : ∃ N : Nat, count = (N : Int) := ⟨count.toNat, by omega⟩
   have hf : ∀ i : Nat, i < N → w64 ((w64 ((i : Int) * p)).tdiv (N : Int)) = w64 ((w64 ((i : Int) * p)).tdiv (N : Int)) := fun _ _ => rfl
   have e1 : iter (zq4_L1 (N : Int) p) ((0 : Int), (List.replicate (N : Int).toNat (0 : Int))) = some ((List.range N).map fun (i : Nat) => w64 ((w64 ((i : Int) * p)).tdiv (N : Int))) := by
    refine Tot.val (Tot.iter (fun m (st : Int × List Int) => ∃ i : Nat, m + i = N ∧ st.1 = (i : Int) ∧ st.2.length = N ∧ ∀ j, j < i → st.2[j]? = some (w64 ((w64 ((j : Int) * p)).tdiv (N : Int)))) (n := N) ⟨0, by omega, rfl, by simp, fun j hj => by omega⟩ ?_)
    rintro m ⟨v, a⟩ ⟨i, hm, hv1, hal, ha⟩
    dsimp only at hv1 hal ha
    subst hv1
    unfold zq4_L1
    dsimp only
    rw [List.length_replicate, Int.toNat_natCast]
    refine .iteP (fun hlt => ?_) (fun hge => .dn ?_)
    ·obtain ⟨g, hgi⟩ := get_ex (l := a) (i := i) (by omega)
     rw [chk_of (show (N : Int) ≠ 0 by omega), qb, ixs hgi, qb, Int.toNat_natCast]
     refine .nx ⟨m - 1, by omega, i + 1, by omega, w64_succ (by omega), by show (a.set i _).length = _; rw [List.length_set]; exact hal, fun j hj => ?_⟩
     show (a.set i _)[j]? = _
     by_cases hji : j = i
     ·subst hji; rw [List.getElem?_set_self (by omega)]
     ·rw [List.getElem?_set_ne (Ne.symm hji)]; exact ha j (by omega)
    ·refine List.ext_getElem? fun j => ?_
     rw [List.getElem?_map]
     by_cases hj : j < N
     ·rw [ha j (by omega), List.getElem?_range hj]; rfl
     ·rw [List.getElem?_eq_none (by omega), List.getElem?_eq_none (by rw [List.length_range]; omega)]; rfl
   have e2 : iter (zq37_L1 (N : Int) p) ((0 : Int), ([] : List Int)) = some ((List.range N).map fun (i : Nat) => w64 ((w64 ((i : Int) * p)).tdiv (N : Int))) := by
    refine Tot.val (Tot.iter (fun m (st : Int × List Int) => ∃ i : Nat, m + i = N ∧ st.1 = (i : Int) ∧ st.2 = (List.range i).map fun (i : Nat) => w64 ((w64 ((i : Int) * p)).tdiv (N : Int))) (n := N) ⟨0, by omega, rfl, rfl⟩ ?_)
    rintro m ⟨v, a⟩ ⟨i, hm, hv1, ha⟩
    dsimp only at hv1 ha
    subst hv1; subst ha
    unfold zq37_L1
    dsimp only
    refine .iteP (fun hlt => ?_) (fun hge => .dn (by rw [show i = N by omega]))
    rw [chk_of (show (N : Int) ≠ 0 by omega), qb]
    exact .chk (by rw [List.length_map, List.length_range, List.length_singleton]; omega) (.nx ⟨m - 1, by omega, i + 1, by omega, w64_succ (by omega), by rw [List.range_succ, List.map_append]; rfl⟩)
   unfold zq37
   rw [chk_of (by omega), e1, e2]
   exact ⟨_, true, rfl, rfl, by rw [List.length_map, List.length_range]; omega⟩
  ·simpa only [decide_eq_true h1, decide_eq_false h2, Bool.not_true, Bool.not_false, Bool.false_eq_true, if_false, if_true, qb] using no
 ·simpa only [decide_eq_false h1, Bool.not_true, Bool.not_false, Bool.false_eq_true, if_false, if_true, qb] using no
theorem moved_ok {n : Network} {p s : Int} {l c : List Pattern} (hc : c.length ≤ 3) (hm : c.map (·.Line) = l.map (·.Line)) (g : Int) (k : Bool) (r1 : Network × Int × List Pattern × Int) (h : r1.2.2.1 = l) :
  iter (v_FnOffsets_L1 r1 (offO c, g, k)) ((0 : Int), l) = some c := by
 have hlen : l.length = c.length := by have := congrArg List.length hm; simpa using this.symm
 refine Tot.val (Tot.iter (fun m (st : Int × List Pattern) => ∃ i : Nat, m + i = l.length ∧ st.1 = (i : Int) ∧ st.2.length = l.length ∧ ∀ j, j < i → st.2[j]? = c[j]?) (n := l.length) ⟨0, by omega, rfl, rfl, fun j hj => by omega⟩ ?_)
 rintro m ⟨v, a⟩ ⟨i, hmi, hv, hal, ha⟩
 dsimp only at hv hal ha
 subst hv
 unfold v_FnOffsets_L1
 dsimp only
 refine .iteP (fun hlt => ?_) (fun hge => .dn ?_)
 ·obtain ⟨x, hx⟩ := get_ex (l := l) (i := i) (by omega)
  obtain ⟨y, hy⟩ := get_ex (l := c) (i := i) (by omega)
  obtain ⟨z, hz⟩ := get_ex (l := a) (i := i) (by omega)
  have hxy : x.Line = y.Line := by
   have := congrArg (fun q : List Int => q[i]?) hm
   simp only [List.getElem?_map, hx, hy, Option.map_some, Option.some.injEq] at this
   exact this.symm
  have ho : (offO c)[i]? = some y.Offset := by unfold offO; rw [List.getElem?_map, hy]; rfl
  rw [h, ixs hx, qb, ixs ho, qb, ixs hz, qb, Int.toNat_natCast]
  refine .nx ⟨m - 1, by omega, i + 1, by omega, w64_succ (by omega), by show (a.set i _).length = _; rw [List.length_set]; exact hal, fun j hj => ?_⟩
  show (a.set i _)[j]? = _
  by_cases hji : j = i
  ·subst hji; rw [List.getElem?_set_self (by omega), hy, hxy]
  ·rw [List.getElem?_set_ne (Ne.symm hji)]; exact ha j (by omega)
 ·refine List.ext_getElem? fun j => ?_
  by_cases hj : j < l.length
  ·exact ha j (by omega)
  ·rw [List.getElem?_eq_none (by omega), List.getElem?_eq_none (by omega)]
theorem offsets_true (code : List UInt8) : v_FnOffsets code = some true := by
 unfold v_FnOffsets
 refine Tot.val (.eq (rBig_eq code) (.iteP (fun _ => .ok rfl) (fun _ => ?_)))
 refine .call (drawBo_ok code) fun ⟨n, p, l, s⟩ ⟨hb, hp, hl⟩ => ?_
 dsimp only at hb hp hl ⊢
 obtain ⟨off, g, k, e1, e2, h3, h4⟩ := best_both hb hp (l := l) (by omega) s
 rw [e1, qb, e2, qb]
 dsimp only
 rw [rInts_refl off (by omega)]
 simp only [beq_self_eq_true, bne_self_eq_false, Bool.not_true, Bool.false_eq_true, if_false, qb]
 have hmid : Tot (if k = true then
   (chk (([] : List Pattern).length + l.length ≤ 4294967296)).bind fun u =>
   (iter (v_FnOffsets_L1 (n, p, l, s) (off, g, k)) ((0 : Int), (([] : List Pattern) ++ l))).bind fun (i1 : List Pattern) =>
   (zq7 n p i1 s).bind fun r5 =>
   (zq7 n p l s).bind fun r6 =>
   (if (!r5.2.2) = true then some true else if (!r6.2.2) = true then some true else if (r5.1 != g) = true then some true else if (decide (r6.1 < g)) = true then some true else (idx off 0).bind fun e8 =>
   (idx l 0).bind fun e9 =>
   some (e8 != e9.Offset)).bind fun (v1 : Bool) =>
   if v1 = true then some (Fl.ret false) else some (Fl.go ())
  else some (Fl.go ()) : Option (Fl Bool Unit)) fun v => v = .go () := by
  cases k with
  | false => exact .ok rfl
  | true =>
   obtain ⟨hA, ht, c, hc, hm, h0, rfl, rfl, hle⟩ := h4 rfl
   rw [if_pos rfl, chk_of (by simp; omega), qb]
   have hmv := moved_ok (n := n) (p := p) (s := s) hc.1 hm (gO n p s c) true (n, p, l, s) rfl
   rw [show (([] : List Pattern) ++ l) = l from rfl, hmv, qb]
   have hAc : AskO n p c s := ⟨⟨⟨hA.1.1.1, hA.1.1.2.1, by have := hc.2.1; omega, by have := hc.1; omega⟩, hc.2.2.1⟩, hA.2⟩
   rcases largest_eq hb hp (l := c) (by have := hc.1; omega) s with ⟨q, _⟩ | ⟨_, _, x, q1, _⟩
   ·exact absurd ⟨hAc, hc⟩ q
   rcases largest_eq hb hp (l := l) (by omega) s with ⟨q, _⟩ | ⟨_, _, y, q2, _⟩
   ·exact absurd ⟨hA, ht⟩ q
   rw [q1, qb, q2, qb]
   obtain ⟨z, hz⟩ := get_ex (l := l) (i := 0) (by have := ht.2.1; omega)
   have hz2 : (offO c)[0]? = some z.Offset := by unfold offO; rw [List.getElem?_map, h0, hz]; rfl
   have hlt : decide (gO n p s l < gO n p s c) = false := decide_eq_false (by omega)
   dsimp only
   rw [idx0, hz2, idx0, hz, hlt]
   simp only [Bool.not_true, Bool.false_eq_true, if_false, bne_self_eq_false, qb]
   exact .ok rfl
 refine .flb (hmid.mono fun v hv => ⟨fun r h => (by rw [hv] at h; cases h), fun u _ => ?_⟩)
 refine .call (drawTw_ok code) fun ⟨n2, p2, l2, a2, b2, s2, w2⟩ ⟨hb2, hp2, hl2⟩ => ?_
 dsimp only at hb2 hp2 hl2 ⊢
 obtain ⟨w, k2, t1, t2, t3⟩ := tw_both hb2 hp2 (l := l2) (by omega) a2 b2 s2 w2
 rw [t1, qb, t2, qb]
 simp only [beq_self_eq_true, bne_self_eq_false, Bool.not_true, Bool.false_eq_true, if_false]
 have hc2 : (if k2 = true then if (decide (w < w2)) = true then some true else some (decide ((w64 (w2 + p2)) ≤ w)) else some false) = some false := by
  cases k2 with
  | false => rfl
  | true =>
   obtain ⟨t4, t5, t6, t7, t8⟩ := t3 rfl
   have c1 : decide (w < w2) = false := decide_eq_false (by omega)
   have c2 : decide (w64 (w2 + p2) ≤ w) = false := decide_eq_false (by rw [w64_id (by omega)]; omega)
   rw [c1, c2]; rfl
 rw [hc2, qb, if_neg (by simp)]
 refine .call (drawMt_ok code) fun ⟨n3, p3, l3, a3, b3⟩ ⟨hb3, hp3, hl3⟩ => ?_
 dsimp only at hb3 hp3 hl3 ⊢
 obtain ⟨r, k3, m1, m2, m3⟩ := mt_both hb3 hp3 (l := l3) (by omega) a3 b3
 rw [m1, qb, m2, qb]
 refine .call (drawEt_ok code) fun ⟨cn, pr⟩ _ => ?_
 obtain ⟨r4, k4, n1, n2, n3⟩ := et_both cn pr
 dsimp only
 rw [n1, qb, n2, qb]
 dsimp only
 rw [rInts_refl r (by omega), rInts_refl r4 (by omega)]
 simp only [beq_self_eq_true, if_true, qb]
 exact .ok rfl
end Go.Proofs.Ytjahononbnbjnaa
