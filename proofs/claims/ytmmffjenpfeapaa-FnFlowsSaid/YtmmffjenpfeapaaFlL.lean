/- The plain law: what the models compute, no program in sight. -/
import Derived.Test.YtmmffjenpfeapaaFlM
import Derived.Test.YtmmffjenpfeapaaAbStb
namespace Go.Proofs.Ytmmffjenpfeapaa
open Go Go.Ab
set_option maxHeartbeats 4000000
set_option linter.unusedVariables false
set_option linter.unusedSimpArgs false
theorem qb {α β : Type} (a : α) (f : α → Option β) : (some a).bind f = f a := rfl
def Cur (k : Nat) (c : l1Cur) : Prop := 0 ≤ c.at_ ∧ c.at_ ≤ k
theorem Cur.mono {k k' : Nat} {c : l1Cur} (h : Cur k c) (hk : k ≤ k') : Cur k' c := ⟨h.1, by have := h.2; omega⟩
theorem next_ok {k : Nat} {c : l1Cur} (h : Cur k c) (hk : k ≤ 4000000000) : ∃ r, zq46 c = some r ∧ Cur (k + 1) r.2 ∧ 0 ≤ r.1 ∧ r.1 ≤ 255 := by
 obtain ⟨h0, h1⟩ := h
 have hw : w64 (c.at_ + 1) = c.at_ + 1 := w64_id (by omega)
 have hcur : ∀ s, Cur (k + 1) ⟨c.code_, w64 (c.at_ + 1), s⟩ := fun s => by rw [hw]; exact ⟨by show 0 ≤ c.at_ + 1; omega, by show c.at_ + 1 ≤ _; omega⟩
 unfold zq46
 have hv : ∃ v, (if (decide (c.at_ < (c.code_.length : Int))) = true then (idx c.code_ c.at_).bind fun e1 => some (w64 ((e1.toNat : Int))) else some 0) = some v ∧ 0 ≤ v ∧ v ≤ 255 := by
  by_cases hlt : c.at_ < c.code_.length
  ·obtain ⟨x, hx, _, _⟩ := idx_lt h0 hlt
   have := x.toNat_lt
   refine ⟨(x.toNat : Int), ?_, by omega, by omega⟩
   simp only [hlt, decide_true, if_true, hx, qb]
   rw [w64_id (by omega)]
  ·exact ⟨0, by simp [hlt], by omega, by omega⟩
 obtain ⟨v, hv, hv0, hv1⟩ := hv
 rw [hv]
 simp only [qb]
 split
 ·exact ⟨_, rfl, hcur _, hv0, hv1⟩
 ·rw [chk_of (by omega)]
  exact ⟨_, rfl, hcur _, and255 _⟩
theorem pick_ok {k : Nat} {c : l1Cur} (n : Int) (h : Cur k c) (hk : k ≤ 3000000000) : ∃ r, zq50 c n = some r ∧ Cur (k + 2) r.2 ∧ 0 ≤ r.1 ∧ (r.1 < n ∨ r.1 = 0) := by
 unfold zq50
 by_cases hn : n ≤ 1
 ·exact ⟨(0, c), by simp [hn], h.mono (by omega), by simp, .inr rfl⟩
 ·obtain ⟨r, hr, hc, h0, h1⟩ := next_ok h (by omega)
  have hn' : decide (n ≤ 1) = false := by simpa using hn
  simp only [hn', Bool.false_eq_true, if_false, hr, qb]
  have hne : chk (n ≠ 0) = some () := chk_of (by omega)
  by_cases h2 : 200 < n
  ·obtain ⟨r', hr', hc', h0', h1'⟩ := next_ok hc (by omega)
   have e1 : w64 (r.1 * 256) = r.1 * 256 := w64_id (by omega)
   have e2 : w64 (r.1 * 256 + r'.1) = r.1 * 256 + r'.1 := w64_id (by omega)
   have h3 := tmod_rng (a := r.1 * 256 + r'.1) (b := n) (by omega) (by omega)
   simp only [h2, decide_true, if_true, hr', qb, hne, e1, e2]
   exact ⟨_, rfl, hc'.mono (by omega), h3.1, .inl h3.2⟩
  ·have h2' : decide (200 < n) = false := by simpa using h2
   have h3 := tmod_rng (a := r.1) (b := n) (by omega) (by omega)
   simp only [h2', Bool.false_eq_true, if_false, qb, hne]
   exact ⟨_, rfl, hc.mono (by omega), h3.1, .inl h3.2⟩
theorem amongw_ok {k : Nat} {c : l1Cur} (l : List Int) (hl : l ≠ []) (h : Cur k c) (hk : k ≤ 3000000000) : ∃ r, zq37 c l = some r ∧ Cur (k + 2) r.2 ∧ r.1 ∈ l := by
 unfold zq37
 obtain ⟨r, hr, hc, h0, h1⟩ := pick_ok (l.length : Int) h hk
 have hpos : 0 < l.length := List.length_pos_iff.2 hl
 obtain ⟨x, hx, _, hm⟩ := idx_lt (l := l) h0 (by omega)
 simp only [hr, qb, hx]
 exact ⟨_, rfl, hc, hm⟩
theorem among_ok {k : Nat} {c : l1Cur} (l : List Int) (hl : l ≠ []) (h : Cur k c) (hk : k ≤ 3000000000) : ∃ r, zq36 c l = some r ∧ Cur (k + 2) r.2 ∧ r.1 ∈ l := by
 have : zq36 c l = zq37 c l := rfl
 rw [this]; exact amongw_ok l hl h hk
theorem one_ok {k : Nat} {c : l1Cur} (n : Int) (h : Cur k c) (hk : k ≤ 3000000000) : ∃ r, zq49 c n = some r ∧ Cur (k + 2) r.2 := by
 unfold zq49
 obtain ⟨r, hr, hc, _, _⟩ := pick_ok n h hk
 simp only [hr, qb]
 exact ⟨_, rfl, hc⟩
theorem of_ok {k : Nat} {c : l1Cur} (l : List ByteArray) (hl : l ≠ []) (h : Cur k c) (hk : k ≤ 3000000000) : ∃ r, zq47 c l = some r ∧ Cur (k + 2) r.2 ∧ r.1 ∈ l := by
 unfold zq47
 obtain ⟨r, hr, hc, h0, h1⟩ := pick_ok (l.length : Int) h hk
 have hpos : 0 < l.length := List.length_pos_iff.2 hl
 obtain ⟨x, hx, _, hm⟩ := idx_lt (l := l) h0 (by omega)
 simp only [hr, qb, hx]
 exact ⟨_, rfl, hc, hm⟩
theorem ofw_ok {k : Nat} {c : l1Cur} (l : List ByteArray) (hl : l ≠ []) (h : Cur k c) (hk : k ≤ 3000000000) : ∃ r, zq48 c l = some r ∧ Cur (k + 2) r.2 ∧ r.1 ∈ l := by
 have : zq48 c l = zq47 c l := rfl
 rw [this]; exact of_ok l hl h hk
theorem cur0 (code : List UInt8) : Cur 0 ⟨code, 0, ⟨0⟩⟩ := ⟨by show (0 : Int) ≤ 0; omega, by show (0 : Int) ≤ _; omega⟩
theorem within_eq (n lo hi : Int) : zq28 n lo hi = some (decide (lo ≤ n ∧ n ≤ hi)) := by
 unfold zq28
 by_cases h : lo ≤ n <;> simp [h]
theorem l1In_eq (n lo hi : Int) : zq52 n lo hi = some (decide (lo ≤ n ∧ n ≤ hi)) := by
 unfold zq52
 by_cases h : lo ≤ n <;> simp [h]
def ChOK (i : Nat) (c : UInt8) : Prop := (97 ≤ (c.toNat : Int) ∧ (c.toNat : Int) ≤ 122) ∨ (i ≠ 0 ∧ 48 ≤ (c.toNat : Int) ∧ (c.toNat : Int) ≤ 57)
def NameOK (s : ByteArray) : Prop := (1 ≤ s.size ∧ s.size ≤ 8) ∧ ∀ (i : Nat) c, s.data.toList[i]? = some c → ChOK i c
open Classical in
noncomputable instance (s : ByteArray) : Decidable (NameOK s) := Classical.propDecidable _
theorem size_list (s : ByteArray) : s.data.toList.length = s.size := by simp
theorem getD_of {α : Type} {l : List α} {i : Nat} {x d : α} (h : l[i]? = some x) : l.getD i d = x := by rw [List.getD_eq_getElem?_getD, h]; rfl
theorem isName_eq (s : ByteArray) : zq19 s = some (decide (NameOK s)) := by
 unfold zq19
 by_cases h1 : 1 ≤ s.size ∧ s.size ≤ 8
 ·have e1 : decide ((s.size : Int) < 1) = false := by simp; omega
  have e2 : decide (8 < (s.size : Int)) = false := by simp; omega
  simp only [e1, e2, Bool.false_eq_true, if_false, qb]
  have hsz := size_list s
  have key := Go.Ab.all_loop s.data.toList ChOK (step := zq19_L1 s) ?_ ?_ 0 0 rfl (by omega)
  ·rcases key with ⟨g1, g2⟩ | ⟨g1, g2⟩
   ·rw [g1, flb_go]
    have : NameOK s := ⟨h1, fun i c hc => g2 i c (by omega) hc⟩
    simp [this]
   ·rw [g1, flb_ret]
    have : ¬ NameOK s := fun hn => g2 fun i c _ hc => hn.2 i c hc
    simp [this]
  ·intro i x hx
   have hi := (List.getElem?_eq_some_iff.1 hx).1
   have hg : s.data.toList.getD (i : Int).toNat 0 = x := by rw [Int.toNat_natCast]; exact getD_of hx
   have hc : chk ((0 : Int) ≤ (i : Int) ∧ (i : Int) < (s.size : Int)) = some () := chk_of (by omega)
   have hlt : decide ((i : Int) < (s.size : Int)) = true := by simp; omega
   unfold zq19_L1
   simp only [hlt, if_true, hc, hg, qb, w64_succ (n := i) (by omega)]
   unfold ChOK
   by_cases a1 : (97 : Int) ≤ (x.toNat : Int)
   ·by_cases a2 : (x.toNat : Int) ≤ 122
    ·left; refine ⟨by simp [a1, a2], .inl ⟨a1, a2⟩⟩
    ·right
     refine ⟨?_, by omega⟩
     have b1 : decide ((x.toNat : Int) < 48) = false := by simp; omega
     have b2 : decide ((57 : Int) < (x.toNat : Int)) = true := by simp; omega
     have c1 : ¬ (x.toNat : Int) < 48 := by omega
     have c2 : (57 : Int) < (x.toNat : Int) := by omega
     by_cases hi0 : i = 0
     ·simp [a1, a2, hi0]
     ·have hi0' : ((i : Int) == 0) = false := by simp; omega
      simp [a1, a2, hi0', c1, c2]
   ·by_cases hi0 : i = 0
    ·right
     refine ⟨by simp [a1, hi0], by omega⟩
    ·have hi0' : ((i : Int) == 0) = false := by simp; omega
     by_cases b1 : (x.toNat : Int) < 48
     ·right
      refine ⟨by simp [a1, hi0', b1], by omega⟩
     ·by_cases b2 : (57 : Int) < (x.toNat : Int)
      ·right
       refine ⟨by simp [a1, hi0', b1, b2], by omega⟩
      ·left
       refine ⟨by simp [a1, hi0', b1, b2], .inr ⟨hi0, by omega, by omega⟩⟩
  ·unfold zq19_L1
   rw [hsz]
   simp
 ·have : ¬ NameOK s := fun h => h1 h.1
  have e : (if (decide ((s.size : Int) < 1)) = true then some true else some (decide (8 < (s.size : Int)))) = some true := by
   by_cases h2 : s.size < 1
   ·have : decide ((s.size : Int) < 1) = true := by simp; omega
    simp [this]
   ·have e1 : decide ((s.size : Int) < 1) = false := by simp; omega
    have e2 : decide (8 < (s.size : Int)) = true := by simp; omega
    simp [e1, e2]
  rw [e]
  simp [this]
theorem l2Name_eq (s : ByteArray) : zq70 s = some (decide (NameOK s)) := by
 unfold zq70
 rw [l1In_eq]
 simp only [qb]
 by_cases h1 : 1 ≤ s.size ∧ s.size ≤ 8
 ·have e1 : decide ((1 : Int) ≤ (s.size : Int) ∧ (s.size : Int) ≤ 8) = true := by simp; omega
  have hsz := size_list s
  obtain ⟨x0, hx0⟩ := get_ex (l := s.data.toList) (i := 0) (by omega)
  have hg0 : s.data.toList.getD (0 : Int).toNat 0 = x0 := getD_of hx0
  have hc0 : chk ((0 : Int) ≤ 0 ∧ 0 < (s.size : Int)) = some () := chk_of (by omega)
  simp only [e1, Bool.not_true, Bool.false_eq_true, if_false, hc0, hg0, qb]
  by_cases a0 : 97 ≤ (x0.toNat : Int) ∧ (x0.toNat : Int) ≤ 122
  ·have b1 : decide ((x0.toNat : Int) < 97) = false := by simp; omega
   have b2 : decide ((122 : Int) < (x0.toNat : Int)) = false := by simp; omega
   simp only [b1, b2, Bool.false_eq_true, if_false, qb]
   have key := Go.Ab.all_loop s.data.toList ChOK (step := zq70_L1 s) ?_ ?_ 0 0 rfl (by omega)
   ·rcases key with ⟨g1, g2⟩ | ⟨g1, g2⟩
    ·rw [g1, flb_go]
     have : NameOK s := ⟨h1, fun i c hc => g2 i c (by omega) hc⟩
     simp [this]
    ·rw [g1, flb_ret]
     have : ¬ NameOK s := fun hn => g2 fun i c _ hc => hn.2 i c hc
     simp [this]
   ·intro i x hx
    have hi := (List.getElem?_eq_some_iff.1 hx).1
    have hg : s.data.toList.getD (i : Int).toNat 0 = x := by rw [Int.toNat_natCast]; exact getD_of hx
    have hc : chk ((0 : Int) ≤ (i : Int) ∧ (i : Int) < (s.size : Int)) = some () := chk_of (by omega)
    have hlt : decide ((i : Int) < (s.size : Int)) = true := by simp; omega
    have h0 : i = 0 → x = x0 := fun h => by subst h; rw [hx0] at hx; cases hx; rfl
    unfold zq70_L1
    simp only [hlt, if_true, hc, hg, qb, w64_succ (n := i) (by omega)]
    unfold ChOK
    by_cases a1 : (x.toNat : Int) < 97
    ·have hi0 : i ≠ 0 := fun h => by have := h0 h; subst this; omega
     by_cases c1 : (x.toNat : Int) < 48
     ·right; refine ⟨by simp [a1, c1], by omega⟩
     ·by_cases c2 : (57 : Int) < (x.toNat : Int)
      ·right; refine ⟨by simp [a1, c1, c2], by omega⟩
      ·left; refine ⟨by simp [a1, c1, c2], .inr ⟨hi0, by omega, by omega⟩⟩
    ·by_cases a2 : (122 : Int) < (x.toNat : Int)
     ·right
      have c1 : ¬ (x.toNat : Int) < 48 := by omega
      have c2 : (57 : Int) < (x.toNat : Int) := by omega
      refine ⟨by simp [a1, a2, c1, c2], by omega⟩
     ·left; refine ⟨by simp [a1, a2], .inl ⟨by omega, by omega⟩⟩
   ·unfold zq70_L1
    rw [hsz]
    simp
  ·have : ¬ NameOK s := fun hn => by
    have := hn.2 0 x0 hx0
    unfold ChOK at this
    omega
   have e : (if (decide ((x0.toNat : Int) < 97)) = true then some true else some (decide ((122 : Int) < (x0.toNat : Int)))) = some true := by
    by_cases h2 : (x0.toNat : Int) < 97
    ·simp [h2]
    ·have : (122 : Int) < (x0.toNat : Int) := by omega
     simp [h2, this]
   rw [e]
   simp [this]
 ·have e1 : decide ((1 : Int) ≤ (s.size : Int) ∧ (s.size : Int) ≤ 8) = false := by simp; omega
  have : ¬ NameOK s := fun h => h1 h.1
  simp [e1, this]
theorem index_str_eq (l : List ByteArray) (hl : l.length ≤ 4000000000) (v : ByteArray) : zq84 l v = some (fixI (fun e => v.toList == e.toList) l) := by
 unfold zq84
 refine find_val l (fun e => v.toList == e.toList) (fun i x hx => ?_) (by unfold zq84_L1; simp)
 have hi := (List.getElem?_eq_some_iff.1 hx).1
 unfold zq84_L1
 have hlt : decide ((i : Int) < (l.length : Int)) = true := by simp; omega
 simp only [hlt, if_true, idx_nat, hx, qb, w64_succ (n := i) (by omega)]
 split <;> rfl
theorem index_int_eq (l : List Int) (hl : l.length ≤ 4000000000) (v : Int) : zq83 l v = some (fixI (fun e => v == e) l) := by
 unfold zq83
 refine find_val l (fun e => v == e) (fun i x hx => ?_) (by unfold zq83_L1; simp)
 have hi := (List.getElem?_eq_some_iff.1 hx).1
 unfold zq83_L1
 have hlt : decide ((i : Int) < (l.length : Int)) = true := by simp; omega
 simp only [hlt, if_true, idx_nat, hx, qb, w64_succ (n := i) (by omega)]
 split <;> rfl
theorem l2Place_eq (x : Line) (hl : x.Stops.length ≤ 4000000000) (v : Int) : zq73 x v = some (fixI (fun e => v == e) x.Stops) := by
 have hc : fixI (fun e => v == e) x.Stops = fixI (fun e => e == v) x.Stops := fixI_congr _ fun e => BEq.comm
 rw [hc]
 unfold zq73
 refine find_val x.Stops (fun e => e == v) (fun i y hx => ?_) (by unfold zq73_L1; simp)
 have hi := (List.getElem?_eq_some_iff.1 hx).1
 unfold zq73_L1
 have hlt : decide ((i : Int) < (x.Stops.length : Int)) = true := by simp; omega
 simp only [hlt, if_true, idx_nat, hx, qb, w64_succ (n := i) (by omega)]
 split <;> rfl
theorem bl_comm (a b : List UInt8) : (a == b) = (b == a) := BEq.comm
theorem l2Find_eq (l : List ByteArray) (hl : l.length ≤ 4000000000) (v : ByteArray) : zq66 l v = some (fixI (fun e => v.toList == e.toList) l) := by
 rw [fixI_congr l (q := fun e => e.toList == v.toList) fun e => bl_comm _ _]
 unfold zq66
 refine find_val l (fun e => e.toList == v.toList) (fun i x hx => ?_) (by unfold zq66_L1; simp)
 have hi := (List.getElem?_eq_some_iff.1 hx).1
 unfold zq66_L1
 have hlt : decide ((i : Int) < (l.length : Int)) = true := by simp; omega
 simp only [hlt, if_true, idx_nat, hx, qb, w64_succ (n := i) (by omega)]
 split <;> rfl
theorem l2LineNamed_eq (n : Network) (hl : n.Lines.length ≤ 4000000000) (v : ByteArray) : zq69 n v = some (fixI (fun e => v.toList == e.toList) (n.Lines.map (·.Name))) := by
 rw [fixI_map, fixI_congr n.Lines (q := fun e => e.Name.toList == v.toList) fun e => bl_comm _ _]
 unfold zq69
 refine find_val n.Lines (fun e => e.Name.toList == v.toList) (fun i x hx => ?_) (by unfold zq69_L1; simp)
 have hi := (List.getElem?_eq_some_iff.1 hx).1
 unfold zq69_L1
 have hlt : decide ((i : Int) < (n.Lines.length : Int)) = true := by simp; omega
 simp only [hlt, if_true, idx_nat, hx, qb, w64_succ (n := i) (by omega)]
 split <;> rfl
def NamesP (l : List ByteArray) : Prop := ∀ (i : Nat) x, l[i]? = some x → NameOK x ∧ fixI (fun e => x.toList == e.toList) l = (i : Int)
def LineP (st : Nat) (x : Line) : Prop := (2 ≤ x.Stops.length ∧ x.Stops.length ≤ 6) ∧ (x.Runs.length : Int) = (x.Stops.length : Int) - 1 ∧
 (∀ (i : Nat) e, x.Stops[i]? = some e → (0 ≤ e ∧ e < (st : Int)) ∧ fixI (fun y => e == y) x.Stops = (i : Int)) ∧ ∀ (i : Nat) r, x.Runs[i]? = some r → 1 ≤ r ∧ r ≤ 60
def Good (n : Network) : Prop := (2 ≤ n.Stops.length ∧ n.Stops.length ≤ 8) ∧ (1 ≤ n.Lines.length ∧ n.Lines.length ≤ 5) ∧ NamesP n.Stops ∧ NamesP (n.Lines.map (·.Name)) ∧ ∀ (i : Nat) x, n.Lines[i]? = some x → LineP n.Stops.length x
noncomputable instance (l : List ByteArray) : Decidable (NamesP l) := Classical.propDecidable _
noncomputable instance (st : Nat) (x : Line) : Decidable (LineP st x) := Classical.propDecidable _
noncomputable instance (n : Network) : Decidable (Good n) := Classical.propDecidable _
def Bd (n : Network) : Prop := n.Stops.length ≤ 1000 ∧ n.Lines.length ≤ 1000 ∧ ∀ x ∈ n.Lines, x.Stops.length ≤ 1000 ∧ x.Runs.length ≤ 1000
theorem areNames_eq (l : List ByteArray) (hl : l.length ≤ 1000) : zq13 l = some (decide (NamesP l)) := by
 unfold zq13
 rw [all_val (hd := Classical.propDecidable _) l (fun i x => NameOK x ∧ fixI (fun e => x.toList == e.toList) l = (i : Int)) (fun i x hx => ?_) (by unfold zq13_L1; simp)]
 ·by_cases h : NamesP l
  ·rw [if_pos (show ∀ (i : Nat) x, l[i]? = some x → NameOK x ∧ fixI (fun e => x.toList == e.toList) l = (i : Int) from h)]; simp [h]
  ·rw [if_neg (show ¬ ∀ (i : Nat) x, l[i]? = some x → NameOK x ∧ fixI (fun e => x.toList == e.toList) l = (i : Int) from h)]; simp [h]
 ·have hi := (List.getElem?_eq_some_iff.1 hx).1
  unfold zq13_L1
  have hlt : decide ((i : Int) < (l.length : Int)) = true := by simp; omega
  simp only [hlt, if_true, idx_nat, hx, qb, isName_eq, index_str_eq l (by omega), w64_succ (n := i) (by omega)]
  by_cases h1 : NameOK x
  ·by_cases h2 : fixI (fun e => x.toList == e.toList) l = (i : Int)
   ·left; simp [h1, h2]
   ·right; simp [h1, h2]
  ·right; simp [h1]
theorem lineNames_eq (n : Network) (hl : n.Lines.length ≤ 1000) : zq22 n = some (n.Lines.map (·.Name)) := by
 unfold zq22
 rw [chk_of (by omega)]
 simp only [qb]
 rw [fill_loop (fun x : Line => x.Name) n.Lines _ (by simp) (fun i a x y ha hy hx => ?_) (fun a ha => ?_)]
 ·rfl
 ·have hi := (List.getElem?_eq_some_iff.1 hx).1
  unfold zq22_L1
  have hlt : decide ((i : Int) < (n.Lines.length : Int)) = true := by simp; omega
  simp only [hlt, if_true, idx_nat, hx, hy, qb, w64_succ (n := i) (by omega), Int.toNat_natCast]
 ·unfold zq22_L1; simp
theorem isStop_eq (n : Network) (e : Int) : zq20 n e = some (decide (0 ≤ e ∧ e < (n.Stops.length : Int))) := by
 unfold zq20
 by_cases h : 0 ≤ e <;> simp [h]
theorem isLine_eq (n : Network) (e : Int) : zq18 n e = some (decide (0 ≤ e ∧ e < (n.Lines.length : Int))) := by
 unfold zq18
 by_cases h : 0 ≤ e <;> simp [h]
theorem isValidLine_eq (n : Network) (l : Line) (h1 : l.Stops.length ≤ 1000) (h2 : l.Runs.length ≤ 1000) : zq21 n l = some (decide (LineP n.Stops.length l)) := by
 unfold zq21
 rw [within_eq]
 have e0 : w64 ((l.Stops.length : Int) - 1) = (l.Stops.length : Int) - 1 := w64_id (by omega)
 simp only [qb, e0]
 by_cases a1 : 2 ≤ l.Stops.length ∧ l.Stops.length ≤ 6
 ·have d1 : decide ((2 : Int) ≤ (l.Stops.length : Int) ∧ (l.Stops.length : Int) ≤ 6) = true := by simp; omega
  simp only [d1, Bool.not_true, Bool.false_eq_true, if_false]
  by_cases a2 : (l.Runs.length : Int) = (l.Stops.length : Int) - 1
  ·have d2 : ((l.Runs.length : Int) != (l.Stops.length : Int) - 1) = false := by simp [a2]
   simp only [d2, qb, Bool.false_eq_true, if_false]
   rw [all_val (hd := Classical.propDecidable _) l.Stops (fun i e => (0 ≤ e ∧ e < (n.Stops.length : Int)) ∧ fixI (fun y => e == y) l.Stops = (i : Int)) (fun i x hx => ?_) (by unfold zq21_L1; simp)]
   ·rw [all_val (hd := Classical.propDecidable _) l.Runs (fun i r => 1 ≤ r ∧ r ≤ 60) (fun i x hx => ?_) (by unfold zq21_L2; simp)]
    ·by_cases b1 : ∀ (i : Nat) e, l.Stops[i]? = some e → (0 ≤ e ∧ e < (n.Stops.length : Int)) ∧ fixI (fun y => e == y) l.Stops = (i : Int)
     ·rw [if_pos b1]
      by_cases b2 : ∀ (i : Nat) r, l.Runs[i]? = some r → 1 ≤ r ∧ r ≤ 60
      ·rw [if_pos b2]
       have : LineP n.Stops.length l := ⟨a1, a2, b1, b2⟩
       simp [this]
      ·rw [if_neg b2]
       have : ¬ LineP n.Stops.length l := fun h => b2 h.2.2.2
       simp [this]
     ·rw [if_neg b1]
      have : ¬ LineP n.Stops.length l := fun h => b1 h.2.2.1
      simp [this]
    ·have hi := (List.getElem?_eq_some_iff.1 hx).1
     unfold zq21_L2
     have hlt : decide ((i : Int) < (l.Runs.length : Int)) = true := by simp; omega
     simp only [hlt, if_true, idx_nat, hx, qb, within_eq, w64_succ (n := i) (by omega)]
     by_cases b : 1 ≤ x ∧ x ≤ 60
     ·left; simp [b]
     ·right; simp [b]
   ·have hi := (List.getElem?_eq_some_iff.1 hx).1
    unfold zq21_L1
    have hlt : decide ((i : Int) < (l.Stops.length : Int)) = true := by simp; omega
    simp only [hlt, if_true, idx_nat, hx, qb, isStop_eq, index_int_eq l.Stops (by omega), w64_succ (n := i) (by omega)]
    by_cases b1 : 0 ≤ x ∧ x < (n.Stops.length : Int)
    ·by_cases b2 : fixI (fun y => x == y) l.Stops = (i : Int)
     ·left; simp [b1, b2]
     ·right; simp [b1, b2]
    ·right; simp [b1]
  ·have d2 : ((l.Runs.length : Int) != (l.Stops.length : Int) - 1) = true := by simp [a2]
   have : ¬ LineP n.Stops.length l := fun h => a2 h.2.1
   simp [d2, this]
 ·have d1 : decide ((2 : Int) ≤ (l.Stops.length : Int) ∧ (l.Stops.length : Int) ≤ 6) = false := by simp; omega
  have : ¬ LineP n.Stops.length l := fun h => a1 h.1
  simp [d1, this]
theorem l2Line_eq (l : Line) (st : Nat) (hst : st ≤ 1000) (h1 : l.Stops.length ≤ 1000) (h2 : l.Runs.length ≤ 1000) : zq68 l (st : Int) = some (decide (NameOK l.Name ∧ LineP st l)) := by
 unfold zq68
 rw [l2Name_eq]
 have e0 : w64 ((l.Stops.length : Int) - 1) = (l.Stops.length : Int) - 1 := w64_id (by omega)
 have e1 : w64 ((st : Int) - 1) = (st : Int) - 1 := w64_id (by omega)
 simp only [qb, e0, l1In_eq]
 by_cases a0 : NameOK l.Name
 ·simp only [a0, decide_true, Bool.not_true, Bool.false_eq_true, if_false, true_and]
  by_cases a1 : 2 ≤ l.Stops.length ∧ l.Stops.length ≤ 6
  ·have d1 : decide ((2 : Int) ≤ (l.Stops.length : Int) ∧ (l.Stops.length : Int) ≤ 6) = true := by simp; omega
   simp only [d1, Bool.not_true, Bool.false_eq_true, if_false]
   by_cases a2 : (l.Runs.length : Int) = (l.Stops.length : Int) - 1
   ·have d2 : ((l.Runs.length : Int) != (l.Stops.length : Int) - 1) = false := by simp [a2]
    simp only [d2, qb, Bool.false_eq_true, if_false]
    rw [all_val (hd := Classical.propDecidable _) l.Stops (fun i e => (0 ≤ e ∧ e < (st : Int)) ∧ fixI (fun y => e == y) l.Stops = (i : Int)) (fun i x hx => ?_) (by unfold zq68_L1; simp)]
    ·rw [all_val (hd := Classical.propDecidable _) l.Runs (fun i r => 1 ≤ r ∧ r ≤ 60) (fun i x hx => ?_) (by unfold zq68_L2; simp)]
     ·by_cases b1 : ∀ (i : Nat) e, l.Stops[i]? = some e → (0 ≤ e ∧ e < (st : Int)) ∧ fixI (fun y => e == y) l.Stops = (i : Int)
      ·rw [if_pos b1]
       by_cases b2 : ∀ (i : Nat) r, l.Runs[i]? = some r → 1 ≤ r ∧ r ≤ 60
       ·rw [if_pos b2]
        have : LineP st l := ⟨a1, a2, b1, b2⟩
        simp [this]
       ·rw [if_neg b2]
        have : ¬ LineP st l := fun h => b2 h.2.2.2
        simp [this]
      ·rw [if_neg b1]
       have : ¬ LineP st l := fun h => b1 h.2.2.1
       simp [this]
     ·have hi := (List.getElem?_eq_some_iff.1 hx).1
      unfold zq68_L2
      have hlt : decide ((i : Int) < (l.Runs.length : Int)) = true := by simp; omega
      simp only [hlt, if_true, idx_nat, hx, qb, l1In_eq, w64_succ (n := i) (by omega)]
      by_cases b : 1 ≤ x ∧ x ≤ 60
      ·left; simp [b]
      ·right; simp [b]
    ·have hi := (List.getElem?_eq_some_iff.1 hx).1
     unfold zq68_L1
     have hlt : decide ((i : Int) < (l.Stops.length : Int)) = true := by simp; omega
     simp only [hlt, if_true, idx_nat, hx, qb, l1In_eq, e1, l2Place_eq l (by omega), w64_succ (n := i) (by omega)]
     by_cases b1 : 0 ≤ x ∧ x < (st : Int)
     ·have d3 : decide (0 ≤ x ∧ x ≤ (st : Int) - 1) = true := by simp; omega
      by_cases b2 : fixI (fun y => x == y) l.Stops = (i : Int)
      ·left; simp only [d3]; simp [b1, b2]
      ·right; simp only [d3]; simp [b1, b2]
     ·have d3 : decide (0 ≤ x ∧ x ≤ (st : Int) - 1) = false := by simp; omega
      right; simp only [d3]; simp [b1]
   ·have d2 : ((l.Runs.length : Int) != (l.Stops.length : Int) - 1) = true := by simp [a2]
    have : ¬ LineP st l := fun h => a2 h.2.1
    simp [d2, this]
  ·have d1 : decide ((2 : Int) ≤ (l.Stops.length : Int) ∧ (l.Stops.length : Int) ≤ 6) = false := by simp; omega
   have : ¬ LineP st l := fun h => a1 h.1
   simp [d1, this]
 ·simp [a0]
theorem valid_eq (n : Network) (h : Bd n) : zq3 n = some (decide (Good n)) := by
 obtain ⟨h1, h2, h3⟩ := h
 unfold zq3
 simp only [within_eq, qb, areNames_eq n.Stops h1, lineNames_eq n h2, areNames_eq (n.Lines.map (·.Name)) (by simpa using h2)]
 by_cases a1 : 2 ≤ n.Stops.length ∧ n.Stops.length ≤ 8
 ·have d1 : decide ((2 : Int) ≤ (n.Stops.length : Int) ∧ (n.Stops.length : Int) ≤ 8) = true := by simp; omega
  simp only [d1, Bool.not_true, Bool.false_eq_true, if_false]
  by_cases a2 : 1 ≤ n.Lines.length ∧ n.Lines.length ≤ 5
  ·have d2 : decide ((1 : Int) ≤ (n.Lines.length : Int) ∧ (n.Lines.length : Int) ≤ 5) = true := by simp; omega
   simp only [d2, Bool.not_true, Bool.false_eq_true, if_false]
   by_cases a3 : NamesP n.Stops
   ·simp only [a3, decide_true, Bool.not_true, Bool.false_eq_true, if_false]
    by_cases a4 : NamesP (n.Lines.map (·.Name))
    ·simp only [a4, decide_true, Bool.not_true, qb, Bool.false_eq_true, if_false]
     rw [all_val (hd := Classical.propDecidable _) n.Lines (fun i x => LineP n.Stops.length x) (fun i x hx => ?_) (by unfold zq3_L1; simp)]
     ·by_cases b1 : ∀ (i : Nat) x, n.Lines[i]? = some x → LineP n.Stops.length x
      ·rw [if_pos b1]
       have : Good n := ⟨a1, a2, a3, a4, b1⟩
       simp [this]
      ·rw [if_neg b1]
       have : ¬ Good n := fun h => b1 h.2.2.2.2
       simp [this]
     ·have hi := (List.getElem?_eq_some_iff.1 hx).1
      obtain ⟨g1, g2⟩ := h3 x (List.mem_of_getElem? hx)
      unfold zq3_L1
      have hlt : decide ((i : Int) < (n.Lines.length : Int)) = true := by simp; omega
      simp only [hlt, if_true, idx_nat, hx, qb, isValidLine_eq n x g1 g2, w64_succ (n := i) (by omega)]
      by_cases b : LineP n.Stops.length x
      ·left; simp [b]
      ·right; simp [b]
    ·have : ¬ Good n := fun h => a4 h.2.2.2.1
     simp [a4, this]
   ·have : ¬ Good n := fun h => a3 h.2.2.1
    simp [a3, this]
  ·have d2 : decide ((1 : Int) ≤ (n.Lines.length : Int) ∧ (n.Lines.length : Int) ≤ 5) = false := by simp; omega
   have : ¬ Good n := fun h => a2 h.2.1
   simp [d2, this]
 ·have d1 : decide ((2 : Int) ≤ (n.Stops.length : Int) ∧ (n.Stops.length : Int) ≤ 8) = false := by simp; omega
  have : ¬ Good n := fun h => a1 h.1
  simp [d1, this]
theorem good_eq (n : Network) (h : Bd n) : zq67 n = some (decide (Good n)) := by
 obtain ⟨h1, h2, h3⟩ := h
 unfold zq67
 simp only [l1In_eq, qb]
 by_cases a1 : 2 ≤ n.Stops.length ∧ n.Stops.length ≤ 8
 ·have d1 : decide ((2 : Int) ≤ (n.Stops.length : Int) ∧ (n.Stops.length : Int) ≤ 8) = true := by simp; omega
  simp only [d1, Bool.not_true, Bool.false_eq_true, if_false]
  by_cases a2 : 1 ≤ n.Lines.length ∧ n.Lines.length ≤ 5
  ·have d2 : decide ((1 : Int) ≤ (n.Lines.length : Int) ∧ (n.Lines.length : Int) ≤ 5) = true := by simp; omega
   simp only [d2, Bool.not_true, qb, Bool.false_eq_true, if_false]
   rw [all_val (hd := Classical.propDecidable _) n.Stops (fun i x => NameOK x ∧ fixI (fun e => x.toList == e.toList) n.Stops = (i : Int)) (fun i x hx => ?_) (by unfold zq67_L1; simp)]
   ·rw [all_val (hd := Classical.propDecidable _) n.Lines (fun i x => (NameOK x.Name ∧ LineP n.Stops.length x) ∧ fixI (fun e => x.Name.toList == e.toList) (n.Lines.map (·.Name)) = (i : Int)) (fun i x hx => ?_) (by unfold zq67_L2; simp)]
    ·by_cases b1 : NamesP n.Stops
     ·rw [if_pos (show ∀ (i : Nat) x, n.Stops[i]? = some x → NameOK x ∧ fixI (fun e => x.toList == e.toList) n.Stops = (i : Int) from b1)]
      by_cases b2 : ∀ (i : Nat) x, n.Lines[i]? = some x → (NameOK x.Name ∧ LineP n.Stops.length x) ∧ fixI (fun e => x.Name.toList == e.toList) (n.Lines.map (·.Name)) = (i : Int)
      ·rw [if_pos b2]
       have : Good n := ⟨a1, a2, b1, fun i y hy => by
        rw [List.getElem?_map] at hy
        obtain ⟨x, hx, rfl⟩ := Option.map_eq_some_iff.1 hy
        exact ⟨(b2 i x hx).1.1, (b2 i x hx).2⟩, fun i x hx => (b2 i x hx).1.2⟩
       simp [this]
      ·rw [if_neg b2]
       have : ¬ Good n := fun h => b2 fun i x hx => by
        have h4 := h.2.2.2.1 i x.Name (by rw [List.getElem?_map, hx]; rfl)
        exact ⟨⟨h4.1, h.2.2.2.2 i x hx⟩, h4.2⟩
       simp [this]
     ·rw [if_neg (show ¬ ∀ (i : Nat) x, n.Stops[i]? = some x → NameOK x ∧ fixI (fun e => x.toList == e.toList) n.Stops = (i : Int) from b1)]
      have : ¬ Good n := fun h => b1 h.2.2.1
      simp [this]
    ·have hi := (List.getElem?_eq_some_iff.1 hx).1
     obtain ⟨g1, g2⟩ := h3 x (List.mem_of_getElem? hx)
     unfold zq67_L2
     have hlt : decide ((i : Int) < (n.Lines.length : Int)) = true := by simp; omega
     simp only [hlt, if_true, idx_nat, hx, qb, l2Line_eq x n.Stops.length h1 g1 g2, l2LineNamed_eq n (by omega), w64_succ (n := i) (by omega)]
     by_cases b1 : NameOK x.Name ∧ LineP n.Stops.length x
     ·by_cases b2 : fixI (fun e => x.Name.toList == e.toList) (n.Lines.map (·.Name)) = (i : Int)
      ·left; simp [b1, b2]
      ·right; simp [b1, b2]
     ·right; simp [b1]
   ·have hi := (List.getElem?_eq_some_iff.1 hx).1
    unfold zq67_L1
    have hlt : decide ((i : Int) < (n.Stops.length : Int)) = true := by simp; omega
    simp only [hlt, if_true, idx_nat, hx, qb, l2Name_eq, l2Find_eq n.Stops (by omega), w64_succ (n := i) (by omega)]
    by_cases b1 : NameOK x
    ·by_cases b2 : fixI (fun e => x.toList == e.toList) n.Stops = (i : Int)
     ·left; simp [b1, b2]
     ·right; simp [b1, b2]
    ·right; simp [b1]
  ·have d2 : decide ((1 : Int) ≤ (n.Lines.length : Int) ∧ (n.Lines.length : Int) ≤ 5) = false := by simp; omega
   have : ¬ Good n := fun h => a2 h.2.1
   simp [d2, this]
 ·have d1 : decide ((2 : Int) ≤ (n.Stops.length : Int) ∧ (n.Stops.length : Int) ≤ 8) = false := by simp; omega
  have : ¬ Good n := fun h => a1 h.1
  simp [d1, this]
theorem l1Own_eq (l : List Int) (h : l.length ≤ 1000) : zq57 l = some l := by
 unfold zq57
 rw [chk_of (by simp; omega)]; rfl
theorem l2Own_eq (n : Network) (h : Bd n) : zq71 n = some n := by
 obtain ⟨h1, h2, h3⟩ := h
 unfold zq71
 rw [chk_of (by simp; omega)]
 simp only [qb]
 rw [app_loop (fun x : Line => x) n.Lines (fun i a x ha hx => ?_) (fun a ha => ?_)]
 ·simp only [qb, List.map_id', List.nil_append]
 ·have hi := (List.getElem?_eq_some_iff.1 hx).1
  obtain ⟨g1, g2⟩ := h3 x (List.mem_of_getElem? hx)
  unfold zq71_L1
  have hlt : decide ((i : Int) < (n.Lines.length : Int)) = true := by simp; omega
  have hch : ∀ y : Line, chk (a.length + ([y] : List Line).length ≤ 4294967296) = some () := fun y => chk_of (by simp; omega)
  simp only [hlt, if_true, idx_nat, hx, qb, l1Own_eq _ g1, l1Own_eq _ g2, hch, w64_succ (n := i) (by omega)]
 ·unfold zq71_L1; simp
theorem l2Own_t_eq (n : Network) (h : Bd n) : zq72 n = some n := by
 have : zq72 n = zq71 n := rfl
 rw [this]; exact l2Own_eq n h
theorem l2Back_eq (s : List Int) (hs : s.length ≤ 1000) : zq64 s = some s.reverse := by
 unfold zq64
 have e0 : w64 ((s.length : Int) - 1) = (s.length : Int) - 1 := w64_id (by omega)
 rw [e0]
 have h := iter_rule (step := zq64_L1 s) (fun m a => ∃ j : Nat, a.1 = (s.length : Int) - 1 - j ∧ m + j = s.length ∧ a.2 = s.reverse.take j) (fun b => b = s.reverse) ?_ (k := s.length) (a := ((s.length : Int) - 1, [])) ⟨0, by simp, by omega, by simp⟩
 ·obtain ⟨b, hb, rfl⟩ := h
  rw [hb]; rfl
 rintro m ⟨v, i⟩ ⟨j, hv, hm, hi⟩
 simp only at hv hi
 subst hv
 by_cases hlt : j < s.length
 ·left
  have ev : (s.length : Int) - 1 - j = ((s.length - 1 - j : Nat) : Int) := by omega
  rw [ev]
  obtain ⟨e, he⟩ := get_ex (l := s) (i := s.length - 1 - j) (by omega)
  have hd : decide ((0 : Int) ≤ ((s.length - 1 - j : Nat) : Int)) = true := by simp
  have hlen : i.length = j := by rw [hi]; simp; omega
  have hch : chk (i.length + ([e] : List Int).length ≤ 4294967296) = some () := chk_of (by simp; omega)
  have ev2 : w64 (((s.length - 1 - j : Nat) : Int) - 1) = (s.length : Int) - 1 - ((j + 1 : Nat) : Int) := by rw [w64_id (by omega)]; omega
  refine ⟨((s.length : Int) - 1 - ((j + 1 : Nat) : Int), i ++ [e]), m - 1, ?_, by omega, j + 1, rfl, by omega, ?_⟩
  ·unfold zq64_L1
   simp only [hd, if_true, idx_nat, he, hch, qb, ev2]
  ·show i ++ [e] = _
   rw [take_succ (x := e) (by rw [List.getElem?_reverse hlt]; exact he), hi]
 ·right
  have ej : j = s.length := by omega
  subst ej
  have hd : decide ((0 : Int) ≤ (s.length : Int) - 1 - (s.length : Int)) = false := by simp; omega
  refine ⟨i, by unfold zq64_L1; simp only [hd, Bool.false_eq_true, if_false], ?_⟩
  rw [hi, List.take_of_length_le (by simp)]
theorem l2BackF_eq (s : List Int) (hs : s.length ≤ 1000) : zq65 s = some s.reverse := l2Back_eq s hs
def LB (x : Line) : Prop := (2 ≤ x.Stops.length ∧ x.Stops.length ≤ 10) ∧ 1 ≤ x.Runs.length ∧ x.Runs.length ≤ 10
def NB (n : Network) : Prop := (2 ≤ n.Stops.length ∧ n.Stops.length ≤ 6) ∧ (1 ≤ n.Lines.length ∧ n.Lines.length ≤ 8) ∧ ∀ x ∈ n.Lines, LB x
theorem NB.bd {n : Network} (h : NB n) : Bd n := ⟨by have := h.1; omega, by have := h.2.1; omega, fun x hx => by have := h.2.2 x hx; unfold LB at this; omega⟩
theorem l1Num_ok (n : Int) (h0 : 0 ≤ n) (h1 : n < 10) : ∃ r, zq55 n = some r ∧ r.size ≤ 10 := by
 have e : zq55 n = zq55_F (zq55_k 4294967295) n := rfl
 rw [e]
 unfold zq55_F
 have d1 : decide (n < 0) = false := by simp; omega
 have d2 : decide (n < 10) = true := by simp; omega
 have e1 : w64 (n + 1) = n + 1 := w64_id (by omega)
 have hs : (str [48, 49, 50, 51, 52, 53, 54, 55, 56, 57]).size = 10 := rfl
 simp only [d1, d2, Bool.false_eq_true, if_false, if_true, e1, hs]
 rw [chk_of (by omega)]
 refine ⟨_, rfl, ?_⟩
 rw [ByteArray.size_extract, hs]
 omega
theorem line_ok {k : Nat} {c : l1Cur} (name : ByteArray) (stops : Int) (hs : 2 ≤ stops ∧ stops ≤ 1000) (h : Cur k c) (hk : k ≤ 1000000000) : ∃ r, zq42 c name stops = some r ∧ Cur (k + 40) r.2 ∧ LB r.1 := by
 unfold zq42
 obtain ⟨r, hr, hc, h0, h1⟩ := pick_ok stops h (by omega)
 obtain ⟨r1, hr1, hc1, h10, h11⟩ := pick_ok 3 hc (by omega)
 simp only [hr, hr1, qb]
 have e1 : w64 (2 + r1.1) = ((2 + r1.1.toNat : Nat) : Int) := by rw [w64_id (by omega)]; omega
 rw [e1]
 have loop : ∃ b, iter (zq42_L1 name stops) (r.1, ((2 + r1.1.toNat : Nat) : Int), r1.2.code_, r1.2.at_, r1.2.seed_.v, []) = some b ∧ (Cur (k + 4 + 2 * 4) ⟨b.1, b.2.1, ⟨b.2.2.1⟩⟩ ∧ 1 ≤ b.2.2.2.length ∧ b.2.2.2.length ≤ 4) := by
  refine iter_rule (fun m a => (0 ≤ a.1 ∧ a.1 < stops) ∧ a.2.1 = (m : Int) ∧ m + a.2.2.2.2.2.length ≤ 4 ∧ (1 ≤ m ∨ 1 ≤ a.2.2.2.2.2.length) ∧ Cur (k + 4 + 2 * (4 - m)) ⟨a.2.2.1, a.2.2.2.1, ⟨a.2.2.2.2.1⟩⟩) _ ?_ (k := 2 + r1.1.toNat) ⟨⟨h0, by show r.1 < stops; omega⟩, rfl, by simp; omega, .inl (by omega), hc1.mono (by omega)⟩
  rintro m ⟨v, v1, v2, v3, v4, v5⟩ ⟨hv, hv1, hl, hne, hcur⟩
  simp only at hv hv1 hl hne hcur
  subst hv1
  unfold zq42_L1
  cases m with
  | zero => right; exact ⟨_, by simp; rfl, hcur, by show 1 ≤ v5.length; omega, by show v5.length ≤ 4; omega⟩
  | succ m =>
   left
   have hpos : decide ((0 : Int) < ((m + 1 : Nat) : Int)) = true := by simp
   obtain ⟨r3, hr3, hc3, h30, h31⟩ := pick_ok 2 hcur (by omega)
   have hpl := l2Place_eq (⟨name, v5, []⟩ : Line) (by show v5.length ≤ _; omega) v
   have hch : chk (v5.length + ([v] : List Int).length ≤ 4294967296) = some () := chk_of (by simp; omega)
   have hne0 : chk (stops ≠ 0) = some () := chk_of (by omega)
   have w1 : w64 (v + 1) = v + 1 := w64_id (by omega)
   have w2 : w64 (v + 1 + r3.1) = v + 1 + r3.1 := w64_id (by omega)
   have ht := tmod_rng (a := v + 1 + r3.1) (b := stops) (by omega) (by omega)
   simp only [hpos, if_true, hpl, hch, hr3, hne0, w1, w2, qb]
   have w3 : w64 (((m + 1 : Nat) : Int) - 1) = (m : Int) := w64_pred (by omega)
   split
   ·refine ⟨_, m, by simp only [qb]; rfl, by omega, ht, w3, ?_, .inr ?_, ?_⟩
    ·simp; omega
    ·simp
    ·exact hc3.mono (by omega)
   ·rename_i hn
    refine ⟨_, m, by simp only [qb]; rfl, by omega, ht, w3, ?_, .inr ?_, ?_⟩
    ·show m + v5.length ≤ 4; omega
    ·show 1 ≤ v5.length
     cases v5 with
     | nil => simp [fixI] at hn
     | cons a l => simp
    ·exact hc3.mono (by omega)
 obtain ⟨⟨v7, v8, v9, v10⟩, hb, hcb, hlb⟩ := loop
 simp only at hcb hlb
 rw [hb]
 simp only [qb]
 -- at least two stops
 have two : ∃ v11 : List Int, (if decide ((v10.length : Int) < 2) = true then (idx v10 0).bind fun e1 => (chk ((stops : Int) ≠ 0)).bind fun u4 => (chk (v10.length + ([((w64 (e1 + 1)).tmod stops)] : List Int).length ≤ 4294967296)).bind fun u5 => some (v10 ++ ([((w64 (e1 + 1)).tmod stops)] : List Int)) else some v10) = some v11 ∧ 2 ≤ v11.length ∧ v11.length ≤ 5 := by
  by_cases h2 : (v10.length : Int) < 2
  ·obtain ⟨e, he, _⟩ := idx_lt (l := v10) (i := 0) (by omega) (by omega)
   have hch : ∀ y : Int, chk (v10.length + ([y] : List Int).length ≤ 4294967296) = some () := fun y => chk_of (by simp; omega)
   have hne0 : chk (stops ≠ 0) = some () := chk_of (by omega)
   refine ⟨v10 ++ [(w64 (e + 1)).tmod stops], by simp only [h2, decide_true, if_true, he, hne0, hch, qb], ?_, ?_⟩
   ·simp; omega
   ·simp; omega
  ·exact ⟨v10, by simp [h2], by omega, by omega⟩
 obtain ⟨v11, hv11, l1, l2⟩ := two
 rw [hv11]
 simp only [qb]
 have loop2 : ∃ b, iter (zq42_L2 v11) (1, v7, v8, v9, []) = some b ∧ (Cur (k + 40) ⟨b.1, b.2.1, ⟨b.2.2.1⟩⟩ ∧ b.2.2.2.length + 1 = v11.length) := by
  refine iter_rule (fun m a => ∃ i : Nat, a.1 = (i : Int) ∧ m + i = v11.length ∧ a.2.2.2.2.length + 1 = i ∧ Cur (k + 12 + 2 * i) ⟨a.2.1, a.2.2.1, ⟨a.2.2.2.1⟩⟩) _ ?_ (k := v11.length - 1) ⟨1, rfl, by omega, rfl, hcb.mono (by omega)⟩
  rintro m ⟨v12, v13, v14, v15, v16⟩ ⟨i, hi, hm, hl, hcur⟩
  simp only at hi hl hcur
  subst hi
  unfold zq42_L2
  by_cases hlt : i < v11.length
  ·left
   have hd : decide ((i : Int) < (v11.length : Int)) = true := by simp; omega
   obtain ⟨r5, hr5, hc5, _⟩ := pick_ok 12 hcur (by omega)
   have hch : ∀ y : Int, chk (v16.length + ([y] : List Int).length ≤ 4294967296) = some () := fun y => chk_of (by simp; omega)
   refine ⟨_, m - 1, by simp only [hd, if_true, hr5, hch, qb, w64_succ (n := i) (by omega)]; rfl, by omega, i + 1, rfl, by omega, ?_, ?_⟩
   ·simp; omega
   ·exact hc5.mono (by omega)
  ·right
   have hd : decide ((i : Int) < (v11.length : Int)) = false := by simp; omega
   refine ⟨_, by simp only [hd, Bool.false_eq_true, if_false]; rfl, ?_, ?_⟩
   ·exact hcur.mono (by omega)
   ·show v16.length + 1 = _; omega
 obtain ⟨⟨v17, v18, v19, v20⟩, hb2, hcb2, hl2⟩ := loop2
 simp only at hcb2 hl2
 rw [hb2]
 simp only [qb]
 exact ⟨_, rfl, hcb2, ⟨l1, by show v11.length ≤ 10; omega⟩, by show 1 ≤ v20.length; omega, by show v20.length ≤ 10; omega⟩
theorem lineF_ok {k : Nat} {c : l1Cur} (name : ByteArray) (stops : Int) (hs : 2 ≤ stops ∧ stops ≤ 1000) (h : Cur k c) (hk : k ≤ 1000000000) : ∃ r, zq43 c name stops = some r ∧ Cur (k + 40) r.2 ∧ LB r.1 := line_ok name stops hs h hk
theorem six_len (i : Nat) (h2 : 2 ≤ i) (h6 : i ≤ 6) (l : List ByteArray) (hl : l.length = 6) : 2 ≤ ((l.take i).drop (0 : Int).toNat).length ∧ ((l.take i).drop (0 : Int).toNat).length ≤ 6 := by
 simp; omega
theorem networkT_ok {k : Nat} {c : l1Cur} (h : Cur k c) (hk : k ≤ 500000000) : ∃ r, zq45 c = some r ∧ Cur (k + 300) r.2 ∧ NB r.1 := by
 unfold zq45
 obtain ⟨r, hr, hc, h0, h1⟩ := pick_ok 5 h (by omega)
 have e1 : w64 (2 + r.1) = 2 + r.1 := w64_id (by omega)
 have hsix : ([(str [112, 111, 114, 116]), (str [109, 105, 108, 108]), (str [112, 97, 114, 107]), (str [104, 97, 108, 108]), (str [100, 111, 99, 107]), (str [102, 97, 105, 114])] : List ByteArray).length = 6 := rfl
 simp only [hr, qb, e1, hsix]
 rw [chk_of (by omega)]
 obtain ⟨r1, hr1, hc1, h10, h11⟩ := pick_ok 3 hc (by omega)
 have e2 : w64 (1 + r1.1) = ((1 + r1.1.toNat : Nat) : Int) := by rw [w64_id (by omega)]; omega
 simp only [hr1, qb, e2]
 have loop : ∃ b, iter (zq45_L1 r) (((1 + r1.1.toNat : Nat) : Int), r1.2.code_, r1.2.at_, r1.2.seed_.v, []) = some b ∧ (Cur (k + 4 + 40 * 3) ⟨b.1, b.2.1, ⟨b.2.2.1⟩⟩ ∧ (1 ≤ b.2.2.2.length ∧ b.2.2.2.length ≤ 3) ∧ ∀ x ∈ b.2.2.2, LB x) := by
  refine iter_rule (fun m a => a.1 = (m : Int) ∧ m + a.2.2.2.2.length ≤ 3 ∧ 1 ≤ m + a.2.2.2.2.length ∧ (∀ x ∈ a.2.2.2.2, LB x) ∧ Cur (k + 4 + 40 * (3 - m)) ⟨a.2.1, a.2.2.1, ⟨a.2.2.2.1⟩⟩) _ ?_ (k := 1 + r1.1.toNat) ⟨rfl, by simp; omega, by simp, by simp, hc1.mono (by omega)⟩
  rintro m ⟨x, v, v1, v2, v3⟩ ⟨hx, hl, hl1, hlb, hcur⟩
  simp only at hx hl hl1 hlb hcur
  subst hx
  unfold zq45_L1
  cases m with
  | zero => right; exact ⟨_, by simp; rfl, hcur, ⟨by show 1 ≤ v3.length; omega, by show v3.length ≤ 3; omega⟩, hlb⟩
  | succ m =>
   left
   have hpos : decide ((0 : Int) < ((m + 1 : Nat) : Int)) = true := by simp
   obtain ⟨r4, hr4, hs4⟩ := l1Num_ok ((m + 1 : Nat) : Int) (by omega) (by omega)
   have hs : (str [108]).size = 1 := rfl
   have hch : chk ((str [108]).size + r4.size ≤ 4294967296) = some () := chk_of (by omega)
   obtain ⟨r5, hr5, hc5, hb5⟩ := lineF_ok (str [108] ++ r4) (2 + r.1) (by omega) hcur (by omega)
   have hch2 : ∀ y : Line, chk (v3.length + ([y] : List Line).length ≤ 4294967296) = some () := fun y => chk_of (by simp; omega)
   refine ⟨_, m, by simp only [hpos, if_true, hr4, hch, e1, hr5, hch2, qb]; rfl, by omega, ?_, ?_, ?_, ?_, ?_⟩
   ·exact w64_pred (by omega)
   ·simp; omega
   ·simp; omega
   ·intro y hy
    rcases List.mem_append.1 hy with hy | hy
    ·exact hlb y hy
    ·simp at hy; subst hy; exact hb5
   ·exact hc5.mono (by omega)
 obtain ⟨⟨v4, v5, v6, v7⟩, hb, hcb, hlb, hall⟩ := loop
 simp only at hcb hlb hall
 rw [hb]
 simp only [qb]
 obtain ⟨r6, hr6, hc6⟩ := one_ok 2 hcb (by omega)
 simp only [hr6, qb]
 have fin : ∀ (v8 : List UInt8) (v9 v10 : Int) (v11 : List Line), Cur (k + 200) ⟨v8, v9, ⟨v10⟩⟩ → (1 ≤ v11.length ∧ v11.length ≤ 8) → (∀ x ∈ v11, LB x) →
   ∃ r', ((zq72 (⟨((([(str [112, 111, 114, 116]), (str [109, 105, 108, 108]), (str [112, 97, 114, 107]), (str [104, 97, 108, 108]), (str [100, 111, 99, 107]), (str [102, 97, 105, 114])] : List ByteArray).take (2 + r.1).toNat).drop (0 : Int).toNat), v11⟩ : Network)).bind fun r11 => some ((⟨r11.Stops, r11.Lines⟩ : Network), (⟨v8, v9, (⟨v10⟩ : IK .u64)⟩ : l1Cur))) = some r' ∧ Cur (k + 300) r'.2 ∧ NB r'.1 := by
  intro v8 v9 v10 v11 g1 g2 g3
  have hst := six_len (2 + r.1).toNat (by omega) (by omega) _ hsix
  have hnb : NB (⟨((([(str [112, 111, 114, 116]), (str [109, 105, 108, 108]), (str [112, 97, 114, 107]), (str [104, 97, 108, 108]), (str [100, 111, 99, 107]), (str [102, 97, 105, 114])] : List ByteArray).take (2 + r.1).toNat).drop (0 : Int).toNat), v11⟩ : Network) := ⟨hst, g2, g3⟩
  rw [l2Own_t_eq _ hnb.bd]
  exact ⟨_, rfl, g1.mono (by omega), hnb⟩
 split
 ·obtain ⟨e, he, _, hem⟩ := idx_lt (l := v7) (i := 0) (by omega) (by omega)
  obtain ⟨g1, g2⟩ := hall e hem
  have hch2 : ∀ y : Line, chk (v7.length + ([y] : List Line).length ≤ 4294967296) = some () := fun y => chk_of (by simp; omega)
  simp only [he, l2BackF_eq e.Stops (by omega), l2BackF_eq e.Runs (by omega), hch2, qb]
  refine fin _ _ _ _ (hc6.mono (by omega)) (by simp; omega) fun y hy => ?_
  rcases List.mem_append.1 hy with hy | hy
  ·exact hall y hy
  ·simp at hy; subst hy
   exact ⟨by simpa using g1, by simpa using g2⟩
 ·simp only [qb]
  exact fin _ _ _ _ (hc6.mono (by omega)) (by omega) hall
theorem anyNetwork_ok {k : Nat} {c : l1Cur} (h : Cur k c) (hk : k ≤ 200000000) : ∃ r, zq38 c = some r ∧ Cur (k + 1000) r.2 ∧ Bd r.1 := by
 unfold zq38
 obtain ⟨r, hr, hc, hnb⟩ := networkT_ok h (by omega)
 obtain ⟨n1, n2, n3⟩ := hnb
 obtain ⟨r1, hr1, hc1, h10, h11⟩ := pick_ok (r.1.Lines.length : Int) hc (by omega)
 obtain ⟨e, he, he2, hem⟩ := idx_lt (l := r.1.Lines) (i := r1.1) h10 (by omega)
 obtain ⟨g1, g2⟩ := n3 e hem
 obtain ⟨r2, hr2, hc2, _⟩ := pick_ok 24 hc1 (by omega)
 simp only [hr, hr1, he, hr2, qb]
 have fin : ∀ (v : List UInt8) (v1 v2 : Int) (v3 : ByteArray) (v4 : List ByteArray) (v5 : List Line) (v6 : List Int), Cur (k + 900) ⟨v, v1, ⟨v2⟩⟩ → v4.length ≤ 6 → v5.length = r.1.Lines.length → (∀ x ∈ v5, LB x) → v6.length ≤ 11 →
   ∃ r', ((idx v5 r1.1).bind fun e9 => some ((⟨v4, (v5.set r1.1.toNat (⟨v3, e9.Stops, v6⟩ : Line))⟩ : Network), (⟨v, v1, (⟨v2⟩ : IK .u64)⟩ : l1Cur))) = some r' ∧ Cur (k + 1000) r'.2 ∧ Bd r'.1 := by
  intro v v1 v2 v3 v4 v5 v6 q1 q2 q3 q4 q5
  obtain ⟨e9, he9, _, hm9⟩ := idx_lt (l := v5) (i := r1.1) h10 (by omega)
  rw [he9]
  refine ⟨_, rfl, q1.mono (by omega), by show v4.length ≤ _; omega, by simp; omega, fun x hx => ?_⟩
  rcases List.mem_or_eq_of_mem_set hx with hx | hx
  ·have := q4 x hx
   unfold LB at this; omega
  ·subst hx
   have := q4 e9 hm9
   unfold LB at this
   exact ⟨by show e9.Stops.length ≤ _; omega, by show v6.length ≤ _; omega⟩
 split
 ·obtain ⟨r4, hr4, hc4, _⟩ := ofw_ok ([(str [109, 105, 108, 108]), (str []), (str [65]), (str [97, 98, 99, 100, 101, 102, 103, 104]), (str [97, 98, 99, 100, 101, 102, 103, 104, 105])] : List ByteArray) (by simp) hc2 (by omega)
  obtain ⟨e2, he2', _⟩ := idx_lt (l := r.1.Stops) (i := 0) (by omega) (by omega)
  simp only [hr4, he2', qb, flb_go]
  exact fin _ _ _ _ _ _ _ (hc4.mono (by omega)) (by simp; omega) rfl n3 (by omega)
 split
 ·obtain ⟨r5, hr5, hc5, _⟩ := ofw_ok ([(str [114, 49]), (str [108, 49]), (str []), (str [88])] : List ByteArray) (by simp) hc2 (by omega)
  simp only [hr5, qb, flb_go]
  exact fin _ _ _ _ _ _ _ (hc5.mono (by omega)) (by omega) rfl n3 (by omega)
 split
 ·obtain ⟨r8, hr8, hc8, h80, h81⟩ := pick_ok (e.Stops.length : Int) hc2 (by omega)
  obtain ⟨r9, hr9, hc9, _⟩ := pick_ok 10 hc8 (by omega)
  obtain ⟨e4, he4, _⟩ := idx_lt (l := e.Stops) (i := r8.1) h80 (by omega)
  simp only [hr8, hr9, he4, qb, flb_go]
  refine fin _ _ _ _ _ _ _ (hc9.mono (by omega)) (by omega) (by simp) (fun x hx => ?_) (by show e.Runs.length ≤ 11; omega)
  rcases List.mem_or_eq_of_mem_set hx with hx | hx
  ·exact n3 x hx
  ·subst hx; exact ⟨by simpa using g1, g2⟩
 split
 ·obtain ⟨r12, hr12, hc12, h120, h121⟩ := pick_ok (e.Runs.length : Int) hc2 (by omega)
  obtain ⟨r13, hr13, hc13, _⟩ := amongw_ok ([0, 60, 61, (-1)] : List Int) (by simp) hc12 (by omega)
  obtain ⟨e6, he6, _⟩ := idx_lt (l := e.Runs) (i := r12.1) h120 (by omega)
  simp only [hr12, hr13, he6, qb, flb_go]
  refine fin _ _ _ _ _ _ _ (hc13.mono (by omega)) (by omega) (by simp) (fun x hx => ?_) (by simp; omega)
  rcases List.mem_or_eq_of_mem_set hx with hx | hx
  ·exact n3 x hx
  ·subst hx; exact ⟨g1, by simpa using g2⟩
 split
 ·have hch : chk (e.Runs.length + ([3] : List Int).length ≤ 4294967296) = some () := chk_of (by simp; omega)
  simp only [hch, qb, flb_go]
  exact fin _ _ _ _ _ _ _ (hc2.mono (by omega)) (by omega) rfl n3 (by simp; omega)
 split
 ·simp only [flb_ret]
  exact ⟨_, rfl, hc2.mono (by omega), by show r.1.Stops.length ≤ _; omega, by simp, by simp⟩
 split
 ·have loop : ∃ b, iter (zq38_L1 r) (0, r2.2.code_, r2.2.at_, r2.2.seed_.v, r.1.Lines) = some b ∧ (Cur (k + 900) ⟨b.1, b.2.1, ⟨b.2.2.1⟩⟩ ∧ b.2.2.2.length ≤ 20 ∧ ∀ x ∈ b.2.2.2, LB x) := by
   refine iter_rule (fun m a => ∃ i : Nat, a.1 = (i : Int) ∧ m + i = 8 ∧ i ≤ 7 ∧ a.2.2.2.2.length ≤ 8 + i ∧ (∀ x ∈ a.2.2.2.2, LB x) ∧ Cur (k + 310 + 50 * i) ⟨a.2.1, a.2.2.1, ⟨a.2.2.2.1⟩⟩) _ ?_ (k := 8) ⟨0, rfl, rfl, by omega, by simpa using n2.2, n3, hc2.mono (by omega)⟩
   rintro m ⟨v7, v8, v9, v10, v11⟩ ⟨i, hi, hm, hi7, hl, hlb, hcur⟩
   simp only at hi hl hlb hcur
   subst hi
   unfold zq38_L1
   obtain ⟨r16, hr16, hc16, h160, h161⟩ := pick_ok 2 hcur (by omega)
   have w1 : w64 (5 + r16.1) = 5 + r16.1 := w64_id (by omega)
   simp only [hr16, w1, qb]
   by_cases a1 : (v11.length : Int) < 5 + r16.1 ∧ (i : Int) < 7
   ·left
    have d1 : decide ((v11.length : Int) < 5 + r16.1) = true := by simp; omega
    have d2 : decide ((i : Int) < 7) = true := by simp; omega
    obtain ⟨r19, hr19, hs19⟩ := l1Num_ok (i : Int) (by omega) (by omega)
    have hs : (str [120]).size = 1 := rfl
    have hch : chk ((str [120]).size + r19.size ≤ 4294967296) = some () := chk_of (by omega)
    obtain ⟨r20, hr20, hc20, hb20⟩ := line_ok (str [120] ++ r19) (r.1.Stops.length : Int) (by omega) hc16 (by omega)
    have hch2 : ∀ y : Line, chk (v11.length + ([y] : List Line).length ≤ 4294967296) = some () := fun y => chk_of (by simp; omega)
    refine ⟨_, m - 1, by simp only [d1, d2, if_true, hr19, hch, hr20, hch2, qb, w64_succ (n := i) (by omega)]; rfl, by omega, i + 1, rfl, by omega, by omega, ?_, fun x hx => ?_, ?_⟩
    ·simp; omega
    ·rcases List.mem_append.1 hx with hx | hx
     ·exact hlb x hx
     ·simp at hx; subst hx; exact hb20
    ·exact hc20.mono (by omega)
   ·right
    have hcond : (if decide ((v11.length : Int) < 5 + r16.1) = true then some (decide ((i : Int) < 7)) else some false) = some false := by
     by_cases b1 : (v11.length : Int) < 5 + r16.1
     ·have : decide ((i : Int) < 7) = false := by simp; omega
      simp [b1, this]
     ·simp [b1]
    refine ⟨_, by simp only [hcond, qb, Bool.false_eq_true, if_false]; rfl, ?_, ?_, hlb⟩
    ·exact hc16.mono (by omega)
    ·show v11.length ≤ 20; omega
  obtain ⟨⟨v13, v14, v15, v16⟩, hb, hcb, hlb, hall⟩ := loop
  simp only at hcb hlb hall
  rw [hb]
  simp only [qb, flb_ret]
  refine ⟨_, rfl, hcb.mono (by omega), by show r.1.Stops.length ≤ _; omega, by show v16.length ≤ _; omega, fun x hx => ?_⟩
  have := hall x hx
  unfold LB at this; omega
 ·simp only [flb_go]
  exact fin _ _ _ _ _ _ _ (hc2.mono (by omega)) (by omega) rfl n3 (by omega)
def TB (t : Timetable) : Prop := Bd t.Network ∧ t.Trips.length ≤ 1000
def TripP (n : Network) (x : Trip) : Prop := (1 ≤ x.Id ∧ x.Id ≤ 999) ∧ ∃ l, idx n.Lines x.Line = some l ∧ (0 ≤ x.Start ∧ x.Start ≤ 1799) ∧ 0 ≤ x.Start + l.Runs.sum ∧ x.Start + l.Runs.sum ≤ 1799
def GoodT (t : Timetable) : Prop := Good t.Network ∧ t.Trips.length ≤ 12 ∧ (∀ (i : Nat) x, t.Trips[i]? = some x → TripP t.Network x) ∧ ∀ (i : Nat) a b, t.Trips[i]? = some a → t.Trips[i + 1]? = some b → a.Id < b.Id
noncomputable instance (t : Timetable) : Decidable (GoodT t) := Classical.propDecidable _
noncomputable instance (n : Network) (x : Trip) : Decidable (TripP n x) := Classical.propDecidable _
theorem time_eq (t : Int) : zq4 t = some (decide (0 ≤ t ∧ t ≤ 1799)) := by
 unfold zq4; rw [within_eq]; rfl
theorem l4Time_eq (t : Int) : zq75 t = some (decide (0 ≤ t ∧ t ≤ 1799)) := by
 unfold zq75; rw [l1In_eq]; rfl
theorem total_eq (l : List Int) (h1 : l.length ≤ 1000000) (h2 : ∀ x ∈ l, 0 ≤ x ∧ x ≤ 1000000) : zq27 l = some l.sum := by
 unfold zq27
 rw [sum_loop (fun x : Int => x) l h1 h2 (fun i s x hx => ?_) (fun s => ?_)]
 ·simp
 ·have := get_lt hx
  unfold zq27_L1
  simp (disch := omega) only [if_pos, if_neg, decide_eq_true_eq, decide_true, decide_false, Bool.not_true, Bool.not_false, Bool.false_eq_true, Bool.not_eq_true', decide_eq_false_iff_not, if_true, if_false, w64_id, chk_of, idx_nat, qb, Option.map_some, Int.toNat_natCast, not_true_eq_false, not_false_eq_true, true_and, and_true, and_self, false_and, and_false, reduceIte, flb_go, flb_ret, beq_self_eq_true, ne_eq, bne_self_eq_false, Int.ofNat_lt.2 this, hx]
 ·unfold zq27_L1; simp
theorem l2Run_eq (x : Line) (a b : Nat) (hab : a ≤ b) (hb : b ≤ x.Runs.length) (hl : x.Runs.length ≤ 1000) (h2 : ∀ r ∈ x.Runs, 0 ≤ r ∧ r ≤ 1000000) : zq74 x (a : Int) (b : Int) = some (((x.Runs.take b).drop a).sum) := by
 unfold zq74
 refine Tot.val (.call (P := fun v => v = ((x.Runs.take b).drop a).sum) ?_ fun v h => .ok h)
 refine .iter (fun m s => ∃ k : Nat, s.2 = ((a + k : Nat) : Int) ∧ m + k = b - a ∧ s.1 = (((x.Runs.take b).drop a).take k).sum) (n := b - a) ⟨0, by simp, by omega, by simp⟩ ?_
 rintro m ⟨s, v⟩ ⟨k, hk, hm, hs⟩
 simp only at hk hs
 subst hk
 unfold zq74_L1
 refine .iteP (fun hc => ?_) (fun hc => .dn ?_)
 ·obtain ⟨r, hr⟩ := get_ex (l := x.Runs) (i := a + k) (by omega)
  have hr2 : ((x.Runs.take b).drop a)[k]? = some r := by
   rw [List.getElem?_drop, List.getElem?_take_of_lt (by omega)]; exact hr
  have hb1 := h2 r (List.mem_of_getElem? hr)
  have hb2 := sum_bd (l := ((x.Runs.take b).drop a).take k) (M := 1000000) fun y hy => h2 y (List.mem_of_mem_take (List.mem_of_mem_drop (List.mem_of_mem_take hy)))
  have hlen : ((((x.Runs.take b).drop a).take k).length : Int) ≤ 1000 := by simp; omega
  rw [← hs] at hb2
  refine .eq (by rw [idx_nat]; exact hr) (.nx ⟨m - 1, by omega, k + 1, ?_, by omega, ?_⟩)
  ·show w64 (((a + k : Nat) : Int) + 1) = _
   rw [w64_id (by omega)]; omega
  ·show w64 (s + r) = _
   rw [w64_id (by omega), sum_take_succ hr2, hs]
 ·rw [hs, List.take_of_length_le (by rw [List.length_drop, List.length_take]; omega)]
theorem good_line {n : Network} (h : Good n) {k : Int} {l : Line} (hl : idx n.Lines k = some l) : LineP n.Stops.length l := h.2.2.2.2 _ l (idx_some hl).2.2
theorem line_runs {st : Nat} {l : Line} (h : LineP st l) : (l.Runs.length + 1 = l.Stops.length ∧ 1 ≤ l.Runs.length ∧ l.Runs.length ≤ 5) ∧ ∀ r ∈ l.Runs, 1 ≤ r ∧ r ≤ 60 := by
 obtain ⟨h1, h2, h3, h4⟩ := h
 refine ⟨by omega, fun r hr => ?_⟩
 obtain ⟨i, hi⟩ := List.getElem?_of_mem hr
 exact h4 i r hi
theorem runs_sum {st : Nat} {l : Line} (h : LineP st l) (k : Nat) : 0 ≤ (l.Runs.take k).sum ∧ (l.Runs.take k).sum ≤ 300 := by
 obtain ⟨⟨h1, h2, h3⟩, h4⟩ := line_runs h
 have := sum_bd (l := l.Runs.take k) (M := 60) fun x hx => by have := h4 x (List.mem_of_mem_take hx); omega
 have hl : ((l.Runs.take k).length : Int) ≤ 5 := by simp; omega
 omega
theorem runs_sum' {st : Nat} {l : Line} (h : LineP st l) : 0 ≤ l.Runs.sum ∧ l.Runs.sum ≤ 300 := by
 have := runs_sum h l.Runs.length
 rwa [List.take_length] at this
theorem endOf_eq {t : Timetable} (hg : Good t.Network) {x : Trip} {l : Line} (hl : idx t.Network.Lines x.Line = some l) (hs : 0 ≤ x.Start ∧ x.Start ≤ 1799) : zq16 t x = some (x.Start + l.Runs.sum) := by
 have h := good_line hg hl
 obtain ⟨⟨h1, h2, h3⟩, h4⟩ := line_runs h
 have h5 := runs_sum' h
 unfold zq16
 rw [hl]
 simp only [qb]
 rw [total_eq l.Runs (by omega) (fun x hx => by have := h4 x hx; omega)]
 simp (disch := omega) only [if_pos, if_neg, decide_eq_true_eq, decide_true, decide_false, Bool.not_true, Bool.not_false, Bool.false_eq_true, Bool.not_eq_true', decide_eq_false_iff_not, if_true, if_false, w64_id, chk_of, idx_nat, qb, Option.map_some, Int.toNat_natCast, not_true_eq_false, not_false_eq_true, true_and, and_true, and_self, false_and, and_false, reduceIte, flb_go, flb_ret, beq_self_eq_true, ne_eq, bne_self_eq_false]
theorem l5Line_eq {t : Timetable} {i : Nat} {x : Trip} {l : Line} (hx : t.Trips[i]? = some x) (hl : idx t.Network.Lines x.Line = some l) : zq79 t (i : Int) = some l := by
 unfold zq79
 simp (disch := omega) only [if_pos, if_neg, decide_eq_true_eq, decide_true, decide_false, Bool.not_true, Bool.not_false, Bool.false_eq_true, Bool.not_eq_true', decide_eq_false_iff_not, if_true, if_false, w64_id, chk_of, idx_nat, qb, Option.map_some, Int.toNat_natCast, not_true_eq_false, not_false_eq_true, true_and, and_true, and_self, false_and, and_false, reduceIte, flb_go, flb_ret, beq_self_eq_true, ne_eq, bne_self_eq_false, hx, hl]
theorem l5Stops_eq {t : Timetable} {i : Nat} {x : Trip} {l : Line} (hx : t.Trips[i]? = some x) (hl : idx t.Network.Lines x.Line = some l) : zq80 t (i : Int) = some l.Stops := by
 unfold zq80
 rw [l5Line_eq hx hl]; rfl
theorem l5At_eq {t : Timetable} (hg : Good t.Network) {i : Nat} {x : Trip} {l : Line} (hx : t.Trips[i]? = some x) (hl : idx t.Network.Lines x.Line = some l) (hs : 0 ≤ x.Start ∧ x.Start ≤ 1799) {k : Nat} (hk : k ≤ l.Runs.length) : zq76 t (i : Int) (k : Int) = some (x.Start + (l.Runs.take k).sum) := by
 have h := good_line hg hl
 obtain ⟨⟨h1, h2, h3⟩, h4⟩ := line_runs h
 have h5 := runs_sum h k
 have e := l2Run_eq l 0 k (by omega) hk (by omega) (fun x hx => by have := h4 x hx; omega)
 rw [List.drop_zero] at e
 have e' : zq74 l 0 (k : Int) = some (l.Runs.take k).sum := e
 unfold zq76
 simp (disch := omega) only [if_pos, if_neg, decide_eq_true_eq, decide_true, decide_false, Bool.not_true, Bool.not_false, Bool.false_eq_true, Bool.not_eq_true', decide_eq_false_iff_not, if_true, if_false, w64_id, chk_of, idx_nat, qb, Option.map_some, Int.toNat_natCast, not_true_eq_false, not_false_eq_true, true_and, and_true, and_self, false_and, and_false, reduceIte, flb_go, flb_ret, beq_self_eq_true, ne_eq, bne_self_eq_false, hx, l5Line_eq hx hl, e']
theorem l5End_eq {t : Timetable} (hg : Good t.Network) {i : Nat} {x : Trip} {l : Line} (hx : t.Trips[i]? = some x) (hl : idx t.Network.Lines x.Line = some l) (hs : 0 ≤ x.Start ∧ x.Start ≤ 1799) : zq77 t (i : Int) = some (x.Start + l.Runs.sum) := by
 have h := good_line hg hl
 obtain ⟨⟨h1, h2, h3⟩, h4⟩ := line_runs h
 have e : w64 ((l.Stops.length : Int) - 1) = (l.Runs.length : Int) := by rw [w64_id (by omega)]; omega
 unfold zq77
 rw [l5Stops_eq hx hl]
 simp only [qb, e, l5At_eq hg hx hl hs (Nat.le_refl _), List.take_length]
def TripsP (t : Timetable) : Prop := (∀ (i : Nat) x, t.Trips[i]? = some x → TripP t.Network x) ∧ ∀ (i : Nat) a b, t.Trips[i]? = some a → t.Trips[i + 1]? = some b → a.Id < b.Id
noncomputable instance (t : Timetable) : Decidable (TripsP t) := Classical.propDecidable _
theorem trip_i {t : Timetable} (hb : TB t) (hg : Good t.Network) (x : Trip) (last : Int) (hlast : 0 ≤ last) : ((if (decide (x.Id ≤ last)) = true then some true else if (decide (999 < x.Id)) = true then some true else (zq18 t.Network x.Line).bind fun r =>
   if (!r) = true then some true else (zq4 x.Start).bind fun r1 =>
   if (!r1) = true then some true else (zq16 t x).bind fun r2 =>
   (zq4 r2).bind fun r3 =>
   some (!r3))) = some (!decide (last < x.Id ∧ TripP t.Network x)) := by
 by_cases c1 : x.Id ≤ last
 ·have : ¬ (last < x.Id ∧ TripP t.Network x) := fun h => by omega
  simp [c1, this]
 ·by_cases c2 : 999 < x.Id
  ·have : ¬ (last < x.Id ∧ TripP t.Network x) := fun h => by have := h.2.1; omega
   simp [c1, c2, this]
  ·simp only [isLine_eq, time_eq, qb, c1, c2, decide_false, Bool.false_eq_true, if_false]
   by_cases c3 : 0 ≤ x.Line ∧ x.Line < (t.Network.Lines.length : Int)
   ·obtain ⟨l, hl, _⟩ := idx_lt (l := t.Network.Lines) c3.1 c3.2
    by_cases c4 : 0 ≤ x.Start ∧ x.Start ≤ 1799
    ·have hT : (last < x.Id ∧ TripP t.Network x) ↔ (0 ≤ x.Start + l.Runs.sum ∧ x.Start + l.Runs.sum ≤ 1799) := by
      constructor
      ·rintro ⟨_, _, l', hl', _, h⟩
       rw [hl] at hl'; cases hl'; exact h
      ·intro h; exact ⟨by omega, ⟨by omega, by omega⟩, l, hl, c4, h⟩
     simp only [c3, c4, and_self, decide_true, Bool.not_true, Bool.false_eq_true, if_false, endOf_eq hg hl c4, time_eq, qb, hT]
    ·have : ¬ (last < x.Id ∧ TripP t.Network x) := fun h => by
      obtain ⟨_, _, l', _, h4, _⟩ := h
      exact c4 h4
     simp only [c3, c4, this, and_self, decide_true, decide_false, Bool.not_true, Bool.not_false, Bool.false_eq_true, if_false, if_true]
   ·have : ¬ (last < x.Id ∧ TripP t.Network x) := fun h => by
     obtain ⟨_, _, l', hl', _⟩ := h
     have := idx_some hl'
     exact c3 ⟨this.1, this.2.1⟩
    simp only [c3, this, decide_false, Bool.not_false, if_true]
theorem areTrips_eq {t : Timetable} (hb : TB t) (hg : Good t.Network) : zq14 t = some (decide (t.Trips.length ≤ 12 ∧ TripsP t)) := by
 unfold zq14
 by_cases h12 : t.Trips.length ≤ 12
 ·have d : decide ((12 : Int) < (t.Trips.length : Int)) = false := by simp; omega
  have e : decide (t.Trips.length ≤ 12 ∧ TripsP t) = decide (TripsP t) := by simp [h12]
  rw [d, e]
  simp only [Bool.false_eq_true, if_false]
  refine flb_dec (.iter (fun m a => ∃ i : Nat, a.2 = (i : Int) ∧ m + i = t.Trips.length ∧ 0 ≤ a.1 ∧ (∀ y, 0 < i → t.Trips[i - 1]? = some y → a.1 = y.Id) ∧ (i = 0 → a.1 = 0) ∧ (∀ (j : Nat) x, j < i → t.Trips[j]? = some x → TripP t.Network x) ∧ ∀ (j : Nat) a b, j + 1 < i → t.Trips[j]? = some a → t.Trips[j + 1]? = some b → a.Id < b.Id)
   (n := t.Trips.length) ⟨0, rfl, rfl, by simp, by simp, by simp, fun j x h => by omega, fun j a b h => by omega⟩ ?_)
  rintro m ⟨last, v⟩ ⟨i, hv, hm, h0, h1, h2, h3, h4⟩
  simp only at hv h0 h1 h2
  subst hv
  unfold zq14_L1
  refine .iteP (fun hc => ?_) (fun hc => .dn (.inl ⟨rfl, fun j x hx => h3 j x (by have := get_lt hx; omega) hx, fun j a b ha hb' => h4 j a b (by have := get_lt hb'; omega) ha hb'⟩))
  obtain ⟨x, hx⟩ := get_ex (l := t.Trips) (i := i) (by omega)
  refine .eq (by rw [idx_nat]; exact hx) (.eq (trip_i hb hg x last h0) (.iteN (fun hn => .dn (.inr ⟨rfl, fun hp => hn ⟨?_, hp.1 i x hx⟩⟩)) (fun hp => .nx ⟨m - 1, by omega, i + 1, w64_succ (by omega), by omega, ?_, ?_, by simp, ?_, ?_⟩)))
  ·by_cases hi : i = 0
   ·rw [h2 hi]; have := (hp.1 i x hx).1; omega
   ·obtain ⟨y, hy⟩ := get_ex (l := t.Trips) (i := i - 1) (by omega)
    rw [h1 y (by omega) hy]
    exact hp.2 (i - 1) y x hy (by rw [show i - 1 + 1 = i by omega]; exact hx)
  ·show 0 ≤ x.Id
   have := hp.2.1; omega
  ·intro y _ hy
   rw [show i + 1 - 1 = i by omega, hx] at hy; cases hy; rfl
  ·intro j y hj hy
   by_cases hji : j = i
   ·subst hji; rw [hx] at hy; cases hy; exact hp.2
   ·exact h3 j y (by omega) hy
  ·intro j a b hj ha hb'
   by_cases hji : j + 1 = i
   ·subst hji; rw [hx] at hb'; cases hb'
    have := h1 a (by omega) (by simpa using ha)
    omega
   ·exact h4 j a b (by omega) ha hb'
 ·have d : decide ((12 : Int) < (t.Trips.length : Int)) = true := by simp; omega
  simp [d, h12]
def TripQ (t : Timetable) (i : Nat) (x : Trip) : Prop := TripP t.Network x ∧ ∀ y, 0 < i → t.Trips[i - 1]? = some y → y.Id < x.Id
noncomputable instance (t : Timetable) (i : Nat) (x : Trip) : Decidable (TripQ t i x) := Classical.propDecidable _
theorem goodT_iff (t : Timetable) : GoodT t ↔ Good t.Network ∧ t.Trips.length ≤ 12 ∧ TripsP t := Iff.rfl
theorem validT_eq {t : Timetable} (hb : TB t) : zq5 t = some (decide (GoodT t)) := by
 unfold zq5
 rw [valid_eq _ hb.1]
 by_cases hg : Good t.Network
 ·simp only [hg, decide_true, if_true, qb, areTrips_eq hb hg, goodT_iff, true_and]
 ·have : ¬ GoodT t := fun h => hg h.1
  simp [hg, this]
theorem goodT_eq {t : Timetable} (hb : TB t) : zq78 t = some (decide (GoodT t)) := by
 unfold zq78
 rw [good_eq _ hb.1]
 by_cases hg : Good t.Network
 ·by_cases h12 : t.Trips.length ≤ 12
  ·have d : decide ((12 : Int) < (t.Trips.length : Int)) = false := by simp; omega
   have e : decide (GoodT t) = decide (TripsP t) := by rw [decide_eq_decide, goodT_iff]; simp [hg, h12]
   simp only [hg, decide_true, Bool.not_true, Bool.false_eq_true, if_false, qb, d, e]
   refine flb_dec (.iter (fun m a => ∃ i : Nat, a = (i : Int) ∧ m + i = t.Trips.length ∧ (∀ (j : Nat) x, j < i → t.Trips[j]? = some x → TripP t.Network x) ∧ ∀ (j : Nat) a b, j + 1 < i → t.Trips[j]? = some a → t.Trips[j + 1]? = some b → a.Id < b.Id)
    (n := t.Trips.length) ⟨0, rfl, rfl, fun j x h => by omega, fun j a b h => by omega⟩ ?_)
   rintro m v ⟨i, hv, hm, h3, h4⟩
   subst hv
   unfold zq78_L1
   refine .iteP (fun hc => ?_) (fun hc => .dn (.inl ⟨rfl, fun j x hx => h3 j x (by have := get_lt hx; omega) hx, fun j a b ha hb' => h4 j a b (by have := get_lt hb'; omega) ha hb'⟩))
   obtain ⟨x, hx⟩ := get_ex (l := t.Trips) (i := i) (by omega)
   refine .eq (by rw [idx_nat]; exact hx) ?_
   have hll := hg.2.1
   have ew : w64 ((t.Network.Lines.length : Int) - 1) = (t.Network.Lines.length : Int) - 1 := w64_id (by omega)
   have key : ((zq52 x.Id 1 999).bind fun r6 =>
   (if (!r6) = true then some true else (zq52 x.Line 0 (w64 ((t.Network.Lines.length : Int) - 1))).bind fun r7 =>
   if (!r7) = true then some true else (zq75 x.Start).bind fun r8 =>
   if (!r8) = true then some true else (zq77 t (i : Int)).bind fun r9 =>
   (zq75 r9).bind fun r10 =>
   if (!r10) = true then some true else if (decide (0 < (i : Int))) = true then (idx t.Trips (w64 ((i : Int) - 1))).bind fun e2 =>
   some (decide (x.Id ≤ e2.Id)) else some false)) = some (!decide (TripQ t i x)) := by
    have no : ¬ TripP t.Network x → (!decide (TripQ t i x)) = true := fun h => (by simp [show ¬ TripQ t i x from fun q => h q.1])
    simp only [l1In_eq, l4Time_eq, ew, qb]
    by_cases c1 : 1 ≤ x.Id ∧ x.Id ≤ 999
    ·by_cases c3 : 0 ≤ x.Line ∧ x.Line ≤ (t.Network.Lines.length : Int) - 1
     ·obtain ⟨l, hl, _⟩ := idx_lt (l := t.Network.Lines) c3.1 (by omega)
      by_cases c4 : 0 ≤ x.Start ∧ x.Start ≤ 1799
      ·simp only [c1, c3, c4, and_self, decide_true, Bool.not_true, Bool.false_eq_true, if_false, l5End_eq hg hx hl c4, l4Time_eq, qb]
       by_cases c5 : 0 ≤ x.Start + l.Runs.sum ∧ x.Start + l.Runs.sum ≤ 1799
       ·have hT : TripP t.Network x := ⟨c1, l, hl, c4, c5⟩
        simp only [c5, and_self, decide_true, Bool.not_true, Bool.false_eq_true, if_false, ]
        by_cases c6 : 0 < i
        ·obtain ⟨y, hy⟩ := get_ex (l := t.Trips) (i := i - 1) (by omega)
         have e1 : w64 ((i : Int) - 1) = ((i - 1 : Nat) : Int) := by rw [w64_id (by omega)]; omega
         have c6' : (0 : Int) < (i : Int) := by omega
         simp only [c6', decide_true, if_true, e1, idx_nat, hy, qb, Option.some.injEq]
         by_cases c7 : x.Id ≤ y.Id
         ·have : ¬ TripQ t i x := fun h => by have := h.2 y c6 hy; omega
          simp only [c7, decide_true, this, decide_false, Bool.not_false]
         ·have : TripQ t i x := ⟨hT, fun z _ hz => by rw [hy] at hz; cases hz; omega⟩
          simp only [c7, decide_false, this, decide_true, Bool.not_true]
        ·have c6' : ¬ (0 : Int) < (i : Int) := by omega
         have : TripQ t i x := ⟨hT, fun z h0 _ => absurd h0 c6⟩
         simp only [c6', decide_false, Bool.false_eq_true, if_false, this, decide_true, Bool.not_true]
       ·rw [no (fun hT => by
         obtain ⟨_, l', hl', _, h⟩ := hT
         rw [hl] at hl'; cases hl'; exact c5 h)]
        simp only [c5, decide_false, Bool.not_false, if_true]
      ·rw [no (fun hT => by obtain ⟨_, l', _, h, _⟩ := hT; exact c4 h)]
       simp only [c1, c3, c4, and_self, decide_true, decide_false, Bool.not_true, Bool.not_false, Bool.false_eq_true, if_false, if_true]
     ·rw [no (fun hT => by
       obtain ⟨_, l', hl', _⟩ := hT
       have := idx_some hl'
       exact c3 ⟨this.1, by omega⟩)]
      simp only [c1, c3, and_self, decide_true, decide_false, Bool.not_true, Bool.not_false, Bool.false_eq_true, if_false, if_true]
    ·rw [no (fun hT => c1 hT.1)]
     simp only [c1, decide_false, Bool.not_false, if_true]
   rw [bind_assoc', key]
   refine .iteN (fun hn => .dn (.inr ⟨rfl, fun hp => hn ⟨hp.1 i x hx, fun y hi hy => hp.2 (i - 1) y x hy (by rw [show i - 1 + 1 = i by omega]; exact hx)⟩⟩)) (fun hp => .nx ⟨m - 1, by omega, i + 1, w64_succ (by omega), by omega, ?_, ?_⟩)
   ·intro j y hj hy
    by_cases hji : j = i
    ·subst hji; rw [hx] at hy; cases hy; exact hp.1
    ·exact h3 j y (by omega) hy
   ·intro j a b hj ha hb'
    by_cases hji : j + 1 = i
    ·subst hji; rw [hx] at hb'; cases hb'
     exact hp.2 a (by omega) (by simpa using ha)
    ·exact h4 j a b (by omega) ha hb'
  ·have d : decide ((12 : Int) < (t.Trips.length : Int)) = true := by simp; omega
   have : ¬ GoodT t := fun h => h12 h.2.1
   simp [hg, d, this]
 ·have : ¬ GoodT t := fun h => hg h.1
  simp [hg, this]
theorem lineOf_eq {t : Timetable} {x : Trip} {l : Line} (hl : idx t.Network.Lines x.Line = some l) : zq23 t x = some l := by
 unfold zq23; rw [hl]; rfl
theorem trip_line {t : Timetable} (h : GoodT t) {i : Nat} {x : Trip} (hx : t.Trips[i]? = some x) : ∃ l, idx t.Network.Lines x.Line = some l ∧ LineP t.Network.Stops.length l ∧ (1 ≤ x.Id ∧ x.Id ≤ 999) ∧ (0 ≤ x.Start ∧ x.Start ≤ 1799) ∧ 0 ≤ x.Start + l.Runs.sum ∧ x.Start + l.Runs.sum ≤ 1799 := by
 obtain ⟨h1, l, hl, h2, h3⟩ := h.2.2.1 i x hx
 exact ⟨l, hl, good_line h.1 hl, h1, h2, h3⟩
def ST (l : Line) (s : Int) : List Int := (List.range (l.Runs.length + 1)).map fun k => s + (l.Runs.take k).sum
theorem ST_len (l : Line) (s : Int) : (ST l s).length = l.Runs.length + 1 := by simp [ST]
theorem ST_at {l : Line} {s : Int} {k : Nat} (hk : k ≤ l.Runs.length) : (ST l s)[k]? = some (s + (l.Runs.take k).sum) := by
 unfold ST; rw [List.getElem?_map, List.getElem?_range (by omega)]; rfl
theorem stopTimes_eq {t : Timetable} {x : Trip} {l : Line} {st : Nat} (hl : idx t.Network.Lines x.Line = some l) (hp : LineP st l) (hs : 0 ≤ x.Start ∧ x.Start ≤ 1799) : zq26 t x = some (ST l x.Start) := by
 obtain ⟨⟨h1, h2, h3⟩, h4⟩ := line_runs hp
 unfold zq26
 rw [lineOf_eq hl]
 simp only [qb]
 refine Tot.val (.call (P := fun v => v = ST l x.Start) ?_ fun v h => .ok h)
 refine .iter (fun m s => ∃ k : Nat, s.1 = (k : Int) ∧ m + k = l.Runs.length ∧ s.2 = (ST l x.Start).take (k + 1)) (n := l.Runs.length) ⟨0, rfl, rfl, ?_⟩ ?_
 ·rw [take_succ (x := x.Start) (by have := ST_at (l := l) (s := x.Start) (k := 0) (by omega); simpa using this)]; rfl
 ·rintro m ⟨v, r⟩ ⟨k, hk, hm, hr⟩
  simp only at hk hr
  subst hk
  unfold zq26_L1
  have hlen := ST_len l x.Start
  refine .iteP (fun hc => ?_) (fun hc => .dn (by rw [hr, List.take_of_length_le (by omega)]))
  obtain ⟨e, he⟩ := get_ex (l := l.Runs) (i := k) (by omega)
  have hk1 := ST_at (l := l) (s := x.Start) (k := k) (by omega)
  have hk2 := ST_at (l := l) (s := x.Start) (k := k + 1) (by omega)
  have b1 := runs_sum hp k
  have b2 := h4 e (List.mem_of_getElem? he)
  refine .eq (by rw [idx_nat]; exact he) (.eq (by rw [idx_nat, hr, List.getElem?_take_of_lt (by omega)]; exact hk1) (.chk (by rw [hr]; simp; omega) (.nx ⟨m - 1, by omega, k + 1, w64_succ (by omega), by omega, ?_⟩)))
  show r ++ [w64 (x.Start + (l.Runs.take k).sum + e)] = _
  rw [take_succ hk2, hr, w64_id (by omega), sum_take_succ he, Int.add_assoc]
theorem anyNet_ok {k : Nat} {c : l1Cur} (h : Cur k c) (hk : k ≤ 200000000) : Tot (zq38 c) fun r => Cur (k + 1000) r.2 ∧ Bd r.1 := anyNetwork_ok h hk
def DT (t : Timetable) : Prop := Bd t.Network ∧ t.Trips.length ≤ 30
theorem DT.tb {t : Timetable} (h : DT t) : TB t := ⟨h.1, by have := h.2; omega⟩
theorem timetable_ok {k : Nat} {c : l1Cur} (h : Cur k c) (hk : k ≤ 100000000) : Tot (zq51 c) fun r => Cur (k + 400) r.2 ∧ DT r.1 ∧ NB r.1.Network ∧ r.1.Trips.length ≤ 8 := by
 unfold zq51
 refine .call (networkT_ok h (by omega)) fun r ⟨hc, hn⟩ => .call (pick_ok 8 hc (by omega)) fun r1 ⟨hc1, h0, h1⟩ => ?_
 refine .call (P := fun o => Cur (k + 400) ⟨o.1, o.2.1, ⟨o.2.2.1⟩⟩ ∧ o.2.2.2.length ≤ 8) ?_ fun o ⟨ho1, ho2⟩ => .ok ⟨ho1, ⟨hn.bd, by show o.2.2.2.length ≤ 30; omega⟩, hn, ho2⟩
 refine .iter (fun m s => s.2.1 = (m : Int) ∧ m + s.2.2.2.2.2.length ≤ 8 ∧ Cur (k + 302 + 6 * (8 - m)) ⟨s.2.2.1, s.2.2.2.1, ⟨s.2.2.2.2.1⟩⟩) (n := r1.1.toNat) ⟨by show r1.1 = _; omega, by show r1.1.toNat + 0 ≤ 8; omega, hc1.mono (by omega)⟩ ?_
 rintro m ⟨n, v, v1, v2, v3, v4⟩ ⟨hv, hl, hcur⟩
 simp only at hv hl hcur
 subst hv
 unfold zq51_L1
 refine .iteP (fun hc => ?_) (fun hc => .dn ⟨hcur.mono (by omega), by show v4.length ≤ 8; omega⟩)
 refine .call (pick_ok 3 hcur (by omega)) fun r2 ⟨hc2, _⟩ => .call (pick_ok _ hc2 (by omega)) fun r5 ⟨hc5, _⟩ => .call (pick_ok 24 hc5 (by omega)) fun r6 ⟨hc6, _⟩ => .chk (by simp; omega) (.nx ⟨m - 1, by omega, ?_, ?_, ?_⟩)
 ·show w64 ((m : Int) - 1) = _; rw [w64_id (by omega)]; omega
 ·show m - 1 + (v4 ++ [_]).length ≤ 8; simp; omega
 ·exact hc6.mono (by omega)
theorem anyTimetable_ok {k : Nat} {c : l1Cur} (h : Cur k c) (hk : k ≤ 50000000) : Tot (zq39 c) fun r => Cur (k + 2000) r.2 ∧ DT r.1 := by
 unfold zq39
 refine .call (timetable_ok h (by omega)) fun r ⟨hc, hd, hn, hl⟩ => ?_
 refine .ite (fun _ => .ok ⟨hc.mono (by omega), hd⟩) fun he => ?_
 have hpos : 0 < r.1.Trips.length := by
  have : (r.1.Trips.length : Int) ≠ 0 := by simpa using he
  omega
 refine .call (pick_ok _ hc (by omega)) fun r1 ⟨hc1, h10, h11⟩ => ?_
 have h12 : r1.1 < (r.1.Trips.length : Int) := by omega
 refine .idx h10 h12 fun e _ => ?_
 have fin : ∀ (v : List UInt8) (v1 v2 : Int) (v3 : List Line) (v4 v5 v6 : Int) (v7 : List ByteArray), Cur (k + 2000) ⟨v, v1, ⟨v2⟩⟩ → Bd ⟨v7, v3⟩ → Tot ((idx r.1.Trips r1.1).bind fun e2 => some ((⟨(⟨v7, v3⟩ : Network), (r.1.Trips.set r1.1.toNat (⟨v4, v5, v6⟩ : Trip))⟩ : Timetable), (⟨v, v1, (⟨v2⟩ : IK .u64)⟩ : l1Cur))) fun r => Cur (k + 2000) r.2 ∧ DT r.1 := fun v v1 v2 v3 v4 v5 v6 v7 q1 q2 =>
  .idx h10 h12 fun e2 _ => .ok ⟨q1, q2, by show (r.1.Trips.set _ _).length ≤ 30; rw [List.length_set]; omega⟩
 refine .flb (.call (pick_ok 24 hc1 (by omega)) fun r2 ⟨hc2, _⟩ => ?_)
 refine .ite (fun _ => .call (among_ok _ (by simp) hc2 (by omega)) fun r3 ⟨hc3, _⟩ => .go (fin _ _ _ _ _ _ _ _ (hc3.mono (by omega)) hd.1)) fun _ => ?_
 refine .ite (fun _ => .call (pick_ok 7 hc2 (by omega)) fun r3 ⟨hc3, _⟩ => .go (fin _ _ _ _ _ _ _ _ (hc3.mono (by omega)) hd.1)) fun _ => ?_
 refine .ite (fun _ => .call (among_ok _ (by simp) hc2 (by omega)) fun r3 ⟨hc3, _⟩ => .go (fin _ _ _ _ _ _ _ _ (hc3.mono (by omega)) hd.1)) fun _ => ?_
 refine .ite (fun _ => .call (anyNet_ok hc2 (by omega)) fun r3 ⟨hc3, hb⟩ => .go (fin _ _ _ _ _ _ _ _ (hc3.mono (by omega)) hb)) fun _ => ?_
 refine .ite (fun _ => ?_) fun _ => .go (fin _ _ _ _ _ _ _ _ (hc2.mono (by omega)) hd.1)
 refine .call (P := fun o => Cur (k + 2000) ⟨o.1, o.2.1, ⟨o.2.2.1⟩⟩ ∧ o.2.2.2.length ≤ 30) ?_ fun o ⟨ho1, ho2⟩ => .ret ⟨ho1, hd.1, ho2⟩
 refine .iter (fun m s => ∃ i : Nat, s.1 = (i : Int) ∧ m + i = 14 ∧ s.2.2.2.2.length ≤ 8 + i ∧ Cur (k + 500 + 2 * i) ⟨s.2.1, s.2.2.1, ⟨s.2.2.2.1⟩⟩) (n := 14) ⟨0, rfl, rfl, by simpa using hl, hc2.mono (by omega)⟩ ?_
 rintro m ⟨v8, v9, v10, v11, v12⟩ ⟨i, hv, hm, hl12, hcur⟩
 simp only at hv hl12 hcur
 subst hv
 unfold zq39_L1
 refine .call (pick_ok 2 hcur (by omega)) fun r8 ⟨hc8, _⟩ => ?_
 refine .call (P := fun b => b = true → i < 14) (.ite (fun _ => .ok fun hb => by simp at hb; omega) fun _ => .ok fun hb => by cases hb) fun b hb => ?_
 refine .ite (fun ht => .chk (by simp; omega) (.nx ⟨m - 1, by have := hb ht; omega, i + 1, w64_succ (by omega), by have := hb ht; omega, ?_, hc8.mono (by omega)⟩)) (fun _ => .dn ⟨hc8.mono (by omega), by show v12.length ≤ 30; omega⟩)
 show (v12 ++ [_]).length ≤ 8 + (i + 1); simp; omega
theorem t_pick {k : Nat} {c : l1Cur} (n : Int) (h : Cur k c) (hk : k ≤ 3000000000) : Tot (zq50 c n) fun r => Cur (k + 2) r.2 ∧ 0 ≤ r.1 ∧ (r.1 < n ∨ r.1 = 0) := pick_ok n h hk
theorem t_one {k : Nat} {c : l1Cur} (n : Int) (h : Cur k c) (hk : k ≤ 3000000000) : Tot (zq49 c n) fun r => Cur (k + 2) r.2 := one_ok n h hk
theorem t_among {k : Nat} {c : l1Cur} (l : List Int) (hl : l ≠ []) (h : Cur k c) (hk : k ≤ 3000000000) : Tot (zq36 c l) fun r => Cur (k + 2) r.2 ∧ r.1 ∈ l := among_ok l hl h hk
theorem t_amongw {k : Nat} {c : l1Cur} (l : List Int) (hl : l ≠ []) (h : Cur k c) (hk : k ≤ 3000000000) : Tot (zq37 c l) fun r => Cur (k + 2) r.2 ∧ r.1 ∈ l := amongw_ok l hl h hk
theorem rBig_eq (code : List UInt8) : zq95 code = some (decide (65536 < (code.length : Int))) := rfl
theorem compare_int (x y : Int) : zq0 x y = some (if x < y then -1 else if y < x then 1 else 0) := by
 unfold zq0 zq1
 by_cases h : x < y
 ·simp [h]
 ·by_cases h2 : y < x <;> simp [h, h2]
theorem idx0 {α : Type} (l : List α) : idx l 0 = l[0]? := idx_nat l 0
theorem rInts_refl (a : List Int) (h : a.length ≤ 100000) : zq96 a a = some true := by
 unfold zq96
 simp only [bne_self_eq_false, Bool.false_eq_true, if_false]
 rw [all_val (hd := Classical.propDecidable _) a (fun _ _ => True) (fun i x hx => ?_) (by unfold zq96_L1; simp)]
 ·rw [if_pos (fun _ _ _ => trivial)]
 ·have hi := get_lt hx
  unfold zq96_L1
  have hlt : decide ((i : Int) < (a.length : Int)) = true := by simp; omega
  left
  simp only [hlt, if_true, idx_nat, hx, qb, bne_self_eq_false, Bool.false_eq_true, if_false, w64_succ (n := i) (by omega), and_self]
def Pc {α : Type} (m : Option α) (Q : α → Prop) : Prop := ∀ r, m = some r → Q r
theorem Pc.call {α β : Type} {m : Option α} {P : α → Prop} {k : α → Option β} {Q : β → Prop} (h : Tot m P) (hk : ∀ x, P x → Pc (k x) Q) : Pc (m.bind k) Q := by
 obtain ⟨x, hx, hp⟩ := h
 subst hx
 exact hk x hp
theorem Pc.any {α β : Type} {m : Option α} {k : α → Option β} {Q : β → Prop} (hk : ∀ x, Pc (k x) Q) : Pc (m.bind k) Q := by
 intro r hr
 obtain ⟨x, _, hx⟩ := obind hr
 exact hk x r hx
theorem Pc.bind {α β : Type} {m : Option α} {k : α → Option β} {P : α → Prop} {Q : β → Prop} (h : Pc m P) (hk : ∀ x, P x → Pc (k x) Q) : Pc (m.bind k) Q := by
 intro r hr
 obtain ⟨x, hm, hx⟩ := obind hr
 exact hk x (h x hm) r hx
theorem Pc.ok {α : Type} {a : α} {Q : α → Prop} (h : Q a) : Pc (some a) Q := by intro r hr; cases hr; exact h
theorem Pc.ite {α : Type} {c : Bool} {a b : Option α} {Q : α → Prop} (h1 : Pc a Q) (h2 : Pc b Q) : Pc (if c = true then a else b) Q := by
 cases c
 ·exact h2
 ·exact h1
theorem Pc.flb {R V : Type} {m : Option (Fl R V)} {k : V → Option R} {Q : R → Prop} (h : Pc m fun v => (∀ r, v = .ret r → Q r) ∧ ∀ u, v = .go u → Pc (k u) Q) : Pc (Ab.flb m k) Q := by
 intro r hr
 obtain ⟨v, hv, h2⟩ := obind hr
 have := h v hv
 cases v with
 | ret r' => cases h2; exact this.1 _ rfl
 | go u => exact this.2 u rfl r h2
theorem Pc.go {R V : Type} {u : V} {Q : R → Prop} {P : V → Prop} (h : P u) : Pc (some (Fl.go u : Fl R V)) fun v => (∀ r, v = .ret r → Q r) ∧ ∀ u, v = .go u → P u := Pc.ok ⟨fun r h => (by cases h), fun u' h => by cases h; assumption⟩
theorem Pc.ret {R V : Type} {r : R} {Q : R → Prop} {P : V → Prop} (h : Q r) : Pc (some (Fl.ret r : Fl R V)) fun v => (∀ r, v = .ret r → Q r) ∧ ∀ u, v = .go u → P u := Pc.ok ⟨fun r' h => by cases h; assumption, fun u h => by cases h⟩
theorem Tot.pc {α : Type} {m : Option α} {P Q : α → Prop} (h : Tot m P) (hq : Pc m Q) : Tot m fun r => P r ∧ Q r := by
 obtain ⟨x, hx, hp⟩ := h
 exact ⟨x, hx, hp, hq x hx⟩
theorem anyNet_st {k : Nat} {c : l1Cur} (h : Cur k c) (hk : k ≤ 200000000) : Pc (zq38 c) fun r => 2 ≤ r.1.Stops.length := by
 unfold zq38
 refine .call (networkT_ok h (by omega)) fun r ⟨_, hn⟩ => .any fun r1 => .any fun e => .flb ?_
 have h2 := hn.1.1
 have fin : ∀ (v : List UInt8) (v1 v2 : Int) (v3 : ByteArray) (v4 : List ByteArray) (v5 : List Line) (v6 : List Int), 2 ≤ v4.length → Pc ((idx v5 r1.1).bind fun e9 => some ((⟨v4, (v5.set r1.1.toNat (⟨v3, e9.Stops, v6⟩ : Line))⟩ : Network), (⟨v, v1, (⟨v2⟩ : IK .u64)⟩ : l1Cur))) fun r => 2 ≤ r.1.Stops.length := fun v v1 v2 v3 v4 v5 v6 hv => .any fun e9 => .ok hv
 refine .any fun r2 => .ite (.any fun r4 => .any fun e2 => .go (fin _ _ _ _ _ _ _ (by rw [List.length_set]; exact h2))) (.ite (.any fun r5 => .go (fin _ _ _ _ _ _ _ h2)) (.ite (.any fun r8 => .any fun r9 => .any fun e4 => .go (fin _ _ _ _ _ _ _ h2)) (.ite (.any fun r12 => .any fun r13 => .any fun e6 => .go (fin _ _ _ _ _ _ _ h2)) (.ite (.any fun u => .go (fin _ _ _ _ _ _ _ h2)) (.ite (.ret h2) (.ite (.any fun ⟨v13, v14, v15, v16⟩ => .ret h2) (.go (fin _ _ _ _ _ _ _ h2))))))))
theorem anyTime_st {k : Nat} {c : l1Cur} (h : Cur k c) (hk : k ≤ 50000000) : Pc (zq39 c) fun r => 2 ≤ r.1.Network.Stops.length := by
 unfold zq39
 refine .call (timetable_ok h (by omega)) fun r ⟨hc, _, hn, hl⟩ => ?_
 have h2 := hn.1.1
 refine .ite (.ok h2) (.call (pick_ok _ hc (by omega)) fun r1 ⟨hc1, _⟩ => .any fun e => .flb (.call (pick_ok 24 hc1 (by omega)) fun r2 ⟨hc2, _⟩ => ?_))
 have fin : ∀ (v : List UInt8) (v1 v2 : Int) (v3 : List Line) (v4 v5 v6 : Int) (v7 : List ByteArray), 2 ≤ v7.length → Pc ((idx r.1.Trips r1.1).bind fun e2 => some ((⟨(⟨v7, v3⟩ : Network), (r.1.Trips.set r1.1.toNat (⟨v4, v5, v6⟩ : Trip))⟩ : Timetable), (⟨v, v1, (⟨v2⟩ : IK .u64)⟩ : l1Cur))) fun r => 2 ≤ r.1.Network.Stops.length := fun v v1 v2 v3 v4 v5 v6 v7 hv => .any fun e9 => .ok hv
 refine .ite (.any fun r3 => .go (fin _ _ _ _ _ _ _ _ h2)) (.ite (.any fun r4 => .go (fin _ _ _ _ _ _ _ _ h2)) (.ite (.any fun r5 => .go (fin _ _ _ _ _ _ _ _ h2)) (.ite (.bind (anyNet_st hc2 (by omega)) fun r6 h6 => .go (fin _ _ _ _ _ _ _ _ h6)) (.ite (.any fun ⟨v14, v15, v16, v17⟩ => .ret h2) (.go (fin _ _ _ _ _ _ _ _ h2))))))
def FlowOK (t : Timetable) (f : Flow) : Prop := (0 ≤ f.From ∧ f.From < (t.Network.Stops.length : Int)) ∧ (0 ≤ f.To ∧ f.To < (t.Network.Stops.length : Int)) ∧ f.From ≠ f.To ∧ (0 ≤ f.Time ∧ f.Time ≤ 1799) ∧ 1 ≤ f.Persons ∧ f.Persons ≤ 500
instance (t : Timetable) (f : Flow) : Decidable (FlowOK t f) := by unfold FlowOK; infer_instance
theorem isFlow_eq (t : Timetable) (f : Flow) : zq17 t f = some (decide (FlowOK t f)) := by
 unfold zq17 FlowOK
 simp only [isStop_eq, time_eq, within_eq, qb]
 by_cases h1 : 0 ≤ f.From ∧ f.From < (t.Network.Stops.length : Int)
 ·by_cases h2 : 0 ≤ f.To ∧ f.To < (t.Network.Stops.length : Int)
  ·by_cases h3 : f.From = f.To
   ·simp [h3]
   ·by_cases h4 : 0 ≤ f.Time ∧ f.Time ≤ 1799 <;> simp [h1, h2, h3, h4]
  ·simp [h2]
 ·simp [h1]
theorem l20Flow_eq (t : Timetable) (hn : t.Network.Stops.length ≤ 1000) (f : Flow) : zq59 t f = some (decide (FlowOK t f)) := by
 have e : w64 ((t.Network.Stops.length : Int) - 1) = (t.Network.Stops.length : Int) - 1 := w64_id (by omega)
 unfold zq59 FlowOK
 rw [e]
 simp only [l1In_eq, l4Time_eq, qb]
 have a1 : (0 ≤ f.From ∧ f.From ≤ (t.Network.Stops.length : Int) - 1) = (0 ≤ f.From ∧ f.From < (t.Network.Stops.length : Int)) := propext (by omega)
 have a2 : (0 ≤ f.To ∧ f.To ≤ (t.Network.Stops.length : Int) - 1) = (0 ≤ f.To ∧ f.To < (t.Network.Stops.length : Int)) := propext (by omega)
 simp only [a1, a2]
 by_cases h1 : 0 ≤ f.From ∧ f.From < (t.Network.Stops.length : Int)
 ·by_cases h2 : 0 ≤ f.To ∧ f.To < (t.Network.Stops.length : Int)
  ·by_cases h3 : f.From = f.To
   ·simp [h3]
   ·by_cases h4 : 0 ≤ f.Time ∧ f.Time ≤ 1799 <;> simp [h1, h2, h3, h4]
  ·simp [h2]
 ·simp [h1]
def FlowsOK (t : Timetable) (list : List Flow) : Prop := list.length ≤ 12 ∧ ∀ f ∈ list, FlowOK t f
theorem flowsL_eq (t : Timetable) (hn : t.Network.Stops.length ≤ 1000) (list : List Flow) (v : Int) : zq60_L1 t list v = zq12_L1 t list v := by
 unfold zq60_L1 zq12_L1
 by_cases hc : v < (list.length : Int)
 ·simp only [hc, decide_true, if_true]
  cases he : idx list v with
  | none => rfl
  | some x =>
   simp only [qb, l20Flow_eq t hn, isFlow_eq]
 ·simp only [hc, decide_false, Bool.false_eq_true, if_false]
theorem areFlows_ok (t : Timetable) (list : List Flow) (hl : list.length ≤ 1000) : Tot (zq12 t list) fun b => b = true → FlowsOK t list := by
 unfold zq12
 refine .iteP (fun _ => .ok fun h => (by cases h)) fun h12 => ?_
 refine .flb (.iter (fun m s => ∃ k : Nat, s = (k : Int) ∧ m + k = list.length ∧ ∀ (j : Nat) x, j < k → list[j]? = some x → FlowOK t x) (n := list.length) ⟨0, rfl, rfl, fun j x h => absurd h (by omega)⟩ ?_)
 rintro m s ⟨k, rfl, hm, hk⟩
 unfold zq12_L1
 refine .iteP (fun hc => ?_) fun hc => .dn ⟨fun r h => (by cases h), fun u hu => .ok fun _ => ⟨by omega, fun f hf => ?_⟩⟩
 ·obtain ⟨x, hx⟩ := get_ex (l := list) (i := k) (by omega)
  refine .eq (ixs hx) (.eq (isFlow_eq t x) ?_)
  refine .call (P := fun b => b = false → FlowOK t x) (.iteN (fun h => .ok fun h => (by cases h)) fun h => .iteP (fun h0 => ?_) fun h0 => .ok fun _ => h) fun b hb => .ite (fun _ => .dn ⟨fun r h => by cases h; exact fun h => (by cases h), fun u h => (by cases h)⟩) fun h => .nx ⟨m - 1, by omega, k + 1, w64_succ (by omega), by omega, fun j y hj hy => ?_⟩
  ·obtain ⟨y, hy⟩ := get_ex (l := list) (i := k - 1) (by omega)
   have ew : w64 ((k : Int) - 1) = ((k - 1 : Nat) : Int) := by rw [w64_id (by omega)]; omega
   rw [ew]
   exact .eq (ixs hy) (.ok fun _ => h)
  ·by_cases e : j = k
   ·subst e; rw [hx] at hy; cases hy; exact hb h
   ·exact hk j y (by omega) hy
 ·obtain ⟨j, hj⟩ := List.getElem?_of_mem hf
  have := get_lt hj
  exact hk j f (by omega) hj
theorem flows_both {t : Timetable} (hb : TB t) (list : List Flow) (hl : list.length ≤ 1000) : ∃ b, zq2 t list = some b ∧ zq60 t list = some b ∧ (b = true → GoodT t ∧ FlowsOK t list) := by
 have hn : t.Network.Stops.length ≤ 1000 := hb.1.1
 obtain ⟨b, h1, h2⟩ := areFlows_ok t list hl
 have hL : zq60_L1 t list = zq12_L1 t list := funext fun v => flowsL_eq t hn list v
 unfold zq2 zq60
 rw [validT_eq hb, goodT_eq hb, hL]
 by_cases hT : GoodT t
 ·refine ⟨b, ?_, ?_, fun hbt => ⟨hT, h2 hbt⟩⟩
  ·simp only [hT, decide_true, qb, if_true, h1]
  ·simp only [hT, decide_true, qb, Bool.not_true, Bool.false_eq_true, if_false]
   unfold zq12 at h1
   exact h1
 ·refine ⟨false, ?_, ?_, fun h => (by cases h)⟩
  ·simp only [hT, decide_false, qb, Bool.false_eq_true, if_false]
  ·simp only [hT, decide_false, qb, Bool.not_false, if_true]
def svO (t : Timetable) (f : Flow) (i : Nat) (x : Trip) : Option service := match idx t.Network.Lines x.Line with
 | some l => if 0 ≤ fixI (fun e => f.From == e) l.Stops ∧ fixI (fun e => f.From == e) l.Stops < fixI (fun e => f.To == e) l.Stops ∧ f.Time ≤ x.Start + (l.Runs.take (fixI (fun e => f.From == e) l.Stops).toNat).sum then some ⟨(i : Int), fixI (fun e => f.From == e) l.Stops, fixI (fun e => f.To == e) l.Stops, x.Start + (l.Runs.take (fixI (fun e => f.To == e) l.Stops).toNat).sum⟩ else none
 | none => none
theorem svO_eq {t : Timetable} {f : Flow} {i : Nat} {x : Trip} {l : Line} (hl : idx t.Network.Lines x.Line = some l) : svO t f i x = if 0 ≤ fixI (fun e => f.From == e) l.Stops ∧ fixI (fun e => f.From == e) l.Stops < fixI (fun e => f.To == e) l.Stops ∧ f.Time ≤ x.Start + (l.Runs.take (fixI (fun e => f.From == e) l.Stops).toNat).sum then some ⟨(i : Int), fixI (fun e => f.From == e) l.Stops, fixI (fun e => f.To == e) l.Stops, x.Start + (l.Runs.take (fixI (fun e => f.To == e) l.Stops).toNat).sum⟩ else none := by
 unfold svO; rw [hl]
def svs (t : Timetable) (f : Flow) : Nat → List service
 | 0 => []
 | k + 1 => svs t f k ++ ((t.Trips[k]?).bind (svO t f k)).toList
theorem svs_succ {t : Timetable} {f : Flow} {k : Nat} {x : Trip} (hx : t.Trips[k]? = some x) : svs t f (k + 1) = svs t f k ++ (svO t f k x).toList := by
 show svs t f k ++ ((t.Trips[k]?).bind (svO t f k)).toList = _
 rw [hx]; rfl
theorem svs_le (t : Timetable) (f : Flow) : ∀ k, (svs t f k).length ≤ k
 | 0 => Nat.le_refl _
 | k + 1 => by
  have := svs_le t f k
  show (svs t f k ++ ((t.Trips[k]?).bind (svO t f k)).toList).length ≤ k + 1
  rw [List.length_append]
  have : (((t.Trips[k]?).bind (svO t f k)).toList).length ≤ 1 := by cases (t.Trips[k]?).bind (svO t f k) <;> simp
  omega
theorem svs_mem {t : Timetable} {f : Flow} {s : service} : ∀ {k : Nat}, s ∈ svs t f k → ∃ (i : Nat) (x : Trip), i < k ∧ t.Trips[i]? = some x ∧ svO t f i x = some s
 | 0, h => by cases h
 | k + 1, h => by
  have h : s ∈ svs t f k ++ ((t.Trips[k]?).bind (svO t f k)).toList := h
  rcases List.mem_append.1 h with h | h
  ·obtain ⟨i, x, h1, h2, h3⟩ := svs_mem h
   exact ⟨i, x, by omega, h2, h3⟩
  ·cases hx : t.Trips[k]? with
   | none => rw [hx] at h; cases h
   | some x =>
    rw [hx] at h
    exact ⟨k, x, by omega, hx, by simpa using h⟩
def sLt (a b : service) : Bool := decide (a.arrive_ < b.arrive_)
theorem cmpSv (x y : service) : ∃ c, zq25 x y = some c ∧ decide (c < 0) = sLt x y := by
 unfold zq25 sLt
 rw [compare_int]
 refine ⟨_, rfl, ?_⟩
 by_cases h : x.arrive_ < y.arrive_
 ·simp [h]
 ·by_cases h2 : y.arrive_ < x.arrive_ <;> simp [h, h2]
theorem insSv (l : List service) (hl : l.length ≤ 4294967295) : zq88 l 0 (l.length : Int) = some (Pdq.isort sLt l) := Pdq.insertion_st cmpSv l hl
theorem stableSv (l : List service) (hl : l.length < 20) : zq86 l = some (Pdq.isort sLt l) := by
 have s1 : zq91_L1 (l.length : Int) ((0 : Int), (20 : Int), l) = some (.dn (0, l)) := by
  unfold zq91_L1
  have : ¬ (20 : Int) ≤ (l.length : Int) := by omega
  simp [this]
 have s2 : ∀ l' : List service, zq91_L3 (l.length : Int) ((20 : Int), l') = some (.dn l') := fun l' => by
  unfold zq91_L3
  have : ¬ (20 : Int) < (l.length : Int) := by omega
  simp [this]
 unfold zq86 zq91
 rw [iter_dn s1]
 simp only [qb]
 rw [insSv l (by omega)]
 simp only [qb]
 rw [iter_dn (s2 _)]; rfl
def svL (t : Timetable) (f : Flow) : List service := Pdq.isort sLt (svs t f t.Trips.length)
theorem servicesOf_eq {t : Timetable} (hT : GoodT t) (f : Flow) : zq24 t f = some (svL t f) := by
 have h12 := hT.2.1
 unfold zq24
 have hle := svs_le t f t.Trips.length
 refine Tot.val (.call (P := fun o => o = svs t f t.Trips.length) ?_ fun o ho => by subst ho; exact .eq (stableSv _ (by omega)) (.ok rfl))
 refine Tot.iter (fun m s => ∃ i : Nat, s.1 = (i : Int) ∧ m + i = t.Trips.length ∧ s.2 = svs t f i) (n := t.Trips.length) ⟨0, rfl, rfl, rfl⟩ ?_
 rintro m ⟨v, o⟩ ⟨i, hv, hm, ho⟩
 simp only at hv ho
 subst hv; subst ho
 unfold zq24_L1
 have hle := svs_le t f i
 refine .iteP (fun hc => ?_) (fun hc => .dn (by rw [show i = t.Trips.length by omega]))
 obtain ⟨x, hx⟩ := get_ex (l := t.Trips) (i := i) (by omega)
 obtain ⟨l, hl, hp, hid, hs, _⟩ := trip_line hT hx
 obtain ⟨⟨r1, r2, r3⟩, _⟩ := line_runs hp
 refine .call (P := fun o => o = svs t f (i + 1)) ?_ fun o ho => .nx ⟨m - 1, by omega, i + 1, w64_succ (by omega), by omega, ho⟩
 refine .eq (ixs hx) (.eq (lineOf_eq hl) (.eq (stopTimes_eq hl hp hs) (.eq (index_int_eq l.Stops (by omega) f.From) (.eq (index_int_eq l.Stops (by omega) f.To) ?_))))
 rw [svs_succ hx, svO_eq hl]
 have q1 := fixI_rng (fun e => f.From == e) l.Stops
 have q2 := fixI_rng (fun e => f.To == e) l.Stops
 revert q1 q2
 generalize fixI (fun e => f.From == e) l.Stops = p
 generalize fixI (fun e => f.To == e) l.Stops = q
 intro q1 q2
 refine .call (P := fun b => b = decide (0 ≤ p ∧ p < q ∧ f.Time ≤ x.Start + (l.Runs.take p.toNat).sum)) (.iteP (fun h1 => .iteP (fun h2 => .eq (idx_of h1 (ST_at (l := l) (s := x.Start) (k := p.toNat) (by omega))) (.ok (by simp [h1, h2]))) (fun h2 => .ok (by simp [h2]))) (fun h1 => .ok (by simp [h1]))) fun b hb => ?_
 subst hb
 refine .iteP (fun hC => .eq (idx_of (by omega) (ST_at (l := l) (s := x.Start) (k := q.toNat) (by omega))) (.chk (by simp; omega) (.ok ?_))) (fun hC => .ok ?_)
 ·rw [if_pos hC]; rfl
 ·rw [if_neg hC]; simp
theorem places_eq {t : Timetable} (hT : GoodT t) (f : Flow) {i : Nat} {x : Trip} (hx : t.Trips[i]? = some x) : zq62 t (i : Int) f = some (match svO t f i x with | some s => (s.from_, s.to_) | none => (-1, -1)) := by
 obtain ⟨l, hl, hp, hid, hs, _⟩ := trip_line hT hx
 obtain ⟨⟨r1, r2, r3⟩, _⟩ := line_runs hp
 unfold zq62
 rw [l5Line_eq hx hl, svO_eq hl]
 simp only [qb]
 rw [l2Place_eq l (by omega) f.From]
 simp only [qb]
 rw [l2Place_eq l (by omega) f.To]
 simp only [qb]
 have q1 := fixI_rng (fun e => f.From == e) l.Stops
 have q2 := fixI_rng (fun e => f.To == e) l.Stops
 revert q1 q2
 generalize fixI (fun e => f.From == e) l.Stops = p
 generalize fixI (fun e => f.To == e) l.Stops = q
 intro q1 q2
 by_cases h1 : p < 0
 ·have : ¬ (0 ≤ p ∧ p < q ∧ f.Time ≤ x.Start + (l.Runs.take p.toNat).sum) := by omega
  rw [if_neg this]
  simp only [h1, decide_true, if_true, qb]
 ·by_cases h2 : q ≤ p
  ·have : ¬ (0 ≤ p ∧ p < q ∧ f.Time ≤ x.Start + (l.Runs.take p.toNat).sum) := by omega
   rw [if_neg this]
   simp only [h1, h2, decide_true, decide_false, Bool.false_eq_true, if_false, if_true, qb]
  ·have hAt := l5At_eq hT.1 hx hl hs (k := p.toNat) (by omega)
   rw [show ((p.toNat : Nat) : Int) = p by omega] at hAt
   simp only [h1, h2, decide_false, Bool.false_eq_true, if_false, qb, hAt]
   by_cases h3 : f.Time ≤ x.Start + (l.Runs.take p.toNat).sum
   ·have h4 : ¬ x.Start + (l.Runs.take p.toNat).sum < f.Time := by omega
    have hC : 0 ≤ p ∧ p < q ∧ f.Time ≤ x.Start + (l.Runs.take p.toNat).sum := ⟨by omega, by omega, h3⟩
    rw [if_pos hC]
    simp only [h4, decide_false, Bool.false_eq_true, if_false]
   ·have h4 : x.Start + (l.Runs.take p.toNat).sum < f.Time := by omega
    have hC : ¬ (0 ≤ p ∧ p < q ∧ f.Time ≤ x.Start + (l.Runs.take p.toNat).sum) := fun h => h3 h.2.2
    rw [if_neg hC]
    simp only [h4, decide_true, if_true]
theorem svO_some {t : Timetable} (hT : GoodT t) {f : Flow} {i : Nat} {x : Trip} (hx : t.Trips[i]? = some x) {s : service} (h : svO t f i x = some s) : ∃ l, idx t.Network.Lines x.Line = some l ∧ s.trip_ = (i : Int) ∧ 0 ≤ s.from_ ∧ s.from_ < s.to_ ∧ s.to_ ≤ (l.Runs.length : Int) ∧ (0 ≤ s.arrive_ ∧ s.arrive_ ≤ 2099) ∧ zq76 t (i : Int) s.to_ = some s.arrive_ := by
 obtain ⟨l, hl, hp, hid, hs, _⟩ := trip_line hT hx
 obtain ⟨⟨r1, r2, r3⟩, _⟩ := line_runs hp
 rw [svO_eq hl] at h
 have q2 := fixI_rng (fun e => f.To == e) l.Stops
 split at h
 ·rename_i hc
  cases h
  have hAt := l5At_eq hT.1 hx hl hs (k := (fixI (fun e => f.To == e) l.Stops).toNat) (by omega)
  rw [show (((fixI (fun e => f.To == e) l.Stops).toNat : Nat) : Int) = fixI (fun e => f.To == e) l.Stops by omega] at hAt
  have hr := runs_sum hp (fixI (fun e => f.To == e) l.Stops).toNat
  exact ⟨l, hl, rfl, hc.1, hc.2.1, by dsimp only; omega, by dsimp only; omega, hAt⟩
 ·cases h
theorem serving_eq {t : Timetable} (hT : GoodT t) (f : Flow) : zq63 t f = some ((svL t f).map (·.trip_)) := by
 have h12 := hT.2.1
 unfold zq63
 refine Tot.val (.call (P := fun o => o = (svL t f).map (·.trip_)) ?_ fun o ho => .ok ho)
 refine Tot.iter (fun m s => ∃ i : Nat, s.1 = (i : Int) ∧ m + i = t.Trips.length ∧ s.2.1 = (Pdq.isort sLt (svs t f i)).map (·.trip_) ∧ s.2.2 = (Pdq.isort sLt (svs t f i)).map (·.arrive_)) (n := t.Trips.length) ⟨0, rfl, rfl, rfl, rfl⟩ ?_
 rintro m ⟨v, o, a⟩ ⟨i, hv, hm, ho, ha⟩
 simp only at hv ho ha
 subst hv
 unfold zq63_L2
 have hle := svs_le t f i
 refine .iteP (fun hc => ?_) (fun hc => .dn (by rw [ho, show i = t.Trips.length by omega]; rfl))
 obtain ⟨x, hx⟩ := get_ex (l := t.Trips) (i := i) (by omega)
 have hL : (Pdq.isort sLt (svs t f i)).length ≤ i := by rw [Pdq.isort_len]; exact hle
 refine .call (P := fun r => r.1 = (Pdq.isort sLt (svs t f (i + 1))).map (·.trip_) ∧ r.2 = (Pdq.isort sLt (svs t f (i + 1))).map (·.arrive_)) ?_ fun r hr => .nx ⟨m - 1, by omega, i + 1, w64_succ (by omega), by omega, hr.1, hr.2⟩
 refine .eq (places_eq hT f hx) ?_
 rw [svs_succ hx]
 cases hs : svO t f i x with
 | none =>
  dsimp only
  refine .iteP (fun _ => .ok ?_) (fun h => absurd (by decide) h)
  rw [Option.toList_none, List.append_nil]
  exact ⟨ho, ha⟩
 | some s =>
  dsimp only
  obtain ⟨l, hl, e1, e2, e3, e4, e5, e6⟩ := svO_some hT hx hs
  refine .iteP (fun h => absurd h (by omega)) (fun _ => .eq e6 ?_)
  rw [Option.toList_some, Pdq.isort_snoc]
  generalize hS : Pdq.isort sLt (svs t f i) = S at ho ha hL
  have hol : o.length = S.length := by rw [ho, List.length_map]
  have hal : a.length = S.length := by rw [ha, List.length_map]
  refine .call (P := fun v => ∃ p : Nat, v = (p : Int) ∧ p ≤ S.length ∧ (∀ y ∈ S.drop p, sLt s y = true) ∧ ∀ y, 0 < p → S[p - 1]? = some y → sLt s y = false) ?_ fun v hv => ?_
  ·refine Tot.iter (fun m (q : Int) => q = (m : Int) ∧ m ≤ S.length ∧ ∀ y ∈ S.drop m, sLt s y = true) (n := S.length) ⟨by rw [hol], Nat.le_refl _, by simp⟩ ?_
   rintro m q ⟨rfl, h2, h3⟩
   unfold zq63_L1
   refine .call (P := fun b => (b = true → 0 < m ∧ ∃ y, S[m - 1]? = some y ∧ sLt s y = true) ∧ (b = false → ∀ y, 0 < m → S[m - 1]? = some y → sLt s y = false)) (.iteP (fun h0 => ?_) fun h0 => .ok ⟨fun h => (by cases h), fun _ y h _ => absurd h (by omega)⟩) fun b hb => .ite (fun htr => ?_) (fun hf => .dn ⟨m, rfl, h2, h3, hb.2 hf⟩)
   ·obtain ⟨y, hy⟩ := get_ex (l := S) (i := m - 1) (by omega)
    have ew : w64 ((m : Int) - 1) = ((m - 1 : Nat) : Int) := by rw [w64_id (by omega)]; omega
    rw [ew]
    have hay : a[m - 1]? = some y.arrive_ := by rw [ha, List.getElem?_map, hy]; rfl
    refine .eq (ixs hay) (.ok ⟨fun h => ⟨by omega, y, hy, h⟩, fun h z _ hz => ?_⟩)
    rw [hy] at hz; cases hz; exact h
   ·obtain ⟨h0, y, hy, hxy⟩ := hb.1 htr
    refine .nx ⟨m - 1, by omega, by rw [w64_id (by omega)]; omega, by omega, fun z hz => ?_⟩
    have e2 : S.drop (m - 1) = y :: S.drop m := by
     rw [List.drop_eq_getElem_cons (l := S) (i := m - 1) (by omega), show m - 1 + 1 = m by omega]
     congr 1
     exact (List.getElem?_eq_some_iff.1 hy).2
    rw [e2] at hz
    rcases List.mem_cons.1 hz with rfl | hz
    ·exact hxy
    ·exact h3 z hz
  ·obtain ⟨p, rfl, hp1, hp2, hp3⟩ := hv
   have eI := Pdq.insE_slot (lt := sLt) (x := s) S.length rfl hp1 hp2 hp3
   refine .chk (by omega) (.chk (by simp; omega) (.chk (by simp; omega) (.chk (by omega) (.chk (by simp; omega) (.chk (by omega) (.chk (by simp; omega) (.chk (by simp; omega) (.chk (by omega) (.chk (by simp; omega) (.ok ?_))))))))))
   rw [← eI, ho, ha, ← e1]
   simp
def addRow (r : List Int) (a b : Nat) (n : Int) : List Int := r.mapIdx fun i v => if a ≤ i ∧ i < b then v + n else v
theorem addRow_len (r : List Int) (a b : Nat) (n : Int) : (addRow r a b n).length = r.length := by unfold addRow; simp
theorem addRow_at (r : List Int) (a b : Nat) (n : Int) (i : Nat) : (addRow r a b n)[i]? = (r[i]?).map fun v => if a ≤ i ∧ i < b then v + n else v := by unfold addRow; rw [List.getElem?_mapIdx]
theorem addRow_none (r : List Int) (a : Nat) (n : Int) : addRow r a a n = r := by
 refine List.ext_getElem? fun i => ?_
 rw [addRow_at]
 have : ¬ (a ≤ i ∧ i < a) := by omega
 cases r[i]? <;> simp [this]
theorem addRow_zero (r : List Int) (a b : Nat) : addRow r a b 0 = r := by
 refine List.ext_getElem? fun i => ?_
 rw [addRow_at]
 cases r[i]? <;> simp
theorem addRow_succ {r : List Int} {a k : Nat} {n v : Int} (h : r[a + k]? = some v) : (addRow r a (a + k) n).set (a + k) (v + n) = addRow r a (a + k + 1) n := by
 refine List.ext_getElem? fun i => ?_
 by_cases e : i = a + k
 ·subst e
  rw [List.getElem?_set_self (by rw [addRow_len]; exact get_lt h), addRow_at, h]
  have : a ≤ a + k ∧ a + k < a + k + 1 := by omega
  simp [this]
 ·rw [List.getElem?_set_ne (fun h => e h.symm), addRow_at, addRow_at]
  have : (a ≤ i ∧ i < a + k) = (a ≤ i ∧ i < a + k + 1) := propext (by omega)
  simp only [this]
theorem addRow_cur {r : List Int} {a k : Nat} {n v : Int} (h : r[a + k]? = some v) : (addRow r a (a + k) n)[a + k]? = some v := by
 have : ¬ (a ≤ a + k ∧ a + k < a + k) := by omega
 rw [addRow_at, h]
 simp [this]
def IsN (r : List Int) (a b : Nat) (cap left n : Int) : Prop := n ≤ left ∧ (∀ (p : Nat) v, a ≤ p → p < b → r[p]? = some v → n ≤ cap - v) ∧ (n = left ∨ ∃ (p : Nat) (v : Int), a ≤ p ∧ p < b ∧ r[p]? = some v ∧ n = cap - v)
theorem IsN.uniq {r : List Int} {a b : Nat} {cap left n m : Int} (h : IsN r a b cap left n) (h' : IsN r a b cap left m) : n = m := by
 obtain ⟨h1, h2, h3⟩ := h
 obtain ⟨g1, g2, g3⟩ := h'
 have a1 : n ≤ m := by
  rcases g3 with g3 | ⟨p, v, q1, q2, q3, q4⟩
  ·omega
  ·have := h2 p v q1 q2 q3; omega
 have a2 : m ≤ n := by
  rcases h3 with h3 | ⟨p, v, q1, q2, q3, q4⟩
  ·omega
  ·have := g2 p v q1 q2 q3; omega
 omega
def nOf (r : List Int) (a : Nat) (cap left : Int) : Nat → Int
 | 0 => left
 | k + 1 => match r[a + k]? with
  | some v => if cap - v < nOf r a cap left k then cap - v else nOf r a cap left k
  | none => nOf r a cap left k
theorem isN_nOf (r : List Int) (a : Nat) (cap left : Int) : ∀ k, IsN r a (a + k) cap left (nOf r a cap left k)
 | 0 => ⟨Int.le_refl _, fun p v h1 h2 => absurd h2 (by omega), .inl rfl⟩
 | k + 1 => by
  obtain ⟨h1, h2, h3⟩ := isN_nOf r a cap left k
  unfold nOf
  cases hv : r[a + k]? with
  | none =>
   dsimp only
   refine ⟨h1, fun p v q1 q2 q3 => h2 p v q1 ?_ q3, h3.imp id fun ⟨p, v, q1, q2, q3, q4⟩ => ⟨p, v, q1, by omega, q3, q4⟩⟩
   by_cases e : p = a + k
   ·subst e; rw [hv] at q3; cases q3
   ·omega
  | some v =>
   dsimp only
   split
   ·rename_i hlt
    refine ⟨by omega, fun p w q1 q2 q3 => ?_, .inr ⟨a + k, v, by omega, by omega, hv, rfl⟩⟩
    by_cases e : p = a + k
    ·subst e; rw [hv] at q3; cases q3; omega
    ·have := h2 p w q1 (by omega) q3; omega
   ·rename_i hlt
    refine ⟨h1, fun p w q1 q2 q3 => ?_, h3.imp id fun ⟨p, v, q1, q2, q3, q4⟩ => ⟨p, v, q1, by omega, q3, q4⟩⟩
    by_cases e : p = a + k
    ·subst e; rw [hv] at q3; cases q3; omega
    ·exact h2 p w q1 (by omega) q3
theorem max_ok {l : List Int} (h0 : 0 < l.length) (hl : l.length ≤ 100000) : Tot (zq85 l) fun M => (∀ v ∈ l, v ≤ M) ∧ M ∈ l := by
 unfold zq85
 have c : ¬ (l.length : Int) < 1 := by omega
 simp only [c, decide_false, Bool.false_eq_true, if_false]
 obtain ⟨x, hx⟩ := get_ex (l := l) (i := 0) h0
 refine .eq (by rw [idx0]; exact hx) (.call (P := fun M => (∀ v ∈ l, v ≤ M) ∧ M ∈ l) ?_ fun M h => .ok h)
 refine Tot.iter (fun m s => ∃ k : Nat, s.2 = (k : Int) ∧ m + k = l.length ∧ (∀ (j : Nat) v, j < k → l[j]? = some v → v ≤ s.1) ∧ s.1 ∈ l) (n := l.length - 1) ⟨1, rfl, by omega, fun j v hj hv => ?_, List.mem_of_getElem? hx⟩ ?_
 ·have : j = 0 := by omega
  subst this; rw [hx] at hv; cases hv; exact Int.le_refl _
 ·rintro m ⟨M, v⟩ ⟨k, hk, hm, h1, h2⟩
  simp only at hk h1 h2
  subst hk
  unfold zq85_L1
  refine .iteP (fun hc => ?_) (fun hc => .dn ⟨fun v hv => ?_, h2⟩)
  ·obtain ⟨y, hy⟩ := get_ex (l := l) (i := k) (by omega)
   refine .eq (ixs hy) (.nx ⟨m - 1, by omega, k + 1, w64_succ (by omega), by omega, fun j v hj hv => ?_, ?_⟩)
   ·dsimp only
    by_cases e : j = k
    ·subst e; rw [hy] at hv; cases hv; split <;> omega
    ·have := h1 j v (by omega) hv
     split <;> omega
   ·dsimp only
    split
    ·exact List.mem_of_getElem? hy
    ·exact h2
  ·obtain ⟨j, hj⟩ := List.getElem?_of_mem hv
   have := get_lt hj
   exact h1 j v (by omega) hj
theorem part_at {r : List Int} {a k j : Nat} (hj : j < k) : ((r.drop a).take k)[j]? = r[a + j]? := by
 rw [List.getElem?_take_of_lt hj, List.getElem?_drop]
theorem iN_ok {r : List Int} {a k : Nat} {cap left : Int} (hk : 0 < k) (hr : a + k ≤ r.length) (hl : r.length ≤ 1000) (hc : 0 ≤ cap ∧ cap ≤ 1000) (hv : ∀ v ∈ r, 0 ≤ v ∧ v ≤ cap) : Tot (zq85 ((r.drop a).take k)) fun M => (if (w64 (cap - M)) < left then (w64 (cap - M)) else left) = nOf r a cap left k := by
 have hlen : ((r.drop a).take k).length = k := by rw [List.length_take, List.length_drop]; omega
 refine (max_ok (l := (r.drop a).take k) (by omega) (by omega)).mono fun M ⟨h1, h2⟩ => ?_
 obtain ⟨j, hj⟩ := List.getElem?_of_mem h2
 have hjk : j < k := by have := get_lt hj; omega
 rw [part_at hjk] at hj
 have hM := hv M (List.mem_of_getElem? hj)
 have ew : w64 (cap - M) = cap - M := w64_id (by omega)
 rw [ew]
 refine IsN.uniq ?_ (isN_nOf r a cap left k)
 have key : ∀ (p : Nat) v, a ≤ p → p < a + k → r[p]? = some v → v ≤ M := fun p v q1 q2 q3 => by
  refine h1 v (List.mem_of_getElem? (i := p - a) ?_)
  rw [part_at (by omega), show a + (p - a) = p by omega]; exact q3
 split
 ·exact ⟨by omega, fun p v q1 q2 q3 => by have := key p v q1 q2 q3; omega, .inr ⟨a + j, M, by omega, by omega, hj, rfl⟩⟩
 ·exact ⟨Int.le_refl _, fun p v q1 q2 q3 => by have := key p v q1 q2 q3; omega, .inl rfl⟩
def addL (L : List (List Int)) (s : service) (n : Int) : List (List Int) := match L[s.trip_.toNat]? with
 | some r => L.set s.trip_.toNat (addRow r s.from_.toNat s.to_.toNat n)
 | none => L
def numB (cap : Int) (L : List (List Int)) (s : service) (left : Int) : Int := match L[s.trip_.toNat]? with
 | some r => nOf r s.from_.toNat cap left (s.to_.toNat - s.from_.toNat)
 | none => 0
def SOK (t : Timetable) (f : Flow) (s : service) : Prop := ∃ (i : Nat) (x : Trip) (l : Line), t.Trips[i]? = some x ∧ idx t.Network.Lines x.Line = some l ∧ s.trip_ = (i : Int) ∧ 0 ≤ s.from_ ∧ s.from_ < s.to_ ∧ s.to_ ≤ (l.Runs.length : Int) ∧ (0 ≤ s.arrive_ ∧ s.arrive_ ≤ 2099) ∧ zq76 t (i : Int) s.to_ = some s.arrive_ ∧ zq62 t (i : Int) f = some (s.from_, s.to_)
theorem svL_ok {t : Timetable} (hT : GoodT t) {f : Flow} {s : service} (h : s ∈ svL t f) : SOK t f s := by
 obtain ⟨i, x, _, hx, hs⟩ := svs_mem ((Pdq.isort_perm (lt := sLt) _).mem_iff.1 h)
 obtain ⟨l, hl, h1, h2, h3, h4, h5, h6⟩ := svO_some hT hx hs
 have hp := places_eq hT f hx
 rw [hs] at hp
 exact ⟨i, x, l, hx, hl, h1, h2, h3, h4, h5, h6, hp⟩
theorem svL_len {t : Timetable} (hT : GoodT t) (f : Flow) : (svL t f).length ≤ 12 := by
 have := svs_le t f t.Trips.length
 have := hT.2.1
 unfold svL
 rw [Pdq.isort_len]; omega
def LOK (t : Timetable) (cap : Int) (L : List (List Int)) : Prop := L.length = t.Trips.length ∧ ∀ (i : Nat) x l, t.Trips[i]? = some x → idx t.Network.Lines x.Line = some l → ∃ r, L[i]? = some r ∧ r.length = l.Runs.length ∧ ∀ v ∈ r, 0 ≤ v ∧ v ≤ cap
theorem sv_view {t : Timetable} (hT : GoodT t) {f : Flow} {cap : Int} {L : List (List Int)} {s : service} (h : SOK t f s) (hL : LOK t cap L) : ∃ (i a k : Nat) (x : Trip) (r : List Int), s.trip_ = (i : Int) ∧ s.from_ = (a : Int) ∧ s.to_ = (a : Int) + (k : Int) ∧ 0 < k ∧ t.Trips[i]? = some x ∧ L[i]? = some r ∧ a + k ≤ r.length ∧ r.length ≤ 5 ∧ (∀ v ∈ r, 0 ≤ v ∧ v ≤ cap) ∧ (∀ n, addL L s n = L.set i (addRow r a (a + k) n)) ∧ ∀ left, numB cap L s left = nOf r a cap left k := by
 obtain ⟨i, x, l, hx, hl, h1, h2, h3, h4, h5, h6, h7⟩ := h
 obtain ⟨r, hr, hrl, hrv⟩ := hL.2 i x l hx hl
 obtain ⟨l', hl', hp, _⟩ := trip_line hT hx
 rw [hl] at hl'; cases hl'
 obtain ⟨⟨r1, r2, r3⟩, _⟩ := line_runs hp
 have e1 : s.trip_.toNat = i := by omega
 have e2 : s.to_.toNat = s.from_.toNat + (s.to_.toNat - s.from_.toNat) := by omega
 refine ⟨i, s.from_.toNat, s.to_.toNat - s.from_.toNat, x, r, h1, by omega, by omega, by omega, hx, hr, by omega, by omega, hrv, fun n => ?_, fun left => ?_⟩
 ·unfold addL
  rw [e1, hr, ← e2]
 ·unfold numB
  rw [e1, hr]
theorem nOf_rng {r : List Int} {a k : Nat} {cap left : Int} (hv : ∀ v ∈ r, 0 ≤ v ∧ v ≤ cap) (hl : 0 ≤ left) : 0 ≤ nOf r a cap left k ∧ nOf r a cap left k ≤ left := by
 obtain ⟨h1, h2, h3⟩ := isN_nOf r a cap left k
 refine ⟨?_, h1⟩
 rcases h3 with h3 | ⟨p, v, q1, q2, q3, q4⟩
 ·omega
 ·have := hv v (List.mem_of_getElem? q3); omega
theorem addL_ok {t : Timetable} (hT : GoodT t) {f : Flow} {cap : Int} {L : List (List Int)} {s : service} {left : Int} (h : SOK t f s) (hL : LOK t cap L) (hl : 0 ≤ left) : (0 ≤ numB cap L s left ∧ numB cap L s left ≤ left) ∧ LOK t cap (addL L s (numB cap L s left)) := by
 obtain ⟨i, a, k, x, r, e1, e2, e3, hk, hx, hr, hle, hr5, hrv, hadd, hnum⟩ := sv_view hT h hL
 rw [hadd, hnum]
 have hn := nOf_rng (a := a) (k := k) hrv hl
 obtain ⟨h1, h2, h3⟩ := isN_nOf r a cap left k
 refine ⟨hn, by rw [List.length_set]; exact hL.1, fun j y l hy hl' => ?_⟩
 by_cases e : j = i
 ·subst e
  refine ⟨_, List.getElem?_set_self (get_lt hr), ?_, fun v hv => ?_⟩
  ·obtain ⟨r', hr', hrl', _⟩ := hL.2 j y l hy hl'
   rw [hr] at hr'; cases hr'
   rw [addRow_len]; exact hrl'
  ·obtain ⟨p, hp⟩ := List.getElem?_of_mem hv
   rw [addRow_at] at hp
   obtain ⟨w, hw, hw2⟩ := Option.map_eq_some_iff.1 hp
   have hwb := hrv w (List.mem_of_getElem? hw)
   by_cases hpp : a ≤ p ∧ p < a + k
   ·rw [if_pos hpp] at hw2
    have := h2 p w hpp.1 hpp.2 hw
    omega
   ·rw [if_neg hpp] at hw2
    omega
 ·rw [List.getElem?_set_ne (fun h => e h.symm)]
  exact hL.2 j y l hy hl'
theorem iAdd_ok {cap way M n : Int} {s : service} {L : List (List Int)} {i a k : Nat} {r : List Int} (e1 : s.trip_ = (i : Int)) (e2 : s.from_ = (a : Int)) (e3 : s.to_ = (a : Int) + (k : Int)) (hr : L[i]? = some r) (hk : a + k ≤ r.length) (hr5 : r.length ≤ 5) (hc : cap ≤ 1000) (hrv : ∀ v ∈ r, 0 ≤ v ∧ v ≤ cap) (hn : (if (w64 (cap - M)) < way then (w64 (cap - M)) else way) = n) (hnb : 0 ≤ n ∧ n ≤ 1000) : iter (zq15_L2 cap way s M) ((0 : Int), L) = some (L.set i (addRow r a (a + k) n)) := by
 refine Tot.val (Tot.iter (fun m st => ∃ j : Nat, st.1 = (j : Int) ∧ m + j = k ∧ st.2 = L.set i (addRow r a (a + j) n)) (n := k) ⟨0, rfl, rfl, ?_⟩ ?_)
 ·show L = L.set i (addRow r a a n)
  rw [addRow_none]
  refine List.ext_getElem? fun p => ?_
  by_cases e : p = i
  ·subst e; rw [List.getElem?_set_self (get_lt hr), hr]
  ·rw [List.getElem?_set_ne (fun h => e h.symm)]
 ·rintro m ⟨v, X⟩ ⟨j, hj, hm, hX⟩
  simp only at hj hX
  subst hj
  unfold zq15_L2
  dsimp only
  rw [e1, e2, e3, hn]
  refine .iteP (fun h => ?_) (fun h => .dn (by rw [hX, show j = k by omega]))
  have hjk : j < k := by omega
  obtain ⟨w, hw⟩ := get_ex (l := r) (i := a + j) (by omega)
  have hwb := hrv w (List.mem_of_getElem? hw)
  have hXi : X[i]? = some (addRow r a (a + j) n) := by rw [hX]; exact List.getElem?_set_self (get_lt hr)
  have hcur := addRow_cur (n := n) hw
  have ei : idx (addRow r a (a + j) n) ((a : Int) + (j : Int)) = some w := by
   rw [show ((a : Int) + (j : Int)) = ((a + j : Nat) : Int) by omega]; exact ixs hcur
  refine .eq (ixs hXi) (.chk (by omega) (.eq ei (.chk (by omega) (.eq ei (.nx ⟨m - 1, by omega, j + 1, w64_succ (by omega), by omega, ?_⟩)))))
  show X.set ((i : Int).toNat) ((addRow r a (a + j) n).set ((a : Int).toNat + (j : Int).toNat) (w64 (w + n))) = _
  rw [show ((i : Int).toNat) = i by omega, show (a : Int).toNat + (j : Int).toNat = a + j by omega, w64_id (by omega), addRow_succ hw, hX, List.set_set]
  rfl
theorem sN_ok {cap left : Int} {L : List (List Int)} {i a k : Nat} {q : Int × Int} {r : List Int} (e2 : q.2 = (a : Int) + (k : Int)) (hr : L[i]? = some r) (hk : a + k ≤ r.length) (hr5 : r.length ≤ 5) (hc : cap ≤ 1000) (hrv : ∀ v ∈ r, 0 ≤ v ∧ v ≤ cap) : iter (zq58_L2 cap L (i : Int) q) (left, (a : Int)) = some (nOf r a cap left k) := by
 refine Tot.val (Tot.iter (fun m st => ∃ j : Nat, st.2 = (a : Int) + (j : Int) ∧ m + j = k ∧ st.1 = nOf r a cap left j) (n := k) ⟨0, by simp, rfl, rfl⟩ ?_)
 rintro m ⟨X, v⟩ ⟨j, hj, hm, hX⟩
 simp only at hj hX
 subst hj; subst hX
 unfold zq58_L2
 dsimp only
 rw [e2]
 refine .iteP (fun h => ?_) (fun h => .dn (by rw [show j = k by omega]))
 obtain ⟨w, hw⟩ := get_ex (l := r) (i := a + j) (by omega)
 have hwb := hrv w (List.mem_of_getElem? hw)
 have ei : idx r ((a : Int) + (j : Int)) = some w := by
  rw [show ((a : Int) + (j : Int)) = ((a + j : Nat) : Int) by omega]; exact ixs hw
 refine .eq (ixs hr) (.eq ei ?_)
 have ew : w64 (cap - w) = cap - w := w64_id (by omega)
 rw [ew]
 refine .call (P := fun z => z = nOf r a cap left (j + 1)) ?_ fun z hz => .nx ⟨m - 1, by omega, j + 1, ?_, by omega, hz⟩
 ·unfold zq53
  have e : nOf r a cap left (j + 1) = if cap - w < nOf r a cap left j then cap - w else nOf r a cap left j := by
   rw [nOf, hw]
  rw [e]
  refine .iteP (fun h => .ok ?_) (fun h => .ok ?_)
  ·split <;> omega
  ·split <;> omega
 ·show w64 ((a : Int) + (j : Int) + 1) = _
  rw [w64_id (by omega)]; omega
theorem sAdd_ok {cap n : Int} {L : List (List Int)} {i a k : Nat} {q : Int × Int} {r : List Int} (e2 : q.2 = (a : Int) + (k : Int)) (hr : L[i]? = some r) (hk : a + k ≤ r.length) (hr5 : r.length ≤ 5) (hc : cap ≤ 1000) (hrv : ∀ v ∈ r, 0 ≤ v ∧ v ≤ cap) (hnb : 0 ≤ n ∧ n ≤ 1000) : iter (zq58_L3 (i : Int) q n) ((a : Int), L) = some (L.set i (addRow r a (a + k) n)) := by
 refine Tot.val (Tot.iter (fun m st => ∃ j : Nat, st.1 = (a : Int) + (j : Int) ∧ m + j = k ∧ st.2 = L.set i (addRow r a (a + j) n)) (n := k) ⟨0, by simp, rfl, ?_⟩ ?_)
 ·show L = L.set i (addRow r a a n)
  rw [addRow_none]
  refine List.ext_getElem? fun p => ?_
  by_cases e : p = i
  ·subst e; rw [List.getElem?_set_self (get_lt hr), hr]
  ·rw [List.getElem?_set_ne (fun h => e h.symm)]
 ·rintro m ⟨v, X⟩ ⟨j, hj, hm, hX⟩
  simp only at hj hX
  subst hj
  unfold zq58_L3
  dsimp only
  rw [e2]
  refine .iteP (fun h => ?_) (fun h => .dn (by rw [hX, show j = k by omega]))
  obtain ⟨w, hw⟩ := get_ex (l := r) (i := a + j) (by omega)
  have hwb := hrv w (List.mem_of_getElem? hw)
  have hXi : X[i]? = some (addRow r a (a + j) n) := by rw [hX]; exact List.getElem?_set_self (get_lt hr)
  have hcur := addRow_cur (n := n) hw
  have ei : idx (addRow r a (a + j) n) ((a : Int) + (j : Int)) = some w := by
   rw [show ((a : Int) + (j : Int)) = ((a + j : Nat) : Int) by omega]; exact ixs hcur
  refine .eq (ixs hXi) (.eq (ixs hXi) (.eq ei (.eq ei (.nx ⟨m - 1, by omega, j + 1, ?_, by omega, ?_⟩))))
  ·show w64 ((a : Int) + (j : Int) + 1) = _
   rw [w64_id (by omega)]; omega
  ·show X.set ((i : Int).toNat) ((addRow r a (a + j) n).set ((a : Int) + (j : Int)).toNat (w64 (w + n))) = _
   rw [show ((i : Int).toNat) = i by omega, show ((a : Int) + (j : Int)).toNat = a + j by omega, w64_id (by omega), addRow_succ hw, hX, List.set_set]
   rfl
def runS (cap : Int) : List service → Int → List (List Int) → Int × List (List Int) × List (service × Int)
 | [], left, L => (left, L, [])
 | s :: ss, left, L => ((runS cap ss (left - numB cap L s left) (addL L s (numB cap L s left))).1, (runS cap ss (left - numB cap L s left) (addL L s (numB cap L s left))).2.1, (if numB cap L s left = 0 then [] else [(s, numB cap L s left)]) ++ (runS cap ss (left - numB cap L s left) (addL L s (numB cap L s left))).2.2)
theorem runS_cons (cap : Int) (s : service) (ss : List service) (left : Int) (L : List (List Int)) : runS cap (s :: ss) left L = ((runS cap ss (left - numB cap L s left) (addL L s (numB cap L s left))).1, (runS cap ss (left - numB cap L s left) (addL L s (numB cap L s left))).2.1, (if numB cap L s left = 0 then [] else [(s, numB cap L s left)]) ++ (runS cap ss (left - numB cap L s left) (addL L s (numB cap L s left))).2.2) := rfl
theorem runS_ok {t : Timetable} (hT : GoodT t) {f : Flow} {cap : Int} : ∀ (ss : List service) (left : Int) (L : List (List Int)), (∀ s ∈ ss, SOK t f s) → LOK t cap L → 0 ≤ left → LOK t cap (runS cap ss left L).2.1 ∧ (0 ≤ (runS cap ss left L).1 ∧ (runS cap ss left L).1 ≤ left) ∧ (runS cap ss left L).1 + ((runS cap ss left L).2.2.map (·.2)).sum = left ∧ (runS cap ss left L).2.2.length ≤ ss.length ∧ ∀ p ∈ (runS cap ss left L).2.2, p.1 ∈ ss ∧ 0 ≤ p.2 ∧ p.2 ≤ left
 | [], left, L, _, hL, h0 => by
  refine ⟨hL, ⟨h0, Int.le_refl _⟩, ?_, Nat.le_refl _, fun p hp => by cases hp⟩
  show left + (0 : Int) = left
  omega
 | s :: ss, left, L, hs, hL, h0 => by
  obtain ⟨⟨hn1, hn2⟩, hL'⟩ := addL_ok hT (hs s (List.mem_cons_self ..)) hL h0
  unfold runS
  generalize numB cap L s left = n at hn1 hn2 hL'
  obtain ⟨i1, i2, i3, i4, i5⟩ := runS_ok hT ss (left - n) (addL L s n) (fun z hz => hs z (List.mem_cons_of_mem _ hz)) hL' (by omega)
  generalize runS cap ss (left - n) (addL L s n) = R at i1 i2 i3 i4 i5
  dsimp only
  refine ⟨i1, ⟨i2.1, by omega⟩, ?_, ?_, fun p hp => ?_⟩
  ·by_cases e : n = 0
   ·rw [if_pos e, List.nil_append]; omega
   ·rw [if_neg e, List.map_append, List.sum_append]
    simp only [List.map_cons, List.map_nil, List.sum_cons, List.sum_nil]; omega
  ·by_cases e : n = 0
   ·rw [if_pos e, List.nil_append, List.length_cons]; omega
   ·rw [if_neg e, List.length_append, List.length_cons, List.length_cons, List.length_nil]; omega
  ·rcases List.mem_append.1 hp with hp | hp
   ·by_cases e : n = 0
    ·rw [if_pos e] at hp; cases hp
    ·rw [if_neg e] at hp
     rcases List.mem_cons.1 hp with rfl | hp
     ·exact ⟨List.mem_cons_self .., hn1, hn2⟩
     ·cases hp
   ·obtain ⟨q1, q2, q3⟩ := i5 p hp
    exact ⟨List.mem_cons_of_mem _ q1, q2, by omega⟩
theorem drop_at {α : Type} {l : List α} {k : Nat} {x : α} (h : l[k]? = some x) : l.drop k = x :: l.drop (k + 1) := by
 rw [List.drop_eq_getElem_cons (get_lt h)]
 congr 1
 exact (List.getElem?_eq_some_iff.1 h).2
theorem set_same {α : Type} {l : List α} {i : Nat} {x : α} (h : l[i]? = some x) : l.set i x = l := by
 refine List.ext_getElem? fun p => ?_
 by_cases e : p = i
 ·subst e; rw [List.getElem?_set_self (get_lt h), h]
 ·rw [List.getElem?_set_ne (fun h => e h.symm)]
theorem addL_zero {t : Timetable} (hT : GoodT t) {f : Flow} {cap : Int} {L : List (List Int)} {s : service} (h : SOK t f s) (hL : LOK t cap L) : addL L s 0 = L := by
 obtain ⟨i, a, k, x, r, e1, e2, e3, hk, hx, hr, hle, hr5, hrv, hadd, hnum⟩ := sv_view hT h hL
 rw [hadd, addRow_zero, set_same hr]
theorem iFlow_ok {t : Timetable} (hT : GoodT t) {f : Flow} {cap : Int} (hc : 0 ≤ cap ∧ cap ≤ 1000) {ss : List service} (hss : ∀ s ∈ ss, SOK t f s) (hlen : ss.length ≤ 12) (q : Int) {acc : List boarding} (hacc : acc.length ≤ 1000) {L : List (List Int)} (hL : LOK t cap L) {left : Int} (hl : 0 ≤ left ∧ left ≤ 500) : iter (zq15_L3 cap q ss) (left, (0 : Int), acc, L) = some ((runS cap ss left L).1, acc ++ (runS cap ss left L).2.2.map (fun p => ⟨q, p.1, p.2⟩), (runS cap ss left L).2.1) := by
 refine Tot.val (Tot.iter (fun m st => ∃ k : Nat, st.2.1 = (k : Int) ∧ m + k = ss.length ∧ (0 ≤ st.1 ∧ st.1 ≤ 500) ∧ LOK t cap st.2.2.2 ∧ st.2.2.1.length ≤ 1000 + k ∧ (runS cap (ss.drop k) st.1 st.2.2.2).1 = (runS cap ss left L).1 ∧ (runS cap (ss.drop k) st.1 st.2.2.2).2.1 = (runS cap ss left L).2.1 ∧ st.2.2.1 ++ (runS cap (ss.drop k) st.1 st.2.2.2).2.2.map (fun p => (⟨q, p.1, p.2⟩ : boarding)) = acc ++ (runS cap ss left L).2.2.map (fun p => ⟨q, p.1, p.2⟩)) (n := ss.length) ⟨0, rfl, rfl, hl, hL, by omega, rfl, rfl, rfl⟩ ?_)
 rintro m ⟨way, v, bl, X⟩ ⟨k, hk, hm, hw, hX, hb, g1, g2, g3⟩
 simp only at hk hw hX hb g1 g2 g3
 subst hk
 unfold zq15_L3
 refine .iteP (fun h => ?_) (fun h => .dn ?_)
 ·obtain ⟨s, hs⟩ := get_ex (l := ss) (i := k) (by omega)
  have hso := hss s (List.mem_of_getElem? hs)
  have hz := addL_zero hT hso hX
  have haok := addL_ok hT hso hX hw.1
  obtain ⟨i, a, j, x, r, e1, e2, e3, hj, hx, hr, hle, hr5, hrv, hadd, hnum⟩ := sv_view hT hso hX
  rw [drop_at hs, runS_cons] at g1 g2 g3
  dsimp only at g1 g2 g3
  rw [hnum] at g1 g2 g3 haok
  obtain ⟨⟨hn1, hn2⟩, hL'⟩ := haok
  have hMax := iN_ok (r := r) (a := a) (k := j) (cap := cap) (left := way) hj hle (by omega) hc hrv
  generalize nOf r a cap way j = n at g1 g2 g3 hn1 hn2 hL' hMax
  refine .call (P := fun st => (0 ≤ st.1 ∧ st.1 ≤ 500) ∧ LOK t cap st.2.2 ∧ st.2.1.length ≤ 1000 + (k + 1) ∧ st.1 = way - n ∧ st.2.2 = addL X s n ∧ st.2.1 = bl ++ ((if n = 0 then [] else [(s, n)] : List (service × Int)).map fun p => (⟨q, p.1, p.2⟩ : boarding))) ?_ fun st hst => .nx ⟨m - 1, by omega, k + 1, w64_succ (by omega), by omega, hst.1, hst.2.1, hst.2.2.1, ?_, ?_, ?_⟩
  ·have hi : idx X s.trip_ = some r := by rw [e1]; exact ixs hr
   have hcond : (0 : Int) ≤ s.from_ ∧ s.from_ ≤ s.to_ ∧ s.to_ ≤ (r.length : Int) := by omega
   have ea : s.from_.toNat = a := by omega
   have ek : (s.to_ - s.from_).toNat = j := by omega
   refine .eq (ixs hs) (.eq hi (.chk hcond (.chk hcond ?_)))
   rw [ea, ek]
   refine .call hMax fun M hM => ?_
   rw [hM]
   refine .ite (fun h0 => .ok ?_) (fun h0 => ?_)
   ·have h0 : n = 0 := by simpa using h0
    subst h0
    exact ⟨hw, hX, by dsimp only; omega, by dsimp only; omega, hz.symm, by simp⟩
   ·have h0 : n ≠ 0 := by simpa using h0
    have hi2 := iAdd_ok (L := X) (way := way) e1 e2 e3 hr hle hr5 hc.2 hrv hM (by omega)
    refine .eq hi2 (.chk (by simp; omega) (.ok ⟨?_, ?_, ?_, ?_, ?_, ?_⟩))
    ·show 0 ≤ w64 (way - n) ∧ w64 (way - n) ≤ 500
     rw [w64_id (by omega)]; omega
    ·show LOK t cap (X.set i (addRow r a (a + j) n))
     rw [← hadd]; exact hL'
    ·show (bl ++ _).length ≤ _
     rw [List.length_append, List.length_cons, List.length_nil]; omega
    ·exact w64_id (by omega)
    ·exact (hadd n).symm
    ·rw [if_neg h0]; rfl
  ·rw [hst.2.2.2.1, hst.2.2.2.2.1]; exact g1
  ·rw [hst.2.2.2.1, hst.2.2.2.2.1]; exact g2
  ·rw [hst.2.2.2.1, hst.2.2.2.2.1, hst.2.2.2.2.2, List.append_assoc, ← List.map_append]; exact g3
 ·have hd : ss.drop k = [] := List.drop_eq_nil_of_le (by omega)
  rw [hd] at g1 g2 g3
  rw [← g1, ← g2, ← g3]
  show (way, bl, X) = (way, bl ++ [], X)
  rw [List.append_nil]
theorem sFlow_ok {t : Timetable} (hT : GoodT t) {f : Flow} (hf : FlowOK t f) {cap : Int} (hc : 0 ≤ cap ∧ cap ≤ 1000) {ss : List service} (hss : ∀ s ∈ ss, SOK t f s) (hlen : ss.length ≤ 12) {L : List (List Int)} (hL : LOK t cap L) {left : Int} (hl : 0 ≤ left ∧ left ≤ 500) (mi pe : Int) {on off : List Int} (hon : on.length = t.Network.Stops.length) (hoff : off.length = t.Network.Stops.length) : Tot (iter (zq58_L4 t cap f (ss.map (·.trip_))) (left, (0 : Int), mi, pe, L, on, off)) fun r => r.1 = (runS cap ss left L).1 ∧ r.2.2.2.1 = (runS cap ss left L).2.1 ∧ r.2.2.2.2.1.length = t.Network.Stops.length ∧ r.2.2.2.2.2.length = t.Network.Stops.length := by
 refine Tot.iter (fun m st => ∃ k : Nat, st.2.1 = (k : Int) ∧ m + k = ss.length ∧ (0 ≤ st.1 ∧ st.1 ≤ 500) ∧ LOK t cap st.2.2.2.2.1 ∧ st.2.2.2.2.2.1.length = t.Network.Stops.length ∧ st.2.2.2.2.2.2.length = t.Network.Stops.length ∧ (runS cap (ss.drop k) st.1 st.2.2.2.2.1).1 = (runS cap ss left L).1 ∧ (runS cap (ss.drop k) st.1 st.2.2.2.2.1).2.1 = (runS cap ss left L).2.1) (n := ss.length) ⟨0, rfl, rfl, hl, hL, hon, hoff, rfl, rfl⟩ ?_
 rintro m ⟨way, v, mi, pe, X, on, off⟩ ⟨k, hk, hm, hw, hX, hon, hoff, g1, g2⟩
 simp only at hk hw hX hon hoff g1 g2
 subst hk
 have hml : (ss.map (·.trip_)).length = ss.length := List.length_map ..
 unfold zq58_L4
 refine .iteP (fun h => ?_) (fun h => .dn ?_)
 ·obtain ⟨s, hs⟩ := get_ex (l := ss) (i := k) (by omega)
  have hso := hss s (List.mem_of_getElem? hs)
  have haok := addL_ok hT hso hX hw.1
  obtain ⟨i, a, j, x, r, e1, e2, e3, hj, hx, hr, hle, hr5, hrv, hadd, hnum⟩ := sv_view hT hso hX
  obtain ⟨i', x', l', hx', hl', z1, z2, z3, z4, z5, z6, z7⟩ := hso
  have ei : (i' : Int) = (i : Int) := by omega
  rw [ei] at z6 z7
  rw [drop_at hs, runS_cons] at g1 g2
  dsimp only at g1 g2
  rw [hnum] at g1 g2 haok
  obtain ⟨⟨hn1, hn2⟩, hL'⟩ := haok
  have hts : (ss.map (·.trip_))[k]? = some (i : Int) := by rw [List.getElem?_map, hs, Option.map_some, e1]
  have hN := sN_ok (left := way) (q := (s.from_, s.to_)) e3 hr hle hr5 hc.2 hrv
  have hA := sAdd_ok (n := nOf r a cap way j) (q := (s.from_, s.to_)) e3 hr hle hr5 hc.2 hrv (by omega)
  obtain ⟨f1, f2, _⟩ := hf
  obtain ⟨o1, ho1⟩ := get_ex (l := on) (i := f.From.toNat) (by omega)
  obtain ⟨o2, ho2⟩ := get_ex (l := off) (i := f.To.toNat) (by omega)
  have hi1 := idx_of f1.1 ho1
  have hi2 := idx_of f2.1 ho2
  refine .eq (ixs hts) (.eq z7 ?_)
  dsimp only
  rw [e2]
  refine .eq hN (.eq (by rw [← e2] at hA ⊢; exact hA) (.eq z6 (.eq hi1 (.eq hi1 (.eq hi2 (.eq hi2 (.nx ⟨m - 1, by omega, k + 1, w64_succ (by omega), by omega, ?_, ?_, ?_, ?_, ?_, ?_⟩)))))))
  ·show 0 ≤ w64 (way - _) ∧ w64 (way - _) ≤ 500
   rw [w64_id (by omega)]; omega
  ·show LOK t cap (X.set i (addRow r a (a + j) _))
   rw [← hadd]; exact hL'
  ·show (on.set _ _).length = _
   rw [List.length_set]; exact hon
  ·show (off.set _ _).length = _
   rw [List.length_set]; exact hoff
  ·show (runS cap (ss.drop (k + 1)) (w64 (way - nOf r a cap way j)) (X.set i (addRow r a (a + j) _))).1 = _
   rw [w64_id (by omega), ← hadd]; exact g1
  ·show (runS cap (ss.drop (k + 1)) (w64 (way - nOf r a cap way j)) (X.set i (addRow r a (a + j) _))).2.1 = _
   rw [w64_id (by omega), ← hadd]; exact g2
 ·have hd : ss.drop k = [] := List.drop_eq_nil_of_le (by omega)
  rw [hd] at g1 g2
  exact ⟨g1, g2, hon, hoff⟩
def row0 (t : Timetable) (x : Trip) : List Int := match idx t.Network.Lines x.Line with
 | some l => List.replicate l.Runs.length 0
 | none => []
def L0 (t : Timetable) : List (List Int) := t.Trips.map (row0 t)
theorem L0_ok {t : Timetable} {cap : Int} (hc : 0 ≤ cap) : LOK t cap (L0 t) := by
 refine ⟨List.length_map .., fun i x l hx hl => ⟨row0 t x, by unfold L0; rw [List.getElem?_map, hx]; rfl, ?_, fun v hv => ?_⟩⟩
 ·unfold row0; rw [hl]; exact List.length_replicate ..
 ·unfold row0 at hv; rw [hl] at hv
  have := (List.mem_replicate.1 hv).2
  omega
theorem iL0_ok {t : Timetable} (hT : GoodT t) : iter (zq15_L1 t) ((0 : Int), List.replicate (t.Trips.length : Int).toNat ([] : List Int)) = some (L0 t) := by
 have h12 := hT.2.1
 have hlen : (L0 t).length = t.Trips.length := List.length_map ..
 refine Tot.val (Tot.iter (fun m st => ∃ k : Nat, st.1 = (k : Int) ∧ m + k = t.Trips.length ∧ st.2 = (L0 t).take k ++ List.replicate (t.Trips.length - k) []) (n := t.Trips.length) ⟨0, rfl, rfl, by simp⟩ ?_)
 rintro m ⟨v, X⟩ ⟨k, hk, hm, hX⟩
 simp only at hk hX
 subst hk
 unfold zq15_L1
 refine .iteP (fun h => ?_) (fun h => .dn ?_)
 ·obtain ⟨x, hx⟩ := get_ex (l := t.Trips) (i := k) (by omega)
  obtain ⟨l, hl, hp, _⟩ := trip_line hT hx
  obtain ⟨⟨r1, r2, r3⟩, _⟩ := line_runs hp
  have hXl : X.length = t.Trips.length := by rw [hX, List.length_append, List.length_take, List.length_replicate]; omega
  obtain ⟨y, hy⟩ := get_ex (l := X) (i := k) (by omega)
  have hrow : (L0 t)[k]? = some (List.replicate l.Runs.length 0) := by unfold L0; rw [List.getElem?_map, hx]; unfold row0; simp only [Option.map_some, hl]
  refine .eq (ixs hx) (.eq (lineOf_eq hl) (.chk (by omega) (.eq (ixs hy) (.nx ⟨m - 1, by omega, k + 1, w64_succ (by omega), by omega, ?_⟩))))
  show X.set ((k : Int).toNat) (List.replicate ((l.Runs.length : Int).toNat) 0) = _
  rw [show ((k : Int).toNat) = k by omega, show ((l.Runs.length : Int).toNat) = l.Runs.length by omega, hX, take_succ hrow]
  have el : ((L0 t).take k).length = k := by rw [List.length_take]; omega
  rw [List.set_append_right _ _ (by omega), el, Nat.sub_self, show t.Trips.length - k = (t.Trips.length - (k + 1)) + 1 by omega, List.replicate_succ, List.set_cons_zero, List.append_assoc]
  rfl
 ·rw [hX, show t.Trips.length - k = 0 by omega, List.take_of_length_le (by omega)]; simp
theorem sL0_ok {t : Timetable} (hT : GoodT t) : iter (zq58_L1 t) ((0 : Int), ([] : List (List Int))) = some (L0 t) := by
 have h12 := hT.2.1
 have hlen : (L0 t).length = t.Trips.length := List.length_map ..
 refine Tot.val (Tot.iter (fun m st => ∃ k : Nat, st.1 = (k : Int) ∧ m + k = t.Trips.length ∧ st.2 = (L0 t).take k) (n := t.Trips.length) ⟨0, rfl, rfl, by simp⟩ ?_)
 rintro m ⟨v, X⟩ ⟨k, hk, hm, hX⟩
 simp only at hk hX
 subst hk
 unfold zq58_L1
 refine .iteP (fun h => ?_) (fun h => .dn ?_)
 ·obtain ⟨x, hx⟩ := get_ex (l := t.Trips) (i := k) (by omega)
  obtain ⟨l, hl, hp, _⟩ := trip_line hT hx
  obtain ⟨⟨r1, r2, r3⟩, _⟩ := line_runs hp
  have hXl : X.length = k := by rw [hX, List.length_take]; omega
  have ew : w64 ((l.Stops.length : Int) - 1) = (l.Runs.length : Int) := by rw [w64_id (by omega)]; omega
  have hrow : (L0 t)[k]? = some (List.replicate l.Runs.length 0) := by unfold L0; rw [List.getElem?_map, hx]; unfold row0; simp only [Option.map_some, hl]
  refine .eq (l5Stops_eq hx hl) ?_
  rw [ew]
  refine .chk (by omega) (.chk (by simp; omega) (.nx ⟨m - 1, by omega, k + 1, w64_succ (by omega), by omega, ?_⟩))
  show X ++ [List.replicate ((l.Runs.length : Int).toNat) 0] = _
  rw [show ((l.Runs.length : Int).toNat) = l.Runs.length by omega, hX, take_succ hrow]
 ·rw [hX, List.take_of_length_le (by omega)]
def runF (t : Timetable) (cap : Int) : List Flow → Int → List (List Int) → List boarding × List (List Int) × List Int
 | [], _, L => ([], L, [])
 | f :: fs, q, L => ((runS cap (svL t f) f.Persons L).2.2.map (fun p => (⟨q, p.1, p.2⟩ : boarding)) ++ (runF t cap fs (q + 1) (runS cap (svL t f) f.Persons L).2.1).1, (runF t cap fs (q + 1) (runS cap (svL t f) f.Persons L).2.1).2.1, (runS cap (svL t f) f.Persons L).1 :: (runF t cap fs (q + 1) (runS cap (svL t f) f.Persons L).2.1).2.2)
theorem runF_cons (t : Timetable) (cap : Int) (f : Flow) (fs : List Flow) (q : Int) (L : List (List Int)) : runF t cap (f :: fs) q L = ((runS cap (svL t f) f.Persons L).2.2.map (fun p => (⟨q, p.1, p.2⟩ : boarding)) ++ (runF t cap fs (q + 1) (runS cap (svL t f) f.Persons L).2.1).1, (runF t cap fs (q + 1) (runS cap (svL t f) f.Persons L).2.1).2.1, (runS cap (svL t f) f.Persons L).1 :: (runF t cap fs (q + 1) (runS cap (svL t f) f.Persons L).2.1).2.2) := rfl
theorem iBoard_ok {t : Timetable} (hT : GoodT t) {list : List Flow} (hF : FlowsOK t list) {cap : Int} (hc : 0 ≤ cap ∧ cap ≤ 1000) : zq15 t list cap = some ⟨(runF t cap list 0 (L0 t)).1, (runF t cap list 0 (L0 t)).2.1, (runF t cap list 0 (L0 t)).2.2⟩ := by
 have h12 := hT.2.1
 obtain ⟨hl12, hFl⟩ := hF
 unfold zq15
 refine Tot.val (.chk (by omega) (.chk (by omega) (.eq (iL0_ok hT) (.call (P := fun r => r = ((runF t cap list 0 (L0 t)).1, (runF t cap list 0 (L0 t)).2.1, (runF t cap list 0 (L0 t)).2.2)) ?_ fun r hr => by subst hr; exact .ok rfl))))
 refine Tot.iter (fun m st => ∃ (k : Nat) (dn : List Int), st.1 = (k : Int) ∧ m + k = list.length ∧ LOK t cap st.2.2.1 ∧ st.2.1.length ≤ 12 * k ∧ dn.length = k ∧ st.2.2.2 = dn ++ List.replicate (list.length - k) 0 ∧ st.2.1 ++ (runF t cap (list.drop k) (k : Int) st.2.2.1).1 = (runF t cap list 0 (L0 t)).1 ∧ (runF t cap (list.drop k) (k : Int) st.2.2.1).2.1 = (runF t cap list 0 (L0 t)).2.1 ∧ dn ++ (runF t cap (list.drop k) (k : Int) st.2.2.1).2.2 = (runF t cap list 0 (L0 t)).2.2) (n := list.length) ⟨0, [], rfl, rfl, L0_ok hc.1, by simp, rfl, by simp, rfl, rfl, rfl⟩ ?_
 rintro m ⟨v, bl, X, lf⟩ ⟨k, dn, hk, hm, hX, hb, hdn, hlf, g1, g2, g3⟩
 simp only at hk hX hb hlf g1 g2 g3
 subst hk
 unfold zq15_L4
 refine .iteP (fun h => ?_) (fun h => .dn ?_)
 ·obtain ⟨f, hf⟩ := get_ex (l := list) (i := k) (by omega)
  have hfo := hFl f (List.mem_of_getElem? hf)
  have hpers : 0 ≤ f.Persons ∧ f.Persons ≤ 500 := by obtain ⟨_, _, _, _, p1, p2⟩ := hfo; omega
  have hss : ∀ s ∈ svL t f, SOK t f s := fun s hs => svL_ok hT hs
  have hR := runS_ok hT (svL t f) f.Persons X hss hX hpers.1
  have hsl := svL_len hT f
  rw [drop_at hf, runF_cons] at g1 g2 g3
  dsimp only at g1 g2 g3
  have hI := iFlow_ok hT hc hss hsl (k : Int) (acc := bl) (by omega) hX hpers
  obtain ⟨y, hy⟩ := get_ex (l := lf) (i := k) (by rw [hlf, List.length_append, List.length_replicate]; omega)
  refine .eq (ixs hf) (.eq (servicesOf_eq hT f) (.eq hI ?_))
  dsimp only
  generalize runS cap (svL t f) f.Persons X = R at g1 g2 g3 hR ⊢
  refine .eq (ixs hy) (.nx ⟨m - 1, by omega, k + 1, dn ++ [R.1], w64_succ (by omega), by omega, hR.1, ?_, ?_, ?_, ?_, ?_, ?_⟩)
  ·show (bl ++ _).length ≤ _
   rw [List.length_append, List.length_map]; omega
  ·rw [List.length_append, List.length_cons, List.length_nil]; omega
  ·show lf.set ((k : Int).toNat) R.1 = _
   rw [show ((k : Int).toNat) = k by omega, hlf, List.set_append_right _ _ (by omega), hdn, Nat.sub_self, show list.length - k = (list.length - (k + 1)) + 1 by omega, List.replicate_succ, List.set_cons_zero, List.append_assoc]
   rfl
  ·rw [List.append_assoc]; exact g1
  ·exact g2
  ·rw [List.append_assoc]; exact g3
 ·have hd : list.drop k = [] := List.drop_eq_nil_of_le (by omega)
  rw [hd] at g1 g2 g3
  rw [← g1, ← g2, ← g3, hlf, show list.length - k = 0 by omega]
  show (bl, X, dn ++ []) = (bl ++ [], X, dn ++ [])
  rw [List.append_nil, List.append_nil]
theorem sBoard_ok {t : Timetable} (hT : GoodT t) {list : List Flow} (hF : FlowsOK t list) {cap : Int} (hc : 0 ≤ cap ∧ cap ≤ 1000) (hn : t.Network.Stops.length ≤ 1000) : Tot (zq58 t list cap) fun r => r.loads_ = (runF t cap list 0 (L0 t)).2.1 ∧ r.left_ = (runF t cap list 0 (L0 t)).2.2 := by
 have h12 := hT.2.1
 obtain ⟨hl12, hFl⟩ := hF
 unfold zq58
 refine .chk (by omega) (.chk (by omega) (.eq (sL0_ok hT) (.call (P := fun r => r.2.2.1 = (runF t cap list 0 (L0 t)).2.1 ∧ r.2.2.2.1 = (runF t cap list 0 (L0 t)).2.2) ?_ fun r hr => .ok hr)))
 refine Tot.iter (fun m st => ∃ k : Nat, st.1 = (k : Int) ∧ m + k = list.length ∧ LOK t cap st.2.2.2.1 ∧ st.2.2.2.2.1.length = k ∧ st.2.2.2.2.2.1.length = t.Network.Stops.length ∧ st.2.2.2.2.2.2.length = t.Network.Stops.length ∧ (runF t cap (list.drop k) (k : Int) st.2.2.2.1).2.1 = (runF t cap list 0 (L0 t)).2.1 ∧ st.2.2.2.2.1 ++ (runF t cap (list.drop k) (k : Int) st.2.2.2.1).2.2 = (runF t cap list 0 (L0 t)).2.2) (n := list.length) ⟨0, rfl, rfl, L0_ok hc.1, rfl, by simp, by simp, rfl, rfl⟩ ?_
 rintro m ⟨v, mi, pe, X, dn, on, off⟩ ⟨k, hk, hm, hX, hdn, hon, hoff, g2, g3⟩
 simp only at hk hX hdn hon hoff g2 g3
 subst hk
 unfold zq58_L5
 refine .iteP (fun h => ?_) (fun h => .dn ?_)
 ·obtain ⟨f, hf⟩ := get_ex (l := list) (i := k) (by omega)
  have hfo := hFl f (List.mem_of_getElem? hf)
  have hpers : 0 ≤ f.Persons ∧ f.Persons ≤ 500 := by obtain ⟨_, _, _, _, p1, p2⟩ := hfo; omega
  have hss : ∀ s ∈ svL t f, SOK t f s := fun s hs => svL_ok hT hs
  have hR := runS_ok hT (svL t f) f.Persons X hss hX hpers.1
  have hsl := svL_len hT f
  rw [drop_at hf, runF_cons] at g2 g3
  dsimp only at g2 g3
  refine .eq (ixs hf) (.eq (serving_eq hT f) (.call (sFlow_ok hT hfo hc hss hsl hX hpers mi pe hon hoff) ?_))
  rintro ⟨lf, mi', pe', X', on', off'⟩ ⟨a1, a2, a3, a4⟩
  dsimp only at a1 a2 a3 a4 ⊢
  generalize runS cap (svL t f) f.Persons X = R at g2 g3 hR a1 a2
  refine .chk (by rw [hdn]; simp; omega) (.nx ⟨m - 1, by omega, k + 1, w64_succ (by omega), by omega, ?_, ?_, a3, a4, ?_, ?_⟩)
  ·show LOK t cap X'
   rw [a2]; exact hR.1
  ·show (dn ++ [lf]).length = _
   rw [List.length_append, List.length_cons, List.length_nil]; omega
  ·show (runF t cap (list.drop (k + 1)) ((k + 1 : Nat) : Int) X').2.1 = _
   rw [a2]; exact g2
  ·show (dn ++ [lf]) ++ (runF t cap (list.drop (k + 1)) ((k + 1 : Nat) : Int) X').2.2 = _
   rw [a2, a1, List.append_assoc]; exact g3
 ·have hd : list.drop k = [] := List.drop_eq_nil_of_le (by omega)
  rw [hd] at g2 g3
  exact ⟨g2, by rw [← g3]; show dn = dn ++ []; rw [List.append_nil]⟩
theorem fleast_eq (a b : Int) : zq53 a b = some (if a < b then a else b) := by
 unfold zq53; by_cases h : a < b <;> simp [h]
theorem fmost_ok (a b : Int) : Tot (zq54 a b) fun _ => True := by
 unfold zq54
 exact .ite (fun _ => .ok trivial) (fun _ => .ok trivial)
theorem flow_ok {k : Nat} {c : l1Cur} {t : Timetable} (h : Cur k c) (hk : k ≤ 1000000) (hb : TB t) (h2 : 2 ≤ t.Network.Stops.length) (from_ : Int) : Tot (zq40 c t from_) fun r => Cur (k + 30) r.2 := by
 unfold zq40
 refine .call (t_pick _ h (by omega)) fun r ⟨hr, _⟩ => .call (t_among _ (by simp) hr (by omega)) fun r1 ⟨hr1, _⟩ => .call (fmost_ok _ _) fun r4 _ => .call (t_pick _ hr1 (by omega)) fun r5 ⟨hr5, _⟩ => .chk (by omega) ?_
 refine .call (P := fun o => Cur (k + 30) ⟨o.1, o.2.1, ⟨o.2.2.1⟩⟩) ?_ fun o ho => .ok ho
 refine .call (P := fun o => Cur (k + 8) ⟨o.2.1, o.2.2.1, ⟨o.2.2.2⟩⟩ ∧ (o.1 = true → 0 < t.Trips.length ∧ GoodT t)) ?_ fun ⟨b, x1, x2, x3⟩ ⟨hx, hg⟩ => ?_
 ·refine .iteP (fun h0 => .eq (goodT_eq hb) ?_) (fun _ => .ok ⟨hr5.mono (by omega), fun h => (by cases h)⟩)
  refine .iteP (fun hT => .call (t_one 5 hr5 (by omega)) fun r7 hr7 => .ok ⟨hr7.mono (by omega), fun _ => ⟨by omega, hT⟩⟩) (fun _ => .ok ⟨hr5.mono (by omega), fun h => (by cases h)⟩)
 ·dsimp only at hx hg ⊢
  refine .ite (fun hbt => ?_) (fun _ => .ok (hx.mono (by omega)))
  obtain ⟨h0, hT⟩ := hg hbt
  refine .call (t_pick _ hx (by omega)) fun r10 ⟨hr10, p1, p2⟩ => ?_
  obtain ⟨i, hi⟩ : ∃ i : Nat, r10.1 = (i : Int) := ⟨r10.1.toNat, by omega⟩
  obtain ⟨x, hxt⟩ := get_ex (l := t.Trips) (i := i) (by omega)
  obtain ⟨l, hl, hp, _⟩ := trip_line hT hxt
  obtain ⟨⟨q1, q2, q3⟩, _⟩ := line_runs hp
  rw [hi]
  refine .eq (l5Stops_eq hxt hl) ?_
  have ew : w64 ((l.Stops.length : Int) - 1) = (l.Stops.length : Int) - 1 := w64_id (by omega)
  rw [ew]
  refine .call (t_pick _ hr10 (by omega)) fun r12 ⟨hr12, a1, a2⟩ => ?_
  have ea : r12.1 < (l.Stops.length : Int) - 1 := by omega
  have ew2 : w64 ((l.Stops.length : Int) - 1 - r12.1) = (l.Stops.length : Int) - 1 - r12.1 := w64_id (by omega)
  rw [ew2]
  refine .idx a1 (by omega) fun e _ => .call (t_pick _ hr12 (by omega)) fun r13 ⟨hr13, b1, b2⟩ => ?_
  have ew3 : w64 (r12.1 + 1) = r12.1 + 1 := w64_id (by omega)
  have ew4 : w64 (r12.1 + 1 + r13.1) = r12.1 + 1 + r13.1 := w64_id (by omega)
  rw [ew3, ew4]
  exact .idx (by omega) (by omega) fun e1 _ => .ok (hr13.mono (by omega))
theorem flows_ok {k : Nat} {c : l1Cur} {t : Timetable} (h : Cur k c) (hk : k ≤ 100000) (hb : TB t) (h2 : 2 ≤ t.Network.Stops.length) : Tot (zq41 c t) fun r => Cur (k + 1000) r.2 ∧ r.1.length ≤ 20 := by
 unfold zq41
 refine .call (P := fun o => Cur (k + 2) ⟨o.2.1, o.2.2.1, ⟨o.2.2.2⟩⟩) ?_ fun ⟨k0, x1, x2, x3⟩ hx => ?_
 ·refine .iteP (fun h0 => .idx (by omega) h0 fun e1 _ => .call (t_pick 30 h (by omega)) fun r3 ⟨hr3, _⟩ => .call (fmost_ok _ _) fun r4 _ => .eq (fleast_eq _ _) (.ok hr3)) (fun _ => .ok (h.mono (by omega)))
 ·dsimp only at hx ⊢
  refine .call (t_pick 6 hx (by omega)) fun r6 ⟨hr6, p1, p2⟩ => ?_
  refine .call (P := fun o => Cur (k + 500) ⟨o.1, o.2.1, ⟨o.2.2.1⟩⟩ ∧ o.2.2.2.length ≤ 8) ?_ fun ⟨y1, y2, y3, n1⟩ ⟨hy, hn⟩ => ?_
  ·refine Tot.iter (fun m s => s.2.1 = (m : Int) ∧ m + s.2.2.2.2.2.length ≤ 8 ∧ m ≤ 6 ∧ Cur (k + 4 + 40 * (6 - m)) ⟨s.2.2.1, s.2.2.2.1, ⟨s.2.2.2.2.1⟩⟩) (n := r6.1.toNat) ⟨by simp; omega, by simp; omega, by omega, hr6.mono (by omega)⟩ ?_
   rintro m ⟨k1, x, v3, v4, v5, n⟩ ⟨hv, hl, hm6, hcur⟩
   simp only at hv hl hcur
   subst hv
   unfold zq41_L1
   refine .iteP (fun hc => ?_) (fun hc => .dn ⟨hcur.mono (by omega), by show n.length ≤ 8; omega⟩)
   refine .call (flow_ok hcur (by omega) hb h2 k1) fun r7 hr7 => .chk (by simp; omega) (.call (t_among _ (by simp) hr7 (by omega)) fun r8 ⟨hr8, _⟩ => .eq (fleast_eq _ _) (.nx ⟨m - 1, by omega, ?_, ?_, by omega, ?_⟩))
   ·show w64 ((m : Int) - 1) = _; rw [w64_id (by omega)]; omega
   ·show m - 1 + (n ++ [_]).length ≤ 8; simp; omega
   ·exact hr8.mono (by omega)
  ·dsimp only at hy hn ⊢
   refine .ite (fun _ => .ok ⟨hy.mono (by omega), by show n1.length ≤ 20; omega⟩) fun hne => ?_
   have hpos : 0 < n1.length := by
    have : (n1.length : Int) ≠ 0 := by simpa using hne
    omega
   refine .call (t_pick _ hy (by omega)) fun r10 ⟨hr10, a1, a2⟩ => .idx a1 (by omega) fun e2 _ => ?_
   refine .call (P := fun o => Cur (k + 510) ⟨o.1, o.2.1, ⟨o.2.2.1⟩⟩) ?_ fun ⟨v9, v10, v11, v12, v13, v14⟩ hv => ?_
   ·refine .call (t_pick 40 hr10 (by omega)) fun r11 ⟨hr11, _⟩ => .ite (fun _ => .call (t_among _ (by simp) hr11 (by omega)) fun r12 ⟨hr12, _⟩ => .ok (hr12.mono (by omega))) fun _ => .ite (fun _ => .call (t_among _ (by simp) hr11 (by omega)) fun r12 ⟨hr12, _⟩ => .ok (hr12.mono (by omega))) fun _ => .ite (fun _ => .call (t_among _ (by simp) hr11 (by omega)) fun r12 ⟨hr12, _⟩ => .ok (hr12.mono (by omega))) fun _ => .ok (hr11.mono (by omega))
   ·dsimp only at hv ⊢
    refine .idx a1 (by omega) fun e3 _ => ?_
    have hsl : (n1.set r10.1.toNat (⟨e2.From, v12, v13, v14⟩ : Flow)).length = n1.length := List.length_set ..
    generalize n1.set r10.1.toNat (⟨e2.From, v12, v13, v14⟩ : Flow) = S at hsl
    have ew : w64 ((S.length : Int) - 1) = (S.length : Int) - 1 := w64_id (by omega)
    refine .call (P := fun o => Cur (k + 1000) ⟨o.1, o.2.1, ⟨o.2.2.1⟩⟩ ∧ o.2.2.2.length ≤ 20) ?_ fun o ho => .ok ho
    refine .call (t_one 4 hv (by omega)) fun r15 hr15 => .call (P := fun _ => True) (.ite (fun _ => .ok trivial) fun _ => .ok trivial) fun b _ => .ite (fun _ => ?_) (fun _ => .ok ⟨hr15.mono (by omega), by show S.length ≤ 20; omega⟩)
    rw [ew]
    exact .idx (by omega) (by omega) fun e4 _ => .chk (by simp; omega) (.ok ⟨hr15.mono (by omega), by show (S ++ [e4]).length ≤ 20; simp; omega⟩)
def BOK (t : Timetable) (list : List Flow) (b : boarding) : Prop := ∃ (j : Nat) (f : Flow), list[j]? = some f ∧ FlowOK t f ∧ b.flow_ = (j : Int) ∧ 0 ≤ b.persons_ ∧ b.persons_ ≤ 500
theorem runF_ok {t : Timetable} (hT : GoodT t) {cap : Int} (list : List Flow) : ∀ (fs : List Flow) (q : Nat) (L : List (List Int)), (∀ f ∈ fs, FlowOK t f) → (∀ (j : Nat) f, fs[j]? = some f → list[q + j]? = some f) → LOK t cap L → LOK t cap (runF t cap fs (q : Int) L).2.1 ∧ (runF t cap fs (q : Int) L).2.2.length = fs.length ∧ (∀ x ∈ (runF t cap fs (q : Int) L).2.2, 0 ≤ x ∧ x ≤ 500) ∧ (runF t cap fs (q : Int) L).2.2.sum + ((runF t cap fs (q : Int) L).1.map (·.persons_)).sum = (fs.map (·.Persons)).sum ∧ (runF t cap fs (q : Int) L).1.length ≤ 12 * fs.length ∧ ∀ b ∈ (runF t cap fs (q : Int) L).1, BOK t list b
 | [], q, L, _, _, hL => ⟨hL, rfl, fun x hx => (by cases hx), rfl, Nat.le_refl _, fun x hx => (by cases hx)⟩
 | f :: fs, q, L, hF, hq, hL => by
  have hfo := hF f (List.mem_cons_self ..)
  have hpers : 0 ≤ f.Persons ∧ f.Persons ≤ 500 := by obtain ⟨_, _, _, _, p1, p2⟩ := hfo; omega
  obtain ⟨r1, r2, r3, r4, r5⟩ := runS_ok hT (svL t f) f.Persons L (fun s hs => svL_ok hT hs) hL hpers.1
  have hsl := svL_len hT f
  rw [runF_cons]
  generalize runS cap (svL t f) f.Persons L = R at r1 r2 r3 r4 r5
  obtain ⟨i1, i2, i3, i4, i5, i6⟩ := runF_ok hT list fs (q + 1) R.2.1 (fun g hg => hF g (List.mem_cons_of_mem _ hg)) (fun j g hg => by have := hq (j + 1) g hg; rwa [show q + (j + 1) = q + 1 + j by omega] at this) r1
  rw [show ((q : Int) + 1) = ((q + 1 : Nat) : Int) by omega]
  generalize runF t cap fs ((q + 1 : Nat) : Int) R.2.1 = S at i1 i2 i3 i4 i5 i6
  dsimp only
  refine ⟨i1, by rw [List.length_cons, List.length_cons, i2], fun x hx => ?_, ?_, ?_, fun b hb => ?_⟩
  ·rcases List.mem_cons.1 hx with rfl | hx
   ·omega
   ·exact i3 x hx
  ·rw [List.map_append, List.sum_append, List.map_map, List.sum_cons, List.map_cons, List.sum_cons]
   have : ((R.2.2.map ((·.persons_) ∘ fun p => (⟨(q : Int), p.1, p.2⟩ : boarding)))).sum = (R.2.2.map (·.2)).sum := rfl
   rw [this]; omega
  ·rw [List.length_append, List.length_map, List.length_cons]; omega
  ·rcases List.mem_append.1 hb with hb | hb
   ·obtain ⟨p, hp, rfl⟩ := List.mem_map.1 hb
    have := r5 p hp
    exact ⟨q, f, hq 0 f rfl, hfo, rfl, by dsimp only; omega, by dsimp only; omega⟩
   ·exact i6 b hb
section
variable {t : Timetable} {list : List Flow} {B : boards}
def fr (list : List Flow) (b : boarding) : Int := (list.getD b.flow_.toNat ⟨-1, -1, 0, 0⟩).From
end
theorem fsumU {l : List Int} {step : Int × Int → Option (Lp (Int × Int) Int)} (hl : l.length ≤ 1000) (hb : ∀ x ∈ l, 0 ≤ x ∧ x ≤ 500) (h1 : ∀ (k : Nat) (s e : Int), l[k]? = some e → step (s, (k : Int)) = some (.nx (w64 (s + e), w64 ((k : Int) + 1)))) (h2 : ∀ s, step (s, (l.length : Int)) = some (.dn s)) : iter step ((0 : Int), (0 : Int)) = some l.sum ∧ 0 ≤ l.sum ∧ l.sum ≤ 500 * (l.length : Int) := by
 have hs : ∀ k : Nat, 0 ≤ (l.take k).sum ∧ (l.take k).sum ≤ 500 * (k : Int) := by
  intro k
  induction k with
  | zero => simp
  | succ k ih =>
   cases hx : l[k]? with
   | none =>
    have : l.length ≤ k := List.getElem?_eq_none_iff.1 hx
    rw [List.take_of_length_le (by omega)]
    rw [List.take_of_length_le (by omega)] at ih
    omega
   | some p =>
    rw [sum_take_succ hx]
    have := hb p (List.mem_of_getElem? hx)
    omega
 refine ⟨?_, by have := hs l.length; rwa [List.take_of_length_le (Nat.le_refl _)] at this⟩
 refine Tot.val (Tot.iter (fun m s => ∃ k : Nat, s.2 = (k : Int) ∧ m + k = l.length ∧ s.1 = (l.take k).sum) (n := l.length) ⟨0, rfl, rfl, rfl⟩ ?_)
 rintro m ⟨x, v⟩ ⟨k, hk, hm, hx⟩
 simp only at hk hx
 subst hk
 by_cases hc : k < l.length
 ·obtain ⟨e, he⟩ := get_ex (l := l) (i := k) hc
  have h1' := hb e (List.mem_of_getElem? he)
  have hsk := hs k
  rw [h1 k x e he]
  refine .nx ⟨m - 1, by omega, k + 1, w64_succ (by omega), by omega, ?_⟩
  show w64 (x + e) = _
  rw [sum_take_succ he, hx, w64_id (by omega)]
 ·have : k = l.length := by omega
  subst this
  rw [h2]
  exact .dn (by rw [hx, List.take_of_length_le (Nat.le_refl _)])
theorem total_ok {l : List Int} (hl : l.length ≤ 1000) (hb : ∀ x ∈ l, 0 ≤ x ∧ x ≤ 500) : zq27 l = some l.sum := by
 unfold zq27
 rw [(fsumU (step := zq27_L1 l) hl hb (fun k s e he => by
  have := get_lt he
  unfold zq27_L1
  have c : decide ((k : Int) < (l.length : Int)) = true := by simp; omega
  simp only [c, if_true, ixs he, qb]) (fun s => by unfold zq27_L1; simp)).1]
 rfl
def lf (t : Timetable) (list : List Flow) (cap : Int) : List Int := (runF t cap list 0 (L0 t)).2.2
theorem lf_ok {t : Timetable} (hT : GoodT t) {list : List Flow} (hF : FlowsOK t list) {cap : Int} (hc : 0 ≤ cap ∧ cap ≤ 1000) : (lf t list cap).length ≤ 12 ∧ ∀ x ∈ lf t list cap, 0 ≤ x ∧ x ≤ 500 := by
 obtain ⟨f1, f2, f3, f4, f5, f6⟩ := runF_ok hT (cap := cap) list list 0 (L0 t) hF.2 (fun j f h => by rwa [Nat.zero_add]) (L0_ok hc.1)
 exact ⟨by have := hF.1; unfold lf; rw [show ((0 : Int)) = ((0 : Nat) : Int) from rfl, f2]; exact this, f3⟩
theorem sLeft_ok {t : Timetable} (hT : GoodT t) {list : List Flow} (hF : FlowsOK t list) {cap : Int} (hc : 0 ≤ cap ∧ cap ≤ 1000) (hn : t.Network.Stops.length ≤ 1000) : zq61 t list cap = some (lf t list cap).sum := by
 obtain ⟨hl, hb⟩ := lf_ok hT hF hc
 unfold zq61
 refine Tot.val (.call (sBoard_ok hT hF hc hn) fun r ⟨_, h2⟩ => ?_)
 have h2 : r.left_ = lf t list cap := h2
 refine .eq (fsumU (l := lf t list cap) (step := zq61_L1 r) (by omega) hb (fun k s e he => ?_) (fun s => ?_)).1 (.ok rfl)
 ·have := get_lt he
  unfold zq61_L1
  rw [h2]
  have c : decide ((k : Int) < ((lf t list cap).length : Int)) = true := by simp; omega
  simp only [c, if_true, ixs he, qb]
 ·unfold zq61_L1; rw [h2]; simp
theorem needed_both {t : Timetable} (hb : TB t) {list : List Flow} (hl : list.length ≤ 1000) : ∃ b c, zq2 t list = some b ∧ zq9 t list = some (c, b) ∧ zq34 t list = some (c, b) ∧ (b = true → GoodT t ∧ FlowsOK t list ∧ (0 ≤ c ∧ c ≤ 1000) ∧ (lf t list c).sum ≤ (lf t list 1000).sum) := by
 have hn : t.Network.Stops.length ≤ 1000 := hb.1.1
 obtain ⟨b, h1, h2, h3⟩ := flows_both hb list hl
 unfold zq9 zq34
 rw [h1, h2]
 cases b with
 | false => exact ⟨false, 0, rfl, rfl, rfl, fun h => (by cases h)⟩
 | true =>
  obtain ⟨hT, hF⟩ := h3 rfl
  have hM : (0 : Int) ≤ 1000 ∧ (1000 : Int) ≤ 1000 := by omega
  have hI : ∀ v : Int, 0 ≤ v ∧ v ≤ 1000 → zq9_L1 t list (lf t list 1000).sum v = if (lf t list 1000).sum < (lf t list v).sum then some (.nx (w64 (v + 1))) else some (.dn v) := fun v hv => by
   obtain ⟨q1, q2⟩ := lf_ok hT hF hv
   unfold zq9_L1
   dsimp only
   rw [iBoard_ok hT hF hv]
   simp only [qb]
   rw [show (runF t v list 0 (L0 t)).2.2 = lf t list v from rfl, total_ok (by omega) q2]
   simp only [qb]
   by_cases h : (lf t list 1000).sum < (lf t list v).sum <;> simp [h]
  have hSp : ∀ v : Int, 0 ≤ v ∧ v ≤ 1000 → zq34_L1 t list (lf t list 1000).sum v = if (lf t list 1000).sum < (lf t list v).sum then some (.nx (w64 (v + 1))) else some (.dn v) := fun v hv => by
   unfold zq34_L1
   dsimp only
   rw [sLeft_ok hT hF hv hn]
   simp only [qb]
   by_cases h : (lf t list 1000).sum < (lf t list v).sum <;> simp [h]
  have hloop : ∀ (step : Int → Option (Lp Int Int)), (∀ v : Int, 0 ≤ v ∧ v ≤ 1000 → step v = if (lf t list 1000).sum < (lf t list v).sum then some (.nx (w64 (v + 1))) else some (.dn v)) → Tot (iter step 0) fun c => (0 ≤ c ∧ c ≤ 1000) ∧ (lf t list c).sum ≤ (lf t list 1000).sum ∧ ∀ v : Int, 0 ≤ v → v < c → (lf t list 1000).sum < (lf t list v).sum := fun step hst => by
   refine Tot.iter (fun m (s : Int) => ∃ k : Nat, s = (k : Int) ∧ m + k = 1000 ∧ ∀ v : Int, 0 ≤ v → v < (k : Int) → (lf t list 1000).sum < (lf t list v).sum) (n := 1000) ⟨0, rfl, rfl, fun v h1 h2 => absurd h2 (by omega)⟩ ?_
   rintro m s ⟨k, rfl, hm, hk⟩
   rw [hst k (by omega)]
   by_cases h : (lf t list 1000).sum < (lf t list (k : Int)).sum
   ·rw [if_pos h]
    have hk1 : k ≠ 1000 := fun e => by subst e; exact absurd h (Int.lt_irrefl _)
    refine .nx ⟨m - 1, by omega, k + 1, w64_succ (by omega), by omega, fun v h1 h2 => ?_⟩
    by_cases e : v = (k : Int)
    ·subst e; exact h
    ·exact hk v h1 (by omega)
   ·rw [if_neg h]
    exact .dn ⟨by omega, by omega, hk⟩
  obtain ⟨c, ci, c1, c2, c3⟩ := hloop _ hI
  obtain ⟨d, di, d1, d2, d3⟩ := hloop _ hSp
  have hcd : c = d := by
   by_cases h : c < d
   ·have := d3 c c1.1 h; omega
   ·by_cases h' : d < c
    ·have := c3 d d1.1 h'; omega
    ·omega
  subst hcd
  obtain ⟨q1, q2⟩ := lf_ok hT hF hM
  refine ⟨true, c, rfl, ?_, ?_, fun _ => ⟨hT, hF, c1, c2⟩⟩
  ·refine Tot.val (.eq rfl ?_)
   simp only [Bool.not_true, Bool.false_eq_true, if_false]
   refine .eq (iBoard_ok hT hF hM) ?_
   refine .eq (total_ok (l := lf t list 1000) (by omega) q2) (.eq ci (.ok rfl))
  ·refine Tot.val (.eq rfl ?_)
   simp only [Bool.not_true, Bool.false_eq_true, if_false]
   refine .eq (sLeft_ok hT hF hM hn) (.eq di (.ok rfl))
theorem good1_eq {t : Timetable} (hb : TB t) (f : Flow) : zq60 t [f] = some (decide (GoodT t) && decide (FlowOK t f)) := by
 have hn : t.Network.Stops.length ≤ 1000 := hb.1.1
 unfold zq60
 rw [goodT_eq hb]
 by_cases hT : GoodT t
 ·simp only [hT, decide_true, qb, Bool.not_true, Bool.false_eq_true, if_false, Bool.true_and]
  have c : ¬ (12 : Int) < (([f] : List Flow).length : Int) := by simp
  simp only [c, decide_false, Bool.false_eq_true, if_false]
  have s0 : zq60_L1 t [f] 0 = some (if FlowOK t f then .nx 1 else .dn (.ret false)) := by
   have w1 : w64 ((0 : Int) + 1) = 1 := rfl
   unfold zq60_L1
   by_cases h : FlowOK t f <;> simp [l20Flow_eq t hn, h, idx]
   exact w1
  have s1 : zq60_L1 t [f] 1 = some (.dn (.go ())) := by
   unfold zq60_L1; simp
  by_cases h : FlowOK t f
  ·rw [if_pos h] at s0
   rw [iter_nx s0, iter_dn s1]; simp [h, flb]
  ·rw [if_neg h] at s0
   rw [iter_dn s0]; simp [h, flb]
 ·simp only [hT, decide_false, qb, Bool.not_false, if_true, Bool.false_and]
theorem serving_both {t : Timetable} (hb : TB t) (f : Flow) : ∃ l b, zq10 t f = some (l, b) ∧ zq35 t f = some (l, b) ∧ l.length ≤ 100 := by
 unfold zq10 zq35
 rw [good1_eq hb, validT_eq hb, isFlow_eq]
 by_cases hT : GoodT t
 ·by_cases hf : FlowOK t f
  ·have hss : ∀ s ∈ svL t f, SOK t f s := fun s hs => svL_ok hT hs
   have hsl := svL_len hT f
   have hid : ∀ (k : Nat) s, (svL t f)[k]? = some s → ∃ x, idx t.Trips s.trip_ = some x ∧ (t.Trips.getD s.trip_.toNat ⟨0, 0, 0⟩).Id = x.Id := fun k s hs => by
    obtain ⟨i, x, l, hx, _, h1, _⟩ := hss s (List.mem_of_getElem? hs)
    refine ⟨x, by rw [h1]; exact ixs hx, ?_⟩
    rw [h1, show ((i : Int).toNat) = i by omega, List.getD_eq_getElem?_getD, hx]; rfl
   refine ⟨(svL t f).map (fun s => (t.Trips.getD s.trip_.toNat ⟨0, 0, 0⟩).Id), true, ?_, ?_, by rw [List.length_map]; omega⟩
   ·simp only [hT, hf, decide_true, qb, Bool.not_true, Bool.false_eq_true, if_false, servicesOf_eq hT f]
    refine Tot.val (.call (P := fun r => r = (svL t f).map (fun s => (t.Trips.getD s.trip_.toNat ⟨0, 0, 0⟩).Id)) ?_ fun r hr => by subst hr; exact .ok rfl)
    refine Tot.iter (fun m s => ∃ k : Nat, s.1 = (k : Int) ∧ m + k = (svL t f).length ∧ s.2 = ((svL t f).map (fun s => (t.Trips.getD s.trip_.toNat ⟨0, 0, 0⟩).Id)).take k) (n := (svL t f).length) ⟨0, rfl, rfl, rfl⟩ ?_
    rintro m ⟨v, o⟩ ⟨k, hk, hm, ho⟩
    simp only at hk ho
    subst hk
    unfold zq10_L1
    refine .iteP (fun hc => ?_) (fun hc => .dn (by rw [ho, List.take_of_length_le (by rw [List.length_map]; omega)]))
    obtain ⟨s, hs⟩ := get_ex (l := svL t f) (i := k) (by omega)
    obtain ⟨x, hx, hx2⟩ := hid k s hs
    have ol : o.length ≤ k := by rw [ho, List.length_take]; omega
    refine .eq (ixs hs) (.eq hx (.chk (by simp; omega) (.nx ⟨m - 1, by omega, k + 1, w64_succ (by omega), by omega, ?_⟩)))
    show o ++ [x.Id] = _
    rw [take_succ (x := x.Id) (by rw [List.getElem?_map, hs, Option.map_some, hx2]), ho]
   ·simp only [hT, hf, decide_true, qb, Bool.and_self, Bool.not_true, Bool.false_eq_true, if_false, serving_eq hT f]
    refine Tot.val (.call (P := fun r => r = (svL t f).map (fun s => (t.Trips.getD s.trip_.toNat ⟨0, 0, 0⟩).Id)) ?_ fun r hr => by subst hr; exact .ok rfl)
    refine Tot.iter (fun m s => ∃ k : Nat, s.1 = (k : Int) ∧ m + k = (svL t f).length ∧ s.2 = ((svL t f).map (fun s => (t.Trips.getD s.trip_.toNat ⟨0, 0, 0⟩).Id)).take k) (n := (svL t f).length) ⟨0, rfl, rfl, rfl⟩ ?_
    rintro m ⟨v, o⟩ ⟨k, hk, hm, ho⟩
    simp only at hk ho
    subst hk
    have hml : ((svL t f).map (·.trip_)).length = (svL t f).length := List.length_map ..
    unfold zq35_L1
    refine .iteP (fun hc => ?_) (fun hc => .dn (by rw [ho, List.take_of_length_le (by rw [List.length_map]; omega)]))
    obtain ⟨s, hs⟩ := get_ex (l := svL t f) (i := k) (by omega)
    obtain ⟨x, hx, hx2⟩ := hid k s hs
    have ol : o.length ≤ k := by rw [ho, List.length_take]; omega
    have hts : ((svL t f).map (·.trip_))[k]? = some s.trip_ := by rw [List.getElem?_map, hs]; rfl
    refine .eq (ixs hts) (.eq hx (.chk (by simp; omega) (.nx ⟨m - 1, by omega, k + 1, w64_succ (by omega), by omega, ?_⟩)))
    show o ++ [x.Id] = _
    rw [take_succ (x := x.Id) (by rw [List.getElem?_map, hs, Option.map_some, hx2]), ho]
  ·exact ⟨[], false, by simp [hT, hf], by simp [hT, hf], by simp⟩
 ·exact ⟨[], false, by simp [hT], by simp [hT], by simp⟩
def sameF (e : Flow) (g : Flow) : Bool := g.From == e.From && (g.To == e.To && g.Time == e.Time)
def mrg (out : List Flow) (e : Flow) : List Flow := match out[(fixI (sameF e) out).toNat]? with
 | some g => if fixI (sameF e) out < 0 then out ++ [e] else out.set (fixI (sameF e) out).toNat ⟨g.From, g.To, g.Time, w64 (g.Persons + e.Persons)⟩
 | none => out ++ [e]
theorem same_eq (g e : Flow) : zq8 g e = some (sameF e g) := by
 unfold zq8 sameF
 by_cases h1 : g.From = e.From <;> by_cases h2 : g.To = e.To <;> simp [h1, h2]
theorem idxF_eq (l : List Flow) (hl : l.length ≤ 1000) (e : Flow) : zq82 l e = some (fixI (sameF e) l) := by
 unfold zq82 zq81
 refine find_val l (sameF e) (fun i x hx => ?_) (by unfold zq81_L1; simp)
 have := get_lt hx
 have c : decide ((i : Int) < (l.length : Int)) = true := by simp; omega
 unfold zq81_L1
 simp only [c, if_true, ixs hx, qb, same_eq, w64_succ (n := i) (by omega)]
 split <;> rfl
theorem sPlace_ok {list : List Flow} {x : Nat} {e : Flow} (he : list[x]? = some e) {k : List Flow} (hl : k.length ≤ 1000) : iter (zq33_L1 list (x : Int) k) (0 : Int) = some (if fixI (sameF e) k < 0 then (k.length : Int) else fixI (sameF e) k) := by
 refine Tot.val (Tot.iter (fun m (s : Int) => ∃ j : Nat, s = (j : Int) ∧ m + j = k.length ∧ ∀ (i : Nat) y, i < j → k[i]? = some y → sameF e y = false) (n := k.length) ⟨0, rfl, rfl, fun i y h => absurd h (by omega)⟩ ?_)
 rintro m s ⟨j, rfl, hm, hj⟩
 unfold zq33_L1
 refine .call (P := fun b => (b = true → ∃ y, k[j]? = some y ∧ sameF e y = false) ∧ (b = false → (j = k.length) ∨ ∃ y, k[j]? = some y ∧ sameF e y = true)) (.iteP (fun hc => ?_) (fun hc => .ok ⟨fun h => (by cases h), fun _ => .inl (by omega)⟩)) fun b hb => .ite (fun h => ?_) (fun h => .dn ?_)
 ·obtain ⟨y, hy⟩ := get_ex (l := k) (i := j) (by omega)
  refine .eq (ixs hy) (.eq (ixs he) (.ite (fun h1 => .ok ⟨fun _ => ⟨y, hy, by unfold sameF; simp at h1 ⊢; intro h; exact absurd h h1⟩, fun h => (by cases h)⟩) fun h1 => .eq (ixs hy) (.eq (ixs he) (.ite (fun h2 => .ok ⟨fun _ => ⟨y, hy, by unfold sameF; simp at h2 ⊢; intro _ h; exact absurd h h2⟩, fun h => (by cases h)⟩) fun h2 => .eq (ixs hy) (.eq (ixs he) (.ok ⟨fun h3 => ⟨y, hy, by unfold sameF; simp at h3 ⊢; intro _ _; exact h3⟩, fun h3 => .inr ⟨y, hy, by unfold sameF; simp at h1 h2 h3 ⊢; exact ⟨h1, h2, h3⟩⟩⟩))))))
 ·obtain ⟨y, hy, hs⟩ := hb.1 h
  have := get_lt hy
  refine .nx ⟨m - 1, by omega, j + 1, w64_succ (by omega), by omega, fun i z hi hz => ?_⟩
  by_cases e : i = j
  ·subst e; rw [hy] at hz; cases hz; exact hs
  ·exact hj i z (by omega) hz
 ·rcases hb.2 h with h | ⟨y, hy, hs⟩
  ·by_cases hn : fixI (sameF e) k < 0
   ·rw [if_pos hn]; omega
   ·obtain ⟨i, z, _, h2, h3, _⟩ := idx_fix hn
    have := hj i z (by have := get_lt h2; omega) h2
    rw [this] at h3; cases h3
  ·have := fixI_of hy hs hj
   rw [this, if_neg (by omega)]
def mrgs (list : List Flow) : List Flow := list.foldl mrg []
def psF (l : List Flow) : Int := (l.map (·.Persons)).sum
theorem mrg_len (out : List Flow) (e : Flow) : (mrg out e).length ≤ out.length + 1 := by
 unfold mrg
 split
 ·split
  ·simp
  ·rw [List.length_set]; omega
 ·simp
theorem mrgs_succ {list : List Flow} {k : Nat} {e : Flow} (h : list[k]? = some e) : (list.take (k + 1)).foldl mrg [] = mrg ((list.take k).foldl mrg []) e := by
 rw [take_succ h, List.foldl_append]; rfl
theorem iMerge_ok {list : List Flow} (hl : list.length ≤ 12) : iter (zq7_L1 list) ((0 : Int), ([] : List Flow)) = some (mrgs list) := by
 refine Tot.val (Tot.iter (fun m s => ∃ k : Nat, s.1 = (k : Int) ∧ m + k = list.length ∧ s.2 = (list.take k).foldl mrg [] ∧ s.2.length ≤ k) (n := list.length) ⟨0, rfl, rfl, rfl, Nat.le_refl _⟩ ?_)
 rintro m ⟨v, o⟩ ⟨k, hk, hm, ho, hol⟩
 simp only at hk ho hol
 subst hk
 unfold zq7_L1
 refine .iteP (fun hc => ?_) (fun hc => .dn (by rw [ho, List.take_of_length_le (by omega)]; rfl))
 obtain ⟨e, he⟩ := get_ex (l := list) (i := k) (by omega)
 refine .call (P := fun r => r = mrg o e) (.eq (ixs he) (.eq (idxF_eq o (by omega) e) (.iteP (fun h => .chk (by simp; omega) (.ok ?_)) (fun h => ?_)))) fun r hr => .nx ⟨m - 1, by omega, k + 1, w64_succ (by omega), by omega, by rw [mrgs_succ he, ← ho]; exact hr, by have := mrg_len o e; show r.length ≤ _; rw [hr]; omega⟩
 ·unfold mrg; split
  ·rw [if_pos h]
  ·rfl
 ·obtain ⟨i, g, h1, h2, _, _⟩ := idx_fix h
  rw [h1]
  refine .eq (ixs h2) (.eq (ixs h2) (.ok ?_))
  unfold mrg
  rw [h1, show ((i : Int).toNat) = i by omega, h2]
  dsimp only
  rw [if_neg (by omega)]
theorem sMerge_ok {list : List Flow} (hl : list.length ≤ 12) : iter (zq33_L2 list) ((0 : Int), ([] : List Flow)) = some (mrgs list) := by
 refine Tot.val (Tot.iter (fun m s => ∃ k : Nat, s.1 = (k : Int) ∧ m + k = list.length ∧ s.2 = (list.take k).foldl mrg [] ∧ s.2.length ≤ k) (n := list.length) ⟨0, rfl, rfl, rfl, Nat.le_refl _⟩ ?_)
 rintro m ⟨v, o⟩ ⟨k, hk, hm, ho, hol⟩
 simp only at hk ho hol
 subst hk
 unfold zq33_L2
 refine .iteP (fun hc => ?_) (fun hc => .dn (by rw [ho, List.take_of_length_le (by omega)]; rfl))
 obtain ⟨e, he⟩ := get_ex (l := list) (i := k) (by omega)
 refine .call (P := fun r => r = mrg o e) (.eq (sPlace_ok he (by omega)) ?_) fun r hr => .nx ⟨m - 1, by omega, k + 1, w64_succ (by omega), by omega, by rw [mrgs_succ he, ← ho]; exact hr, by have := mrg_len o e; show r.length ≤ _; rw [hr]; omega⟩
 by_cases h : fixI (sameF e) o < 0
 ·rw [if_pos h]
  refine .ite (fun _ => .eq (ixs he) (.chk (by simp; omega) (.ok ?_))) (fun h' => by simp at h')
  unfold mrg; split
  ·rw [if_pos h]
  ·rfl
 ·rw [if_neg h]
  obtain ⟨i, g, h1, h2, _, _⟩ := idx_fix h
  have := get_lt h2
  rw [h1]
  refine .ite (fun h' => by simp at h'; omega) (fun _ => .eq (ixs h2) (.eq (ixs he) (.eq (ixs h2) (.ok ?_))))
  unfold mrg
  rw [h1, show ((i : Int).toNat) = i by omega, h2]
  dsimp only
  rw [if_neg (by omega)]
theorem psF_snoc (l : List Flow) (e : Flow) : psF (l ++ [e]) = psF l + e.Persons := by unfold psF; rw [List.map_append, List.sum_append]; simp
theorem psF_cons (l : List Flow) (e : Flow) : psF (e :: l) = e.Persons + psF l := by unfold psF; rw [List.map_cons, List.sum_cons]
theorem psF_set : ∀ {l : List Flow} {i : Nat} {g h : Flow}, l[i]? = some g → psF (l.set i h) = psF l - g.Persons + h.Persons
 | a :: l, 0, g, h, hg => by cases hg; rw [List.set_cons_zero, psF_cons, psF_cons]; omega
 | a :: l, i + 1, g, h, hg => by
  rw [List.set_cons_succ, psF_cons, psF_cons, psF_set (l := l) (i := i) (g := g) hg]; omega
theorem psF_mem : ∀ {l : List Flow} {g : Flow}, (∀ x ∈ l, 0 ≤ x.Persons) → g ∈ l → g.Persons ≤ psF l ∧ 0 ≤ psF l
 | a :: l, g, h, hg => by
  have ha := h a (List.mem_cons_self ..)
  have h0 : 0 ≤ psF l := by
   have h' : ∀ x ∈ l, 0 ≤ x.Persons := fun x hx => h x (List.mem_cons_of_mem _ hx)
   clear hg h
   induction l with
   | nil => exact Int.le_refl _
   | cons b l ih => rw [psF_cons]; have := h' b (List.mem_cons_self ..); have := ih fun x hx => h' x (List.mem_cons_of_mem _ hx); omega
  rw [psF_cons]
  rcases List.mem_cons.1 hg with rfl | hg
  ·omega
  ·have := psF_mem (fun x hx => h x (List.mem_cons_of_mem _ hx)) hg; omega
theorem mrgs_ok {list : List Flow} (hl : list.length ≤ 12) (hp : ∀ f ∈ list, 1 ≤ f.Persons ∧ f.Persons ≤ 500) : ∀ k, k ≤ list.length → psF ((list.take k).foldl mrg []) = psF (list.take k) ∧ (∀ x ∈ (list.take k).foldl mrg [], 0 ≤ x.Persons) ∧ 0 ≤ psF (list.take k) ∧ psF (list.take k) ≤ 500 * (k : Int) ∧ ((list.take k).foldl mrg []).length ≤ k
 | 0, _ => ⟨rfl, fun x hx => (by cases hx), Int.le_refl _, by simp [psF], Nat.le_refl _⟩
 | k + 1, hk => by
  obtain ⟨i1, i2, i3, i4, i5⟩ := mrgs_ok hl hp k (by omega)
  obtain ⟨e, he⟩ := get_ex (l := list) (i := k) (by omega)
  have hpe := hp e (List.mem_of_getElem? he)
  have hml := mrg_len ((list.take k).foldl mrg []) e
  rw [mrgs_succ he, take_succ he, psF_snoc]
  generalize (list.take k).foldl mrg [] = o at i1 i2 i5 hml ⊢
  have key : psF (mrg o e) = psF o + e.Persons ∧ ∀ x ∈ mrg o e, 0 ≤ x.Persons := by
   unfold mrg
   have app : psF (o ++ [e]) = psF o + e.Persons ∧ ∀ x ∈ o ++ [e], 0 ≤ x.Persons := ⟨psF_snoc o e, fun x hx => by
    rcases List.mem_append.1 hx with hx | hx
    ·exact i2 x hx
    ·rcases List.mem_cons.1 hx with rfl | hx
     ·omega
     ·cases hx⟩
   split
   ·rename_i g hg
    split
    ·exact app
    ·have hm := psF_mem i2 (List.mem_of_getElem? hg)
     have hg0 := i2 g (List.mem_of_getElem? hg)
     have ew : w64 (g.Persons + e.Persons) = g.Persons + e.Persons := w64_id (by omega)
     refine ⟨by rw [psF_set hg]; dsimp only; omega, fun x hx => ?_⟩
     rcases List.mem_or_eq_of_mem_set hx with hx | rfl
     ·exact i2 x hx
     ·dsimp only; omega
   ·exact app
  exact ⟨by rw [key.1, i1], key.2, by omega, by omega, by omega⟩
theorem drawIv_ok (code : List UInt8) : Tot (zq29 code) fun r => (TB r.1 ∧ 2 ≤ r.1.Network.Stops.length) ∧ r.2.length ≤ 20 := by
 have h0 := (cur0 code).mono (k' := 10) (by omega)
 unfold zq29
 exact .call (Tot.pc (anyTimetable_ok h0 (by omega)) (anyTime_st h0 (by omega))) fun r ⟨⟨hc, hd⟩, hs⟩ => .call (flows_ok hc (by omega) hd.tb hs) fun r1 ⟨hc1, hl⟩ => .ok ⟨⟨hd.tb, hs⟩, hl⟩
theorem drawSt_ok (code : List UInt8) : Tot (zq32 code) fun r => TB r.1 := by
 have h0 := (cur0 code).mono (k' := 10) (by omega)
 unfold zq32
 exact .call (Tot.pc (anyTimetable_ok h0 (by omega)) (anyTime_st h0 (by omega))) fun r ⟨⟨hc, hd⟩, hs⟩ => .call (t_amongw _ (by simp) hc (by omega)) fun r3 ⟨hc3, _⟩ => .call (flow_ok hc3 (by omega) hd.tb hs r3.1) fun r4 _ => .ok hd.tb
theorem merge_both {t : Timetable} (hb : TB t) {list : List Flow} (hl : list.length ≤ 20) : ∃ l b, zq7 t list = some (l, b) ∧ zq33 t list = some (l, b) ∧ (b = true → l = mrgs list ∧ FlowsOK t list) := by
 obtain ⟨b, h1, h2, h3⟩ := flows_both hb list (by omega)
 unfold zq7 zq33
 rw [h1, h2]
 cases b with
 | false => exact ⟨[], false, rfl, rfl, fun h => (by cases h)⟩
 | true =>
  obtain ⟨hT, hF⟩ := h3 rfl
  have hml := (mrgs_ok hF.1 (fun f hf => (hF.2 f hf).2.2.2.2) list.length (Nat.le_refl _)).2.2.2.2
  rw [List.take_of_length_le (Nat.le_refl _)] at hml
  have hml : (mrgs list).length ≤ list.length := hml
  obtain ⟨c, g1, g2, g3⟩ := flows_both hb (mrgs list) (by omega)
  have hA : zq12 t (mrgs list) = some c := by
   unfold zq2 at g1
   rw [validT_eq hb] at g1
   simp only [hT, decide_true, qb, if_true] at g1
   obtain ⟨z, hz, _⟩ := areFlows_ok t (mrgs list) (by omega)
   rw [hz] at g1 ⊢
   simpa using g1
  simp only [qb, Bool.not_true, Bool.false_eq_true, if_false, iMerge_ok hF.1, sMerge_ok hF.1, hA, g2]
  cases c with
  | false => exact ⟨[], false, rfl, rfl, fun h => (by cases h)⟩
  | true => exact ⟨mrgs list, true, rfl, rfl, fun _ => ⟨rfl, hF⟩⟩
theorem sumA_ok {t : Timetable} {list : List Flow} (hl : list.length ≤ 12) (hp : ∀ f ∈ list, 1 ≤ f.Persons ∧ f.Persons ≤ 500) : iter (v_FnFlows_L1 (t, list)) ((0 : Int), (0 : Int)) = some (psF list) := by
 have hml : (list.map (·.Persons)).length = list.length := List.length_map ..
 refine (fsumU (l := list.map (·.Persons)) (step := v_FnFlows_L1 (t, list)) (by omega) (fun x hx => by obtain ⟨f, hf, rfl⟩ := List.mem_map.1 hx; have := hp f hf; omega) (fun k s e he => ?_) (fun s => ?_)).1
 ·rw [List.getElem?_map] at he
  obtain ⟨f, hf, rfl⟩ := Option.map_eq_some_iff.1 he
  have := get_lt hf
  unfold v_FnFlows_L1
  have c : decide ((k : Int) < (list.length : Int)) = true := by simp; omega
  simp only [c, if_true, ixs hf, qb]
 ·unfold v_FnFlows_L1; rw [hml]; simp
theorem sumB_ok {M : List Flow} {b : Bool} {s : Int} (hs : 0 ≤ s ∧ s ≤ 100000) (hl : M.length ≤ 12) (hp : ∀ f ∈ M, 0 ≤ f.Persons) (hm : psF M ≤ 100000) : iter (v_FnFlows_L2 (M, b)) (s, (0 : Int)) = some (s - psF M) := by
 have hk : ∀ k, 0 ≤ psF (M.take k) ∧ psF (M.take k) ≤ psF M := fun k => by
  have e : psF M = psF (M.take k) + psF (M.drop k) := by
   unfold psF
   rw [← List.sum_append, ← List.map_append, List.take_append_drop]
  have nn : ∀ l : List Flow, (∀ x ∈ l, 0 ≤ x.Persons) → 0 ≤ psF l := fun l => by
   induction l with
   | nil => intro _; exact Int.le_refl _
   | cons a l ih => intro h; rw [psF_cons]; have := h a (List.mem_cons_self ..); have := ih fun x hx => h x (List.mem_cons_of_mem _ hx); omega
  have a1 := nn (M.take k) fun x hx => hp x (List.mem_of_mem_take hx)
  have a2 := nn (M.drop k) fun x hx => hp x (List.mem_of_mem_drop hx)
  omega
 refine Tot.val (Tot.iter (fun m st => ∃ k : Nat, st.2 = (k : Int) ∧ m + k = M.length ∧ st.1 = s - psF (M.take k)) (n := M.length) ⟨0, rfl, rfl, by show s = s - 0; omega⟩ ?_)
 rintro m ⟨x, v⟩ ⟨k, hkk, hm', hx⟩
 simp only at hkk hx
 subst hkk
 unfold v_FnFlows_L2
 dsimp only
 refine .iteP (fun hc => ?_) (fun hc => .dn (by rw [hx, List.take_of_length_le (by omega)]))
 obtain ⟨e, he⟩ := get_ex (l := M) (i := k) (by omega)
 have h1 := hk (k + 1)
 rw [take_succ he, psF_snoc] at h1
 have h0 := hk k
 have he0 := hp e (List.mem_of_getElem? he)
 refine .eq (ixs he) (.nx ⟨m - 1, by omega, k + 1, w64_succ (by omega), by omega, ?_⟩)
 show w64 (x - e.Persons) = _
 rw [take_succ he, psF_snoc, hx, w64_id (by omega)]; omega
theorem leftB {t : Timetable} (hb : TB t) {list : List Flow} (hl : list.length ≤ 1000) (hv : zq2 t list = some true) (hT : GoodT t) (hF : FlowsOK t list) {cap : Int} (hc : 0 ≤ cap ∧ cap ≤ 1000) : zq6 t list cap = some (lf t list cap, true) := by
 unfold zq6 zq11
 rw [hv]
 simp only [qb, if_true, within_eq, hc, and_self, decide_true, iBoard_ok hT hF hc]
 rfl
theorem rSum_ok {l : List Int} (hl : l.length ≤ 1000) (hb : ∀ x ∈ l, 0 ≤ x ∧ x ≤ 500) : zq97 l = some l.sum := by
 unfold zq97
 refine Tot.val (.eq (fsumU hl hb (step := zq97_L1 l) (fun k s e he => ?_) (fun s => ?_)).1 (.ok rfl))
 ·have := get_lt he
  unfold zq97_L1
  have c : decide ((k : Int) < (l.length : Int)) = true := by simp; omega
  simp only [c, if_true, ixs he, qb]
 ·unfold zq97_L1; simp
theorem flows_true (code : List UInt8) : v_FnFlows code = some true := by
 unfold v_FnFlows zq31 zq30
 refine Tot.val (.eq (rBig_eq code) (.iteP (fun _ => .ok rfl) fun _ => ?_))
 obtain ⟨r0, hr0, ⟨hb, hs⟩, hl⟩ := drawIv_ok code
 obtain ⟨t, list⟩ := r0
 dsimp only at hb hs hl
 rw [hr0]
 obtain ⟨b, c, n1, n2, n3, n4⟩ := needed_both hb (list := list) (by omega)
 obtain ⟨M, d, m1, m2, m3⟩ := merge_both hb hl
 obtain ⟨r14, hr14, hb14⟩ := drawSt_ok code
 obtain ⟨l, e, s1, s2, s3⟩ := serving_both hb14 r14.2
 have hri := rInts_refl l (by omega)
 refine .eq (a := (t, list)) rfl (.eq n2 (.eq n3 ?_))
 refine .eq (a := false) (by simp [n1]) ?_
 refine .ite (fun h => (by cases h)) fun _ => ?_
 refine .flb ?_
 have step1 : (if b = true then (zq6 t list c).bind fun r5 => (zq6 t list 1000).bind fun r6 => (if (!r5.2) = true then some true else if (!r6.2) = true then some true else (zq97 r5.1).bind fun r7 => (zq97 r6.1).bind fun r8 => some (decide (r8 < r7))).bind fun (v1 : Bool) => if v1 = true then some (Fl.ret false) else some (Fl.go ()) else some (Fl.go ())) = some (Fl.go () : Fl Bool Unit) := by
  cases b with
  | false => rfl
  | true =>
   obtain ⟨hT, hF, hc, hle⟩ := n4 rfl
   have hM : (0 : Int) ≤ 1000 ∧ (1000 : Int) ≤ 1000 := by omega
   obtain ⟨q1, q2⟩ := lf_ok hT hF hc
   obtain ⟨q3, q4⟩ := lf_ok hT hF hM
   have hd : decide ((lf t list 1000).sum < (lf t list c).sum) = false := by simp; omega
   simp only [if_true, leftB hb (by omega) n1 hT hF hc, leftB hb (by omega) n1 hT hF hM, qb, Bool.not_true, Bool.false_eq_true, if_false, rSum_ok (by omega) q2, rSum_ok (by omega) q4, hd]
 have step2 : (if d = true then (iter (v_FnFlows_L1 (t, list)) ((0 : Int), (0 : Int))).bind fun (i2 : Int) => (iter (v_FnFlows_L2 (M, d)) (i2, (0 : Int))).bind fun (i4 : Int) => if (i4 != 0) = true then some (Fl.ret false) else some (Fl.go ()) else some (Fl.go ())) = some (Fl.go () : Fl Bool Unit) := by
  cases d with
  | false => rfl
  | true =>
   obtain ⟨rfl, hF⟩ := m3 rfl
   have hp : ∀ f ∈ list, 1 ≤ f.Persons ∧ f.Persons ≤ 500 := fun f hf => (hF.2 f hf).2.2.2.2
   obtain ⟨k1, k2, k3, k4, k5⟩ := mrgs_ok hF.1 hp list.length (Nat.le_refl _)
   rw [List.take_of_length_le (Nat.le_refl _)] at k1 k2 k3 k4 k5
   have k1 : psF (mrgs list) = psF list := k1
   have k5 : (mrgs list).length ≤ list.length := k5
   have h12 := hF.1
   have e1 := sumA_ok (t := t) hF.1 hp
   have e2 := sumB_ok (M := mrgs list) (b := true) (s := psF list) ⟨k3, by omega⟩ (by omega) k2 (by omega)
   rw [k1] at e2
   simp only [if_true, e1, qb, e2]
   simp
 refine ⟨.go (), step1, fun r h => (by cases h), fun u _ => ?_⟩
 refine .eq (a := (t, list)) rfl (.eq m1 (.eq m2 ?_))
 refine .eq (a := false) (by simp) ?_
 refine .ite (fun h => (by cases h)) fun _ => ?_
 refine .flb ⟨.go (), step2, fun r h => (by cases h), fun u _ => ?_⟩
 refine .eq hr14 (.eq s1 (.eq s2 (.eq (a := true) ?_ (.ok rfl))))
 simp [hri]
end Go.Proofs.Ytmmffjenpfeapaa
