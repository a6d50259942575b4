/- The plain law: what the models compute, no program in sight. -/
import Derived.Test.YtaegkodcjpgndaaGreatKpM
import Derived.Test.YtaegkodcjpgndaaGreatAbTot
namespace Go.Proofs.YtaegkodcjpgndaaGreat
open Go Go.Ab
set_option maxHeartbeats 4000000
set_option linter.unusedVariables false
set_option linter.unusedSimpArgs false
def Cur (k : Nat) (c : l1Cur) : Prop := 0 ≤ c.at_ ∧ c.at_ ≤ k
theorem Cur.mono {k k' : Nat} {c : l1Cur} (h : Cur k c) (hk : k ≤ k') : Cur k' c := ⟨h.1, by have := h.2; omega⟩
theorem next_ok {k : Nat} {c : l1Cur} (h : Cur k c) (hk : k ≤ 4000000000) : ∃ r, zq76 c = some r ∧ Cur (k + 1) r.2 ∧ 0 ≤ r.1 ∧ r.1 ≤ 255 := by
 obtain ⟨h0, h1⟩ := h
 have hw : w64 (c.at_ + 1) = c.at_ + 1 := w64_id (by omega)
 have hcur : ∀ s, Cur (k + 1) ⟨c.code_, w64 (c.at_ + 1), s⟩ := fun s => by rw [hw]; exact ⟨by show 0 ≤ c.at_ + 1; omega, by show c.at_ + 1 ≤ _; omega⟩
 unfold zq76
 have hv : ∃ v, (if (decide (c.at_ < (c.code_.length : Int))) = true then (idx c.code_ c.at_).bind fun e1 => some (w64 ((e1.toNat : Int))) else some 0) = some v ∧ 0 ≤ v ∧ v ≤ 255 := by
  by_cases hlt : c.at_ < c.code_.length
  ·obtain ⟨x, hx, _, _⟩ := idx_lt h0 hlt
   have := x.toNat_lt
   refine ⟨(x.toNat : Int), ?_, by omega, by omega⟩
   simp only [hlt, decide_true, if_true, hx, Option.bind_some]
   rw [w64_id (by omega)]
  ·exact ⟨0, by simp [hlt], by omega, by omega⟩
 obtain ⟨v, hv, hv0, hv1⟩ := hv
 rw [hv]
 simp only [Option.bind_some]
 split
 ·exact ⟨_, rfl, hcur _, hv0, hv1⟩
 ·rw [chk_of (by omega)]
  exact ⟨_, rfl, hcur _, and255 _⟩
theorem pick_ok {k : Nat} {c : l1Cur} (n : Int) (h : Cur k c) (hk : k ≤ 3000000000) : ∃ r, zq80 c n = some r ∧ Cur (k + 2) r.2 ∧ 0 ≤ r.1 ∧ (r.1 < n ∨ r.1 = 0) := by
 unfold zq80
 by_cases hn : n ≤ 1
 ·exact ⟨(0, c), by simp [hn], h.mono (by omega), by simp, .inr rfl⟩
 ·obtain ⟨r, hr, hc, h0, h1⟩ := next_ok h (by omega)
  have hn' : decide (n ≤ 1) = false := by simpa using hn
  simp only [hn', Bool.false_eq_true, if_false, hr, Option.bind_some]
  have hne : chk (n ≠ 0) = some () := chk_of (by omega)
  by_cases h2 : 200 < n
  ·obtain ⟨r', hr', hc', h0', h1'⟩ := next_ok hc (by omega)
   have e1 : w64 (r.1 * 256) = r.1 * 256 := w64_id (by omega)
   have e2 : w64 (r.1 * 256 + r'.1) = r.1 * 256 + r'.1 := w64_id (by omega)
   have h3 := tmod_rng (a := r.1 * 256 + r'.1) (b := n) (by omega) (by omega)
   simp only [h2, decide_true, if_true, hr', Option.bind_some, hne, e1, e2]
   exact ⟨_, rfl, hc'.mono (by omega), h3.1, .inl h3.2⟩
  ·have h2' : decide (200 < n) = false := by simpa using h2
   have h3 := tmod_rng (a := r.1) (b := n) (by omega) (by omega)
   simp only [h2', Bool.false_eq_true, if_false, Option.bind_some, hne]
   exact ⟨_, rfl, hc.mono (by omega), h3.1, .inl h3.2⟩
theorem amongw_ok {k : Nat} {c : l1Cur} (l : List Int) (hl : l ≠ []) (h : Cur k c) (hk : k ≤ 3000000000) : ∃ r, zq62 c l = some r ∧ Cur (k + 2) r.2 ∧ r.1 ∈ l := by
 unfold zq62
 obtain ⟨r, hr, hc, h0, h1⟩ := pick_ok (l.length : Int) h hk
 have hpos : 0 < l.length := List.length_pos_iff.2 hl
 obtain ⟨x, hx, _, hm⟩ := idx_lt (l := l) h0 (by omega)
 simp only [hr, Option.bind_some, hx]
 exact ⟨_, rfl, hc, hm⟩
theorem among_ok {k : Nat} {c : l1Cur} (l : List Int) (hl : l ≠ []) (h : Cur k c) (hk : k ≤ 3000000000) : ∃ r, zq61 c l = some r ∧ Cur (k + 2) r.2 ∧ r.1 ∈ l := by
 have : zq61 c l = zq62 c l := rfl
 rw [this]; exact amongw_ok l hl h hk
theorem one_ok {k : Nat} {c : l1Cur} (n : Int) (h : Cur k c) (hk : k ≤ 3000000000) : ∃ r, zq79 c n = some r ∧ Cur (k + 2) r.2 := by
 unfold zq79
 obtain ⟨r, hr, hc, _, _⟩ := pick_ok n h hk
 simp only [hr, Option.bind_some]
 exact ⟨_, rfl, hc⟩
theorem of_ok {k : Nat} {c : l1Cur} (l : List ByteArray) (hl : l ≠ []) (h : Cur k c) (hk : k ≤ 3000000000) : ∃ r, zq77 c l = some r ∧ Cur (k + 2) r.2 ∧ r.1 ∈ l := by
 unfold zq77
 obtain ⟨r, hr, hc, h0, h1⟩ := pick_ok (l.length : Int) h hk
 have hpos : 0 < l.length := List.length_pos_iff.2 hl
 obtain ⟨x, hx, _, hm⟩ := idx_lt (l := l) h0 (by omega)
 simp only [hr, Option.bind_some, hx]
 exact ⟨_, rfl, hc, hm⟩
theorem ofw_ok {k : Nat} {c : l1Cur} (l : List ByteArray) (hl : l ≠ []) (h : Cur k c) (hk : k ≤ 3000000000) : ∃ r, zq78 c l = some r ∧ Cur (k + 2) r.2 ∧ r.1 ∈ l := by
 have : zq78 c l = zq77 c l := rfl
 rw [this]; exact of_ok l hl h hk
theorem cur0 (code : List UInt8) : Cur 0 ⟨code, 0, ⟨0⟩⟩ := ⟨by show (0 : Int) ≤ 0; omega, by show (0 : Int) ≤ _; omega⟩
theorem within_eq (n lo hi : Int) : zq36 n lo hi = some (decide (lo ≤ n ∧ n ≤ hi)) := by
 unfold zq36
 by_cases h : lo ≤ n <;> simp [h]
theorem l1In_eq (n lo hi : Int) : zq87 n lo hi = some (decide (lo ≤ n ∧ n ≤ hi)) := by
 unfold zq87
 by_cases h : lo ≤ n <;> simp [h]
def ChOK (i : Nat) (c : UInt8) : Prop := (97 ≤ (c.toNat : Int) ∧ (c.toNat : Int) ≤ 122) ∨ (i ≠ 0 ∧ 48 ≤ (c.toNat : Int) ∧ (c.toNat : Int) ≤ 57)
def NameOK (s : ByteArray) : Prop := (1 ≤ s.size ∧ s.size ≤ 8) ∧ ∀ (i : Nat) c, s.data.toList[i]? = some c → ChOK i c
open Classical in
noncomputable instance (s : ByteArray) : Decidable (NameOK s) := Classical.propDecidable _
theorem size_list (s : ByteArray) : s.data.toList.length = s.size := by simp
theorem getD_of {α : Type} {l : List α} {i : Nat} {x d : α} (h : l[i]? = some x) : l.getD i d = x := by rw [List.getD_eq_getElem?_getD, h]; rfl
theorem isName_eq (s : ByteArray) : zq21 s = some (decide (NameOK s)) := by
 unfold zq21
 by_cases h1 : 1 ≤ s.size ∧ s.size ≤ 8
 ·have e1 : decide ((s.size : Int) < 1) = false := by simp; omega
  have e2 : decide (8 < (s.size : Int)) = false := by simp; omega
  simp only [e1, e2, Bool.false_eq_true, if_false, Option.bind_some]
  have hsz := size_list s
  have key := all_loop s.data.toList ChOK (step := zq21_L1 s) ?_ ?_ 0 0 rfl (by omega)
  ·rcases key with ⟨g1, g2⟩ | ⟨g1, g2⟩
   ·rw [g1, flb_go]
    have : NameOK s := ⟨h1, fun i c hc => g2 i c (by omega) hc⟩
    simp [this]
   ·rw [g1, flb_ret]
    have : ¬ NameOK s := fun hn => g2 fun i c _ hc => hn.2 i c hc
    simp [this]
  ·intro i x hx
   have hi := (List.getElem?_eq_some_iff.1 hx).1
   have hg : s.data.toList.getD (i : Int).toNat 0 = x := by rw [Int.toNat_natCast]; exact getD_of hx
   have hc : chk ((0 : Int) ≤ (i : Int) ∧ (i : Int) < (s.size : Int)) = some () := chk_of (by omega)
   have hlt : decide ((i : Int) < (s.size : Int)) = true := by simp; omega
   unfold zq21_L1
   simp only [hlt, if_true, hc, hg, Option.bind_some, w64_succ (n := i) (by omega)]
   unfold ChOK
   by_cases a1 : (97 : Int) ≤ (x.toNat : Int)
   ·by_cases a2 : (x.toNat : Int) ≤ 122
    ·left; refine ⟨by simp [a1, a2], .inl ⟨a1, a2⟩⟩
    ·right
     refine ⟨?_, by omega⟩
     have b1 : decide ((x.toNat : Int) < 48) = false := by simp; omega
     have b2 : decide ((57 : Int) < (x.toNat : Int)) = true := by simp; omega
     have c1 : ¬ (x.toNat : Int) < 48 := by omega
     have c2 : (57 : Int) < (x.toNat : Int) := by omega
     by_cases hi0 : i = 0
     ·simp [a1, a2, hi0]
     ·have hi0' : ((i : Int) == 0) = false := by simp; omega
      simp [a1, a2, hi0', c1, c2]
   ·by_cases hi0 : i = 0
    ·right
     refine ⟨by simp [a1, hi0], by omega⟩
    ·have hi0' : ((i : Int) == 0) = false := by simp; omega
     by_cases b1 : (x.toNat : Int) < 48
     ·right
      refine ⟨by simp [a1, hi0', b1], by omega⟩
     ·by_cases b2 : (57 : Int) < (x.toNat : Int)
      ·right
       refine ⟨by simp [a1, hi0', b1, b2], by omega⟩
      ·left
       refine ⟨by simp [a1, hi0', b1, b2], .inr ⟨hi0, by omega, by omega⟩⟩
  ·unfold zq21_L1
   rw [hsz]
   simp
 ·have : ¬ NameOK s := fun h => h1 h.1
  have e : (if (decide ((s.size : Int) < 1)) = true then some true else some (decide (8 < (s.size : Int)))) = some true := by
   by_cases h2 : s.size < 1
   ·have : decide ((s.size : Int) < 1) = true := by simp; omega
    simp [this]
   ·have e1 : decide ((s.size : Int) < 1) = false := by simp; omega
    have e2 : decide (8 < (s.size : Int)) = true := by simp; omega
    simp [e1, e2]
  rw [e]
  simp [this]
theorem l2Name_eq (s : ByteArray) : zq99 s = some (decide (NameOK s)) := by
 unfold zq99
 rw [l1In_eq]
 simp only [Option.bind_some]
 by_cases h1 : 1 ≤ s.size ∧ s.size ≤ 8
 ·have e1 : decide ((1 : Int) ≤ (s.size : Int) ∧ (s.size : Int) ≤ 8) = true := by simp; omega
  have hsz := size_list s
  obtain ⟨x0, hx0⟩ := get_ex (l := s.data.toList) (i := 0) (by omega)
  have hg0 : s.data.toList.getD (0 : Int).toNat 0 = x0 := getD_of hx0
  have hc0 : chk ((0 : Int) ≤ 0 ∧ 0 < (s.size : Int)) = some () := chk_of (by omega)
  simp only [e1, Bool.not_true, Bool.false_eq_true, if_false, hc0, hg0, Option.bind_some]
  by_cases a0 : 97 ≤ (x0.toNat : Int) ∧ (x0.toNat : Int) ≤ 122
  ·have b1 : decide ((x0.toNat : Int) < 97) = false := by simp; omega
   have b2 : decide ((122 : Int) < (x0.toNat : Int)) = false := by simp; omega
   simp only [b1, b2, Bool.false_eq_true, if_false, Option.bind_some]
   have key := all_loop s.data.toList ChOK (step := zq99_L1 s) ?_ ?_ 0 0 rfl (by omega)
   ·rcases key with ⟨g1, g2⟩ | ⟨g1, g2⟩
    ·rw [g1, flb_go]
     have : NameOK s := ⟨h1, fun i c hc => g2 i c (by omega) hc⟩
     simp [this]
    ·rw [g1, flb_ret]
     have : ¬ NameOK s := fun hn => g2 fun i c _ hc => hn.2 i c hc
     simp [this]
   ·intro i x hx
    have hi := (List.getElem?_eq_some_iff.1 hx).1
    have hg : s.data.toList.getD (i : Int).toNat 0 = x := by rw [Int.toNat_natCast]; exact getD_of hx
    have hc : chk ((0 : Int) ≤ (i : Int) ∧ (i : Int) < (s.size : Int)) = some () := chk_of (by omega)
    have hlt : decide ((i : Int) < (s.size : Int)) = true := by simp; omega
    have h0 : i = 0 → x = x0 := fun h => by subst h; rw [hx0] at hx; cases hx; rfl
    unfold zq99_L1
    simp only [hlt, if_true, hc, hg, Option.bind_some, w64_succ (n := i) (by omega)]
    unfold ChOK
    by_cases a1 : (x.toNat : Int) < 97
    ·have hi0 : i ≠ 0 := fun h => by have := h0 h; subst this; omega
     by_cases c1 : (x.toNat : Int) < 48
     ·right; refine ⟨by simp [a1, c1], by omega⟩
     ·by_cases c2 : (57 : Int) < (x.toNat : Int)
      ·right; refine ⟨by simp [a1, c1, c2], by omega⟩
      ·left; refine ⟨by simp [a1, c1, c2], .inr ⟨hi0, by omega, by omega⟩⟩
    ·by_cases a2 : (122 : Int) < (x.toNat : Int)
     ·right
      have c1 : ¬ (x.toNat : Int) < 48 := by omega
      have c2 : (57 : Int) < (x.toNat : Int) := by omega
      refine ⟨by simp [a1, a2, c1, c2], by omega⟩
     ·left; refine ⟨by simp [a1, a2], .inl ⟨by omega, by omega⟩⟩
   ·unfold zq99_L1
    rw [hsz]
    simp
  ·have : ¬ NameOK s := fun hn => by
    have := hn.2 0 x0 hx0
    unfold ChOK at this
    omega
   have e : (if (decide ((x0.toNat : Int) < 97)) = true then some true else some (decide ((122 : Int) < (x0.toNat : Int)))) = some true := by
    by_cases h2 : (x0.toNat : Int) < 97
    ·simp [h2]
    ·have : (122 : Int) < (x0.toNat : Int) := by omega
     simp [h2, this]
   rw [e]
   simp [this]
 ·have e1 : decide ((1 : Int) ≤ (s.size : Int) ∧ (s.size : Int) ≤ 8) = false := by simp; omega
  have : ¬ NameOK s := fun h => h1 h.1
  simp [e1, this]
theorem index_str_eq (l : List ByteArray) (hl : l.length ≤ 4000000000) (v : ByteArray) : zq115 l v = some (fixI (fun e => v.toList == e.toList) l) := by
 unfold zq115
 refine find_val l (fun e => v.toList == e.toList) (fun i x hx => ?_) (by unfold zq115_L1; simp)
 have hi := (List.getElem?_eq_some_iff.1 hx).1
 unfold zq115_L1
 have hlt : decide ((i : Int) < (l.length : Int)) = true := by simp; omega
 simp only [hlt, if_true, idx_nat, hx, Option.bind_some, w64_succ (n := i) (by omega)]
 split <;> rfl
theorem index_int_eq (l : List Int) (hl : l.length ≤ 4000000000) (v : Int) : zq114 l v = some (fixI (fun e => v == e) l) := by
 unfold zq114
 refine find_val l (fun e => v == e) (fun i x hx => ?_) (by unfold zq114_L1; simp)
 have hi := (List.getElem?_eq_some_iff.1 hx).1
 unfold zq114_L1
 have hlt : decide ((i : Int) < (l.length : Int)) = true := by simp; omega
 simp only [hlt, if_true, idx_nat, hx, Option.bind_some, w64_succ (n := i) (by omega)]
 split <;> rfl
theorem l2Place_eq (x : Line) (hl : x.Stops.length ≤ 4000000000) (v : Int) : zq102 x v = some (fixI (fun e => v == e) x.Stops) := by
 have hc : fixI (fun e => v == e) x.Stops = fixI (fun e => e == v) x.Stops := fixI_congr _ fun e => BEq.comm
 rw [hc]
 unfold zq102
 refine find_val x.Stops (fun e => e == v) (fun i y hx => ?_) (by unfold zq102_L1; simp)
 have hi := (List.getElem?_eq_some_iff.1 hx).1
 unfold zq102_L1
 have hlt : decide ((i : Int) < (x.Stops.length : Int)) = true := by simp; omega
 simp only [hlt, if_true, idx_nat, hx, Option.bind_some, w64_succ (n := i) (by omega)]
 split <;> rfl
theorem bl_comm (a b : List UInt8) : (a == b) = (b == a) := BEq.comm
theorem l2Find_eq (l : List ByteArray) (hl : l.length ≤ 4000000000) (v : ByteArray) : zq95 l v = some (fixI (fun e => v.toList == e.toList) l) := by
 rw [fixI_congr l (q := fun e => e.toList == v.toList) fun e => bl_comm _ _]
 unfold zq95
 refine find_val l (fun e => e.toList == v.toList) (fun i x hx => ?_) (by unfold zq95_L1; simp)
 have hi := (List.getElem?_eq_some_iff.1 hx).1
 unfold zq95_L1
 have hlt : decide ((i : Int) < (l.length : Int)) = true := by simp; omega
 simp only [hlt, if_true, idx_nat, hx, Option.bind_some, w64_succ (n := i) (by omega)]
 split <;> rfl
theorem l2LineNamed_eq (n : Network) (hl : n.Lines.length ≤ 4000000000) (v : ByteArray) : zq98 n v = some (fixI (fun e => v.toList == e.toList) (n.Lines.map (·.Name))) := by
 rw [fixI_map, fixI_congr n.Lines (q := fun e => e.Name.toList == v.toList) fun e => bl_comm _ _]
 unfold zq98
 refine find_val n.Lines (fun e => e.Name.toList == v.toList) (fun i x hx => ?_) (by unfold zq98_L1; simp)
 have hi := (List.getElem?_eq_some_iff.1 hx).1
 unfold zq98_L1
 have hlt : decide ((i : Int) < (n.Lines.length : Int)) = true := by simp; omega
 simp only [hlt, if_true, idx_nat, hx, Option.bind_some, w64_succ (n := i) (by omega)]
 split <;> rfl
def NamesP (l : List ByteArray) : Prop := ∀ (i : Nat) x, l[i]? = some x → NameOK x ∧ fixI (fun e => x.toList == e.toList) l = (i : Int)
def LineP (st : Nat) (x : Line) : Prop := (2 ≤ x.Stops.length ∧ x.Stops.length ≤ 6) ∧ (x.Runs.length : Int) = (x.Stops.length : Int) - 1 ∧
 (∀ (i : Nat) e, x.Stops[i]? = some e → (0 ≤ e ∧ e < (st : Int)) ∧ fixI (fun y => e == y) x.Stops = (i : Int)) ∧ ∀ (i : Nat) r, x.Runs[i]? = some r → 1 ≤ r ∧ r ≤ 60
def Good (n : Network) : Prop := (2 ≤ n.Stops.length ∧ n.Stops.length ≤ 8) ∧ (1 ≤ n.Lines.length ∧ n.Lines.length ≤ 5) ∧ NamesP n.Stops ∧ NamesP (n.Lines.map (·.Name)) ∧ ∀ (i : Nat) x, n.Lines[i]? = some x → LineP n.Stops.length x
noncomputable instance (l : List ByteArray) : Decidable (NamesP l) := Classical.propDecidable _
noncomputable instance (st : Nat) (x : Line) : Decidable (LineP st x) := Classical.propDecidable _
noncomputable instance (n : Network) : Decidable (Good n) := Classical.propDecidable _
def Bd (n : Network) : Prop := n.Stops.length ≤ 1000 ∧ n.Lines.length ≤ 1000 ∧ ∀ x ∈ n.Lines, x.Stops.length ≤ 1000 ∧ x.Runs.length ≤ 1000
theorem areNames_eq (l : List ByteArray) (hl : l.length ≤ 1000) : zq11 l = some (decide (NamesP l)) := by
 unfold zq11
 rw [all_val (hd := Classical.propDecidable _) l (fun i x => NameOK x ∧ fixI (fun e => x.toList == e.toList) l = (i : Int)) (fun i x hx => ?_) (by unfold zq11_L1; simp)]
 ·by_cases h : NamesP l
  ·rw [if_pos (show ∀ (i : Nat) x, l[i]? = some x → NameOK x ∧ fixI (fun e => x.toList == e.toList) l = (i : Int) from h)]; simp [h]
  ·rw [if_neg (show ¬ ∀ (i : Nat) x, l[i]? = some x → NameOK x ∧ fixI (fun e => x.toList == e.toList) l = (i : Int) from h)]; simp [h]
 ·have hi := (List.getElem?_eq_some_iff.1 hx).1
  unfold zq11_L1
  have hlt : decide ((i : Int) < (l.length : Int)) = true := by simp; omega
  simp only [hlt, if_true, idx_nat, hx, Option.bind_some, isName_eq, index_str_eq l (by omega), w64_succ (n := i) (by omega)]
  by_cases h1 : NameOK x
  ·by_cases h2 : fixI (fun e => x.toList == e.toList) l = (i : Int)
   ·left; simp [h1, h2]
   ·right; simp [h1, h2]
  ·right; simp [h1]
theorem lineNames_eq (n : Network) (hl : n.Lines.length ≤ 1000) : zq29 n = some (n.Lines.map (·.Name)) := by
 unfold zq29
 rw [chk_of (by omega)]
 simp only [Option.bind_some]
 rw [fill_loop (fun x : Line => x.Name) n.Lines _ (by simp) (fun i a x y ha hy hx => ?_) (fun a ha => ?_)]
 ·rfl
 ·have hi := (List.getElem?_eq_some_iff.1 hx).1
  unfold zq29_L1
  have hlt : decide ((i : Int) < (n.Lines.length : Int)) = true := by simp; omega
  simp only [hlt, if_true, idx_nat, hx, hy, Option.bind_some, w64_succ (n := i) (by omega), Int.toNat_natCast]
 ·unfold zq29_L1; simp
theorem isStop_eq (n : Network) (e : Int) : zq25 n e = some (decide (0 ≤ e ∧ e < (n.Stops.length : Int))) := by
 unfold zq25
 by_cases h : 0 ≤ e <;> simp [h]
theorem isLine_eq (n : Network) (e : Int) : zq20 n e = some (decide (0 ≤ e ∧ e < (n.Lines.length : Int))) := by
 unfold zq20
 by_cases h : 0 ≤ e <;> simp [h]
theorem isValidLine_eq (n : Network) (l : Line) (h1 : l.Stops.length ≤ 1000) (h2 : l.Runs.length ≤ 1000) : zq26 n l = some (decide (LineP n.Stops.length l)) := by
 unfold zq26
 rw [within_eq]
 have e0 : w64 ((l.Stops.length : Int) - 1) = (l.Stops.length : Int) - 1 := w64_id (by omega)
 simp only [Option.bind_some, e0]
 by_cases a1 : 2 ≤ l.Stops.length ∧ l.Stops.length ≤ 6
 ·have d1 : decide ((2 : Int) ≤ (l.Stops.length : Int) ∧ (l.Stops.length : Int) ≤ 6) = true := by simp; omega
  simp only [d1, Bool.not_true, Bool.false_eq_true, if_false]
  by_cases a2 : (l.Runs.length : Int) = (l.Stops.length : Int) - 1
  ·have d2 : ((l.Runs.length : Int) != (l.Stops.length : Int) - 1) = false := by simp [a2]
   simp only [d2, Option.bind_some, Bool.false_eq_true, if_false]
   rw [all_val (hd := Classical.propDecidable _) l.Stops (fun i e => (0 ≤ e ∧ e < (n.Stops.length : Int)) ∧ fixI (fun y => e == y) l.Stops = (i : Int)) (fun i x hx => ?_) (by unfold zq26_L1; simp)]
   ·rw [all_val (hd := Classical.propDecidable _) l.Runs (fun i r => 1 ≤ r ∧ r ≤ 60) (fun i x hx => ?_) (by unfold zq26_L2; simp)]
    ·by_cases b1 : ∀ (i : Nat) e, l.Stops[i]? = some e → (0 ≤ e ∧ e < (n.Stops.length : Int)) ∧ fixI (fun y => e == y) l.Stops = (i : Int)
     ·rw [if_pos b1]
      by_cases b2 : ∀ (i : Nat) r, l.Runs[i]? = some r → 1 ≤ r ∧ r ≤ 60
      ·rw [if_pos b2]
       have : LineP n.Stops.length l := ⟨a1, a2, b1, b2⟩
       simp [this]
      ·rw [if_neg b2]
       have : ¬ LineP n.Stops.length l := fun h => b2 h.2.2.2
       simp [this]
     ·rw [if_neg b1]
      have : ¬ LineP n.Stops.length l := fun h => b1 h.2.2.1
      simp [this]
    ·have hi := (List.getElem?_eq_some_iff.1 hx).1
     unfold zq26_L2
     have hlt : decide ((i : Int) < (l.Runs.length : Int)) = true := by simp; omega
     simp only [hlt, if_true, idx_nat, hx, Option.bind_some, within_eq, w64_succ (n := i) (by omega)]
     by_cases b : 1 ≤ x ∧ x ≤ 60
     ·left; simp [b]
     ·right; simp [b]
   ·have hi := (List.getElem?_eq_some_iff.1 hx).1
    unfold zq26_L1
    have hlt : decide ((i : Int) < (l.Stops.length : Int)) = true := by simp; omega
    simp only [hlt, if_true, idx_nat, hx, Option.bind_some, isStop_eq, index_int_eq l.Stops (by omega), w64_succ (n := i) (by omega)]
    by_cases b1 : 0 ≤ x ∧ x < (n.Stops.length : Int)
    ·by_cases b2 : fixI (fun y => x == y) l.Stops = (i : Int)
     ·left; simp [b1, b2]
     ·right; simp [b1, b2]
    ·right; simp [b1]
  ·have d2 : ((l.Runs.length : Int) != (l.Stops.length : Int) - 1) = true := by simp [a2]
   have : ¬ LineP n.Stops.length l := fun h => a2 h.2.1
   simp [d2, this]
 ·have d1 : decide ((2 : Int) ≤ (l.Stops.length : Int) ∧ (l.Stops.length : Int) ≤ 6) = false := by simp; omega
  have : ¬ LineP n.Stops.length l := fun h => a1 h.1
  simp [d1, this]
theorem l2Line_eq (l : Line) (st : Nat) (hst : st ≤ 1000) (h1 : l.Stops.length ≤ 1000) (h2 : l.Runs.length ≤ 1000) : zq97 l (st : Int) = some (decide (NameOK l.Name ∧ LineP st l)) := by
 unfold zq97
 rw [l2Name_eq]
 have e0 : w64 ((l.Stops.length : Int) - 1) = (l.Stops.length : Int) - 1 := w64_id (by omega)
 have e1 : w64 ((st : Int) - 1) = (st : Int) - 1 := w64_id (by omega)
 simp only [Option.bind_some, e0, l1In_eq]
 by_cases a0 : NameOK l.Name
 ·simp only [a0, decide_true, Bool.not_true, Bool.false_eq_true, if_false, true_and]
  by_cases a1 : 2 ≤ l.Stops.length ∧ l.Stops.length ≤ 6
  ·have d1 : decide ((2 : Int) ≤ (l.Stops.length : Int) ∧ (l.Stops.length : Int) ≤ 6) = true := by simp; omega
   simp only [d1, Bool.not_true, Bool.false_eq_true, if_false]
   by_cases a2 : (l.Runs.length : Int) = (l.Stops.length : Int) - 1
   ·have d2 : ((l.Runs.length : Int) != (l.Stops.length : Int) - 1) = false := by simp [a2]
    simp only [d2, Option.bind_some, Bool.false_eq_true, if_false]
    rw [all_val (hd := Classical.propDecidable _) l.Stops (fun i e => (0 ≤ e ∧ e < (st : Int)) ∧ fixI (fun y => e == y) l.Stops = (i : Int)) (fun i x hx => ?_) (by unfold zq97_L1; simp)]
    ·rw [all_val (hd := Classical.propDecidable _) l.Runs (fun i r => 1 ≤ r ∧ r ≤ 60) (fun i x hx => ?_) (by unfold zq97_L2; simp)]
     ·by_cases b1 : ∀ (i : Nat) e, l.Stops[i]? = some e → (0 ≤ e ∧ e < (st : Int)) ∧ fixI (fun y => e == y) l.Stops = (i : Int)
      ·rw [if_pos b1]
       by_cases b2 : ∀ (i : Nat) r, l.Runs[i]? = some r → 1 ≤ r ∧ r ≤ 60
       ·rw [if_pos b2]
        have : LineP st l := ⟨a1, a2, b1, b2⟩
        simp [this]
       ·rw [if_neg b2]
        have : ¬ LineP st l := fun h => b2 h.2.2.2
        simp [this]
      ·rw [if_neg b1]
       have : ¬ LineP st l := fun h => b1 h.2.2.1
       simp [this]
     ·have hi := (List.getElem?_eq_some_iff.1 hx).1
      unfold zq97_L2
      have hlt : decide ((i : Int) < (l.Runs.length : Int)) = true := by simp; omega
      simp only [hlt, if_true, idx_nat, hx, Option.bind_some, l1In_eq, w64_succ (n := i) (by omega)]
      by_cases b : 1 ≤ x ∧ x ≤ 60
      ·left; simp [b]
      ·right; simp [b]
    ·have hi := (List.getElem?_eq_some_iff.1 hx).1
     unfold zq97_L1
     have hlt : decide ((i : Int) < (l.Stops.length : Int)) = true := by simp; omega
     simp only [hlt, if_true, idx_nat, hx, Option.bind_some, l1In_eq, e1, l2Place_eq l (by omega), w64_succ (n := i) (by omega)]
     by_cases b1 : 0 ≤ x ∧ x < (st : Int)
     ·have d3 : decide (0 ≤ x ∧ x ≤ (st : Int) - 1) = true := by simp; omega
      by_cases b2 : fixI (fun y => x == y) l.Stops = (i : Int)
      ·left; simp only [d3]; simp [b1, b2]
      ·right; simp only [d3]; simp [b1, b2]
     ·have d3 : decide (0 ≤ x ∧ x ≤ (st : Int) - 1) = false := by simp; omega
      right; simp only [d3]; simp [b1]
   ·have d2 : ((l.Runs.length : Int) != (l.Stops.length : Int) - 1) = true := by simp [a2]
    have : ¬ LineP st l := fun h => a2 h.2.1
    simp [d2, this]
  ·have d1 : decide ((2 : Int) ≤ (l.Stops.length : Int) ∧ (l.Stops.length : Int) ≤ 6) = false := by simp; omega
   have : ¬ LineP st l := fun h => a1 h.1
   simp [d1, this]
 ·simp [a0]
theorem valid_eq (n : Network) (h : Bd n) : zq3 n = some (decide (Good n)) := by
 obtain ⟨h1, h2, h3⟩ := h
 unfold zq3
 simp only [within_eq, Option.bind_some, areNames_eq n.Stops h1, lineNames_eq n h2, areNames_eq (n.Lines.map (·.Name)) (by simpa using h2)]
 by_cases a1 : 2 ≤ n.Stops.length ∧ n.Stops.length ≤ 8
 ·have d1 : decide ((2 : Int) ≤ (n.Stops.length : Int) ∧ (n.Stops.length : Int) ≤ 8) = true := by simp; omega
  simp only [d1, Bool.not_true, Bool.false_eq_true, if_false]
  by_cases a2 : 1 ≤ n.Lines.length ∧ n.Lines.length ≤ 5
  ·have d2 : decide ((1 : Int) ≤ (n.Lines.length : Int) ∧ (n.Lines.length : Int) ≤ 5) = true := by simp; omega
   simp only [d2, Bool.not_true, Bool.false_eq_true, if_false]
   by_cases a3 : NamesP n.Stops
   ·simp only [a3, decide_true, Bool.not_true, Bool.false_eq_true, if_false]
    by_cases a4 : NamesP (n.Lines.map (·.Name))
    ·simp only [a4, decide_true, Bool.not_true, Option.bind_some, Bool.false_eq_true, if_false]
     rw [all_val (hd := Classical.propDecidable _) n.Lines (fun i x => LineP n.Stops.length x) (fun i x hx => ?_) (by unfold zq3_L1; simp)]
     ·by_cases b1 : ∀ (i : Nat) x, n.Lines[i]? = some x → LineP n.Stops.length x
      ·rw [if_pos b1]
       have : Good n := ⟨a1, a2, a3, a4, b1⟩
       simp [this]
      ·rw [if_neg b1]
       have : ¬ Good n := fun h => b1 h.2.2.2.2
       simp [this]
     ·have hi := (List.getElem?_eq_some_iff.1 hx).1
      obtain ⟨g1, g2⟩ := h3 x (List.mem_of_getElem? hx)
      unfold zq3_L1
      have hlt : decide ((i : Int) < (n.Lines.length : Int)) = true := by simp; omega
      simp only [hlt, if_true, idx_nat, hx, Option.bind_some, isValidLine_eq n x g1 g2, w64_succ (n := i) (by omega)]
      by_cases b : LineP n.Stops.length x
      ·left; simp [b]
      ·right; simp [b]
    ·have : ¬ Good n := fun h => a4 h.2.2.2.1
     simp [a4, this]
   ·have : ¬ Good n := fun h => a3 h.2.2.1
    simp [a3, this]
  ·have d2 : decide ((1 : Int) ≤ (n.Lines.length : Int) ∧ (n.Lines.length : Int) ≤ 5) = false := by simp; omega
   have : ¬ Good n := fun h => a2 h.2.1
   simp [d2, this]
 ·have d1 : decide ((2 : Int) ≤ (n.Stops.length : Int) ∧ (n.Stops.length : Int) ≤ 8) = false := by simp; omega
  have : ¬ Good n := fun h => a1 h.1
  simp [d1, this]
theorem good_eq (n : Network) (h : Bd n) : zq96 n = some (decide (Good n)) := by
 obtain ⟨h1, h2, h3⟩ := h
 unfold zq96
 simp only [l1In_eq, Option.bind_some]
 by_cases a1 : 2 ≤ n.Stops.length ∧ n.Stops.length ≤ 8
 ·have d1 : decide ((2 : Int) ≤ (n.Stops.length : Int) ∧ (n.Stops.length : Int) ≤ 8) = true := by simp; omega
  simp only [d1, Bool.not_true, Bool.false_eq_true, if_false]
  by_cases a2 : 1 ≤ n.Lines.length ∧ n.Lines.length ≤ 5
  ·have d2 : decide ((1 : Int) ≤ (n.Lines.length : Int) ∧ (n.Lines.length : Int) ≤ 5) = true := by simp; omega
   simp only [d2, Bool.not_true, Option.bind_some, Bool.false_eq_true, if_false]
   rw [all_val (hd := Classical.propDecidable _) n.Stops (fun i x => NameOK x ∧ fixI (fun e => x.toList == e.toList) n.Stops = (i : Int)) (fun i x hx => ?_) (by unfold zq96_L1; simp)]
   ·rw [all_val (hd := Classical.propDecidable _) n.Lines (fun i x => (NameOK x.Name ∧ LineP n.Stops.length x) ∧ fixI (fun e => x.Name.toList == e.toList) (n.Lines.map (·.Name)) = (i : Int)) (fun i x hx => ?_) (by unfold zq96_L2; simp)]
    ·by_cases b1 : NamesP n.Stops
     ·rw [if_pos (show ∀ (i : Nat) x, n.Stops[i]? = some x → NameOK x ∧ fixI (fun e => x.toList == e.toList) n.Stops = (i : Int) from b1)]
      by_cases b2 : ∀ (i : Nat) x, n.Lines[i]? = some x → (NameOK x.Name ∧ LineP n.Stops.length x) ∧ fixI (fun e => x.Name.toList == e.toList) (n.Lines.map (·.Name)) = (i : Int)
      ·rw [if_pos b2]
       have : Good n := ⟨a1, a2, b1, fun i y hy => by
        rw [List.getElem?_map] at hy
        obtain ⟨x, hx, rfl⟩ := Option.map_eq_some_iff.1 hy
        exact ⟨(b2 i x hx).1.1, (b2 i x hx).2⟩, fun i x hx => (b2 i x hx).1.2⟩
       simp [this]
      ·rw [if_neg b2]
       have : ¬ Good n := fun h => b2 fun i x hx => by
        have h4 := h.2.2.2.1 i x.Name (by rw [List.getElem?_map, hx]; rfl)
        exact ⟨⟨h4.1, h.2.2.2.2 i x hx⟩, h4.2⟩
       simp [this]
     ·rw [if_neg (show ¬ ∀ (i : Nat) x, n.Stops[i]? = some x → NameOK x ∧ fixI (fun e => x.toList == e.toList) n.Stops = (i : Int) from b1)]
      have : ¬ Good n := fun h => b1 h.2.2.1
      simp [this]
    ·have hi := (List.getElem?_eq_some_iff.1 hx).1
     obtain ⟨g1, g2⟩ := h3 x (List.mem_of_getElem? hx)
     unfold zq96_L2
     have hlt : decide ((i : Int) < (n.Lines.length : Int)) = true := by simp; omega
     simp only [hlt, if_true, idx_nat, hx, Option.bind_some, l2Line_eq x n.Stops.length h1 g1 g2, l2LineNamed_eq n (by omega), w64_succ (n := i) (by omega)]
     by_cases b1 : NameOK x.Name ∧ LineP n.Stops.length x
     ·by_cases b2 : fixI (fun e => x.Name.toList == e.toList) (n.Lines.map (·.Name)) = (i : Int)
      ·left; simp [b1, b2]
      ·right; simp [b1, b2]
     ·right; simp [b1]
   ·have hi := (List.getElem?_eq_some_iff.1 hx).1
    unfold zq96_L1
    have hlt : decide ((i : Int) < (n.Stops.length : Int)) = true := by simp; omega
    simp only [hlt, if_true, idx_nat, hx, Option.bind_some, l2Name_eq, l2Find_eq n.Stops (by omega), w64_succ (n := i) (by omega)]
    by_cases b1 : NameOK x
    ·by_cases b2 : fixI (fun e => x.toList == e.toList) n.Stops = (i : Int)
     ·left; simp [b1, b2]
     ·right; simp [b1, b2]
    ·right; simp [b1]
  ·have d2 : decide ((1 : Int) ≤ (n.Lines.length : Int) ∧ (n.Lines.length : Int) ≤ 5) = false := by simp; omega
   have : ¬ Good n := fun h => a2 h.2.1
   simp [d2, this]
 ·have d1 : decide ((2 : Int) ≤ (n.Stops.length : Int) ∧ (n.Stops.length : Int) ≤ 8) = false := by simp; omega
  have : ¬ Good n := fun h => a1 h.1
  simp [d1, this]
theorem l1Own_eq (l : List Int) (h : l.length ≤ 1000) : zq92 l = some l := by
 unfold zq92
 rw [chk_of (by simp; omega)]; rfl
theorem l2Own_eq (n : Network) (h : Bd n) : zq100 n = some n := by
 obtain ⟨h1, h2, h3⟩ := h
 unfold zq100
 rw [chk_of (by simp; omega)]
 simp only [Option.bind_some]
 rw [app_loop (fun x : Line => x) n.Lines (fun i a x ha hx => ?_) (fun a ha => ?_)]
 ·simp only [Option.bind_some, List.map_id', List.nil_append]
 ·have hi := (List.getElem?_eq_some_iff.1 hx).1
  obtain ⟨g1, g2⟩ := h3 x (List.mem_of_getElem? hx)
  unfold zq100_L1
  have hlt : decide ((i : Int) < (n.Lines.length : Int)) = true := by simp; omega
  have hch : ∀ y : Line, chk (a.length + ([y] : List Line).length ≤ 4294967296) = some () := fun y => chk_of (by simp; omega)
  simp only [hlt, if_true, idx_nat, hx, Option.bind_some, l1Own_eq _ g1, l1Own_eq _ g2, hch, w64_succ (n := i) (by omega)]
 ·unfold zq100_L1; simp
theorem l2Own_t_eq (n : Network) (h : Bd n) : zq101 n = some n := by
 have : zq101 n = zq100 n := rfl
 rw [this]; exact l2Own_eq n h
theorem l2Back_eq (s : List Int) (hs : s.length ≤ 1000) : zq93 s = some s.reverse := by
 unfold zq93
 have e0 : w64 ((s.length : Int) - 1) = (s.length : Int) - 1 := w64_id (by omega)
 rw [e0]
 have h := iter_rule (step := zq93_L1 s) (fun m a => ∃ j : Nat, a.1 = (s.length : Int) - 1 - j ∧ m + j = s.length ∧ a.2 = s.reverse.take j) (fun b => b = s.reverse) ?_ (k := s.length) (a := ((s.length : Int) - 1, [])) ⟨0, by simp, by omega, by simp⟩
 ·obtain ⟨b, hb, rfl⟩ := h
  rw [hb]; rfl
 rintro m ⟨v, i⟩ ⟨j, hv, hm, hi⟩
 simp only at hv hi
 subst hv
 by_cases hlt : j < s.length
 ·left
  have ev : (s.length : Int) - 1 - j = ((s.length - 1 - j : Nat) : Int) := by omega
  rw [ev]
  obtain ⟨e, he⟩ := get_ex (l := s) (i := s.length - 1 - j) (by omega)
  have hd : decide ((0 : Int) ≤ ((s.length - 1 - j : Nat) : Int)) = true := by simp
  have hlen : i.length = j := by rw [hi]; simp; omega
  have hch : chk (i.length + ([e] : List Int).length ≤ 4294967296) = some () := chk_of (by simp; omega)
  have ev2 : w64 (((s.length - 1 - j : Nat) : Int) - 1) = (s.length : Int) - 1 - ((j + 1 : Nat) : Int) := by rw [w64_id (by omega)]; omega
  refine ⟨((s.length : Int) - 1 - ((j + 1 : Nat) : Int), i ++ [e]), m - 1, ?_, by omega, j + 1, rfl, by omega, ?_⟩
  ·unfold zq93_L1
   simp only [hd, if_true, idx_nat, he, hch, Option.bind_some, ev2]
  ·show i ++ [e] = _
   rw [take_succ (x := e) (by rw [List.getElem?_reverse hlt]; exact he), hi]
 ·right
  have ej : j = s.length := by omega
  subst ej
  have hd : decide ((0 : Int) ≤ (s.length : Int) - 1 - (s.length : Int)) = false := by simp; omega
  refine ⟨i, by unfold zq93_L1; simp only [hd, Bool.false_eq_true, if_false], ?_⟩
  rw [hi, List.take_of_length_le (by simp)]
theorem l2BackF_eq (s : List Int) (hs : s.length ≤ 1000) : zq94 s = some s.reverse := l2Back_eq s hs
def LB (x : Line) : Prop := (2 ≤ x.Stops.length ∧ x.Stops.length ≤ 10) ∧ 1 ≤ x.Runs.length ∧ x.Runs.length ≤ 10
def NB (n : Network) : Prop := (2 ≤ n.Stops.length ∧ n.Stops.length ≤ 6) ∧ (1 ≤ n.Lines.length ∧ n.Lines.length ≤ 8) ∧ ∀ x ∈ n.Lines, LB x
theorem NB.bd {n : Network} (h : NB n) : Bd n := ⟨by have := h.1; omega, by have := h.2.1; omega, fun x hx => by have := h.2.2 x hx; unfold LB at this; omega⟩
theorem l1Num_ok (n : Int) (h0 : 0 ≤ n) (h1 : n < 10) : ∃ r, zq90 n = some r ∧ r.size ≤ 10 := by
 have e : zq90 n = zq90_F (zq90_k 4294967295) n := rfl
 rw [e]
 unfold zq90_F
 have d1 : decide (n < 0) = false := by simp; omega
 have d2 : decide (n < 10) = true := by simp; omega
 have e1 : w64 (n + 1) = n + 1 := w64_id (by omega)
 have hs : (str [48, 49, 50, 51, 52, 53, 54, 55, 56, 57]).size = 10 := rfl
 simp only [d1, d2, Bool.false_eq_true, if_false, if_true, e1, hs]
 rw [chk_of (by omega)]
 refine ⟨_, rfl, ?_⟩
 rw [ByteArray.size_extract, hs]
 omega
theorem line_ok {k : Nat} {c : l1Cur} (name : ByteArray) (stops : Int) (hs : 2 ≤ stops ∧ stops ≤ 1000) (h : Cur k c) (hk : k ≤ 1000000000) : ∃ r, zq72 c name stops = some r ∧ Cur (k + 40) r.2 ∧ LB r.1 := by
 unfold zq72
 obtain ⟨r, hr, hc, h0, h1⟩ := pick_ok stops h (by omega)
 obtain ⟨r1, hr1, hc1, h10, h11⟩ := pick_ok 3 hc (by omega)
 simp only [hr, hr1, Option.bind_some]
 have e1 : w64 (2 + r1.1) = ((2 + r1.1.toNat : Nat) : Int) := by rw [w64_id (by omega)]; omega
 rw [e1]
 have loop : ∃ b, iter (zq72_L1 name stops) (r.1, ((2 + r1.1.toNat : Nat) : Int), r1.2.code_, r1.2.at_, r1.2.seed_.v, []) = some b ∧ (Cur (k + 4 + 2 * 4) ⟨b.1, b.2.1, ⟨b.2.2.1⟩⟩ ∧ 1 ≤ b.2.2.2.length ∧ b.2.2.2.length ≤ 4) := by
  refine iter_rule (fun m a => (0 ≤ a.1 ∧ a.1 < stops) ∧ a.2.1 = (m : Int) ∧ m + a.2.2.2.2.2.length ≤ 4 ∧ (1 ≤ m ∨ 1 ≤ a.2.2.2.2.2.length) ∧ Cur (k + 4 + 2 * (4 - m)) ⟨a.2.2.1, a.2.2.2.1, ⟨a.2.2.2.2.1⟩⟩) _ ?_ (k := 2 + r1.1.toNat) ⟨⟨h0, by show r.1 < stops; omega⟩, rfl, by simp; omega, .inl (by omega), hc1.mono (by omega)⟩
  rintro m ⟨v, v1, v2, v3, v4, v5⟩ ⟨hv, hv1, hl, hne, hcur⟩
  simp only at hv hv1 hl hne hcur
  subst hv1
  unfold zq72_L1
  cases m with
  | zero => right; exact ⟨_, by simp; rfl, hcur, by show 1 ≤ v5.length; omega, by show v5.length ≤ 4; omega⟩
  | succ m =>
   left
   have hpos : decide ((0 : Int) < ((m + 1 : Nat) : Int)) = true := by simp
   obtain ⟨r3, hr3, hc3, h30, h31⟩ := pick_ok 2 hcur (by omega)
   have hpl := l2Place_eq (⟨name, v5, []⟩ : Line) (by show v5.length ≤ _; omega) v
   have hch : chk (v5.length + ([v] : List Int).length ≤ 4294967296) = some () := chk_of (by simp; omega)
   have hne0 : chk (stops ≠ 0) = some () := chk_of (by omega)
   have w1 : w64 (v + 1) = v + 1 := w64_id (by omega)
   have w2 : w64 (v + 1 + r3.1) = v + 1 + r3.1 := w64_id (by omega)
   have ht := tmod_rng (a := v + 1 + r3.1) (b := stops) (by omega) (by omega)
   simp only [hpos, if_true, hpl, hch, hr3, hne0, w1, w2, Option.bind_some]
   have w3 : w64 (((m + 1 : Nat) : Int) - 1) = (m : Int) := w64_pred (by omega)
   split
   ·refine ⟨_, m, by simp only [Option.bind_some]; rfl, by omega, ht, w3, ?_, .inr ?_, ?_⟩
    ·simp; omega
    ·simp
    ·exact hc3.mono (by omega)
   ·rename_i hn
    refine ⟨_, m, by simp only [Option.bind_some]; rfl, by omega, ht, w3, ?_, .inr ?_, ?_⟩
    ·show m + v5.length ≤ 4; omega
    ·show 1 ≤ v5.length
     cases v5 with
     | nil => simp [fixI] at hn
     | cons a l => simp
    ·exact hc3.mono (by omega)
 obtain ⟨⟨v7, v8, v9, v10⟩, hb, hcb, hlb⟩ := loop
 simp only at hcb hlb
 rw [hb]
 simp only [Option.bind_some]
 -- at least two stops
 have two : ∃ v11 : List Int, (if decide ((v10.length : Int) < 2) = true then (idx v10 0).bind fun e1 => (chk ((stops : Int) ≠ 0)).bind fun u4 => (chk (v10.length + ([((w64 (e1 + 1)).tmod stops)] : List Int).length ≤ 4294967296)).bind fun u5 => some (v10 ++ ([((w64 (e1 + 1)).tmod stops)] : List Int)) else some v10) = some v11 ∧ 2 ≤ v11.length ∧ v11.length ≤ 5 := by
  by_cases h2 : (v10.length : Int) < 2
  ·obtain ⟨e, he, _⟩ := idx_lt (l := v10) (i := 0) (by omega) (by omega)
   have hch : ∀ y : Int, chk (v10.length + ([y] : List Int).length ≤ 4294967296) = some () := fun y => chk_of (by simp; omega)
   have hne0 : chk (stops ≠ 0) = some () := chk_of (by omega)
   refine ⟨v10 ++ [(w64 (e + 1)).tmod stops], by simp only [h2, decide_true, if_true, he, hne0, hch, Option.bind_some], ?_, ?_⟩
   ·simp; omega
   ·simp; omega
  ·exact ⟨v10, by simp [h2], by omega, by omega⟩
 obtain ⟨v11, hv11, l1, l2⟩ := two
 rw [hv11]
 simp only [Option.bind_some]
 have loop2 : ∃ b, iter (zq72_L2 v11) (1, v7, v8, v9, []) = some b ∧ (Cur (k + 40) ⟨b.1, b.2.1, ⟨b.2.2.1⟩⟩ ∧ b.2.2.2.length + 1 = v11.length) := by
  refine iter_rule (fun m a => ∃ i : Nat, a.1 = (i : Int) ∧ m + i = v11.length ∧ a.2.2.2.2.length + 1 = i ∧ Cur (k + 12 + 2 * i) ⟨a.2.1, a.2.2.1, ⟨a.2.2.2.1⟩⟩) _ ?_ (k := v11.length - 1) ⟨1, rfl, by omega, rfl, hcb.mono (by omega)⟩
  rintro m ⟨v12, v13, v14, v15, v16⟩ ⟨i, hi, hm, hl, hcur⟩
  simp only at hi hl hcur
  subst hi
  unfold zq72_L2
  by_cases hlt : i < v11.length
  ·left
   have hd : decide ((i : Int) < (v11.length : Int)) = true := by simp; omega
   obtain ⟨r5, hr5, hc5, _⟩ := pick_ok 12 hcur (by omega)
   have hch : ∀ y : Int, chk (v16.length + ([y] : List Int).length ≤ 4294967296) = some () := fun y => chk_of (by simp; omega)
   refine ⟨_, m - 1, by simp only [hd, if_true, hr5, hch, Option.bind_some, w64_succ (n := i) (by omega)]; rfl, by omega, i + 1, rfl, by omega, ?_, ?_⟩
   ·simp; omega
   ·exact hc5.mono (by omega)
  ·right
   have hd : decide ((i : Int) < (v11.length : Int)) = false := by simp; omega
   refine ⟨_, by simp only [hd, Bool.false_eq_true, if_false]; rfl, ?_, ?_⟩
   ·exact hcur.mono (by omega)
   ·show v16.length + 1 = _; omega
 obtain ⟨⟨v17, v18, v19, v20⟩, hb2, hcb2, hl2⟩ := loop2
 simp only at hcb2 hl2
 rw [hb2]
 simp only [Option.bind_some]
 exact ⟨_, rfl, hcb2, ⟨l1, by show v11.length ≤ 10; omega⟩, by show 1 ≤ v20.length; omega, by show v20.length ≤ 10; omega⟩
theorem lineF_ok {k : Nat} {c : l1Cur} (name : ByteArray) (stops : Int) (hs : 2 ≤ stops ∧ stops ≤ 1000) (h : Cur k c) (hk : k ≤ 1000000000) : ∃ r, zq73 c name stops = some r ∧ Cur (k + 40) r.2 ∧ LB r.1 := line_ok name stops hs h hk
theorem six_len (i : Nat) (h2 : 2 ≤ i) (h6 : i ≤ 6) (l : List ByteArray) (hl : l.length = 6) : 2 ≤ ((l.take i).drop (0 : Int).toNat).length ∧ ((l.take i).drop (0 : Int).toNat).length ≤ 6 := by
 simp; omega
theorem networkT_ok {k : Nat} {c : l1Cur} (h : Cur k c) (hk : k ≤ 500000000) : ∃ r, zq75 c = some r ∧ Cur (k + 300) r.2 ∧ NB r.1 := by
 unfold zq75
 obtain ⟨r, hr, hc, h0, h1⟩ := pick_ok 5 h (by omega)
 have e1 : w64 (2 + r.1) = 2 + r.1 := w64_id (by omega)
 have hsix : ([(str [112, 111, 114, 116]), (str [109, 105, 108, 108]), (str [112, 97, 114, 107]), (str [104, 97, 108, 108]), (str [100, 111, 99, 107]), (str [102, 97, 105, 114])] : List ByteArray).length = 6 := rfl
 simp only [hr, Option.bind_some, e1, hsix]
 rw [chk_of (by omega)]
 obtain ⟨r1, hr1, hc1, h10, h11⟩ := pick_ok 3 hc (by omega)
 have e2 : w64 (1 + r1.1) = ((1 + r1.1.toNat : Nat) : Int) := by rw [w64_id (by omega)]; omega
 simp only [hr1, Option.bind_some, e2]
 have loop : ∃ b, iter (zq75_L1 r) (((1 + r1.1.toNat : Nat) : Int), r1.2.code_, r1.2.at_, r1.2.seed_.v, []) = some b ∧ (Cur (k + 4 + 40 * 3) ⟨b.1, b.2.1, ⟨b.2.2.1⟩⟩ ∧ (1 ≤ b.2.2.2.length ∧ b.2.2.2.length ≤ 3) ∧ ∀ x ∈ b.2.2.2, LB x) := by
  refine iter_rule (fun m a => a.1 = (m : Int) ∧ m + a.2.2.2.2.length ≤ 3 ∧ 1 ≤ m + a.2.2.2.2.length ∧ (∀ x ∈ a.2.2.2.2, LB x) ∧ Cur (k + 4 + 40 * (3 - m)) ⟨a.2.1, a.2.2.1, ⟨a.2.2.2.1⟩⟩) _ ?_ (k := 1 + r1.1.toNat) ⟨rfl, by simp; omega, by simp, by simp, hc1.mono (by omega)⟩
  rintro m ⟨x, v, v1, v2, v3⟩ ⟨hx, hl, hl1, hlb, hcur⟩
  simp only at hx hl hl1 hlb hcur
  subst hx
  unfold zq75_L1
  cases m with
  | zero => right; exact ⟨_, by simp; rfl, hcur, ⟨by show 1 ≤ v3.length; omega, by show v3.length ≤ 3; omega⟩, hlb⟩
  | succ m =>
   left
   have hpos : decide ((0 : Int) < ((m + 1 : Nat) : Int)) = true := by simp
   obtain ⟨r4, hr4, hs4⟩ := l1Num_ok ((m + 1 : Nat) : Int) (by omega) (by omega)
   have hs : (str [108]).size = 1 := rfl
   have hch : chk ((str [108]).size + r4.size ≤ 4294967296) = some () := chk_of (by omega)
   obtain ⟨r5, hr5, hc5, hb5⟩ := lineF_ok (str [108] ++ r4) (2 + r.1) (by omega) hcur (by omega)
   have hch2 : ∀ y : Line, chk (v3.length + ([y] : List Line).length ≤ 4294967296) = some () := fun y => chk_of (by simp; omega)
   refine ⟨_, m, by simp only [hpos, if_true, hr4, hch, e1, hr5, hch2, Option.bind_some]; rfl, by omega, ?_, ?_, ?_, ?_, ?_⟩
   ·exact w64_pred (by omega)
   ·simp; omega
   ·simp; omega
   ·intro y hy
    rcases List.mem_append.1 hy with hy | hy
    ·exact hlb y hy
    ·simp at hy; subst hy; exact hb5
   ·exact hc5.mono (by omega)
 obtain ⟨⟨v4, v5, v6, v7⟩, hb, hcb, hlb, hall⟩ := loop
 simp only at hcb hlb hall
 rw [hb]
 simp only [Option.bind_some]
 obtain ⟨r6, hr6, hc6⟩ := one_ok 2 hcb (by omega)
 simp only [hr6, Option.bind_some]
 have fin : ∀ (v8 : List UInt8) (v9 v10 : Int) (v11 : List Line), Cur (k + 200) ⟨v8, v9, ⟨v10⟩⟩ → (1 ≤ v11.length ∧ v11.length ≤ 8) → (∀ x ∈ v11, LB x) →
   ∃ r', ((zq101 (⟨((([(str [112, 111, 114, 116]), (str [109, 105, 108, 108]), (str [112, 97, 114, 107]), (str [104, 97, 108, 108]), (str [100, 111, 99, 107]), (str [102, 97, 105, 114])] : List ByteArray).take (2 + r.1).toNat).drop (0 : Int).toNat), v11⟩ : Network)).bind fun r11 => some ((⟨r11.Stops, r11.Lines⟩ : Network), (⟨v8, v9, (⟨v10⟩ : IK .u64)⟩ : l1Cur))) = some r' ∧ Cur (k + 300) r'.2 ∧ NB r'.1 := by
  intro v8 v9 v10 v11 g1 g2 g3
  have hst := six_len (2 + r.1).toNat (by omega) (by omega) _ hsix
  have hnb : NB (⟨((([(str [112, 111, 114, 116]), (str [109, 105, 108, 108]), (str [112, 97, 114, 107]), (str [104, 97, 108, 108]), (str [100, 111, 99, 107]), (str [102, 97, 105, 114])] : List ByteArray).take (2 + r.1).toNat).drop (0 : Int).toNat), v11⟩ : Network) := ⟨hst, g2, g3⟩
  rw [l2Own_t_eq _ hnb.bd]
  exact ⟨_, rfl, g1.mono (by omega), hnb⟩
 split
 ·obtain ⟨e, he, _, hem⟩ := idx_lt (l := v7) (i := 0) (by omega) (by omega)
  obtain ⟨g1, g2⟩ := hall e hem
  have hch2 : ∀ y : Line, chk (v7.length + ([y] : List Line).length ≤ 4294967296) = some () := fun y => chk_of (by simp; omega)
  simp only [he, l2BackF_eq e.Stops (by omega), l2BackF_eq e.Runs (by omega), hch2, Option.bind_some]
  refine fin _ _ _ _ (hc6.mono (by omega)) (by simp; omega) fun y hy => ?_
  rcases List.mem_append.1 hy with hy | hy
  ·exact hall y hy
  ·simp at hy; subst hy
   exact ⟨by simpa using g1, by simpa using g2⟩
 ·simp only [Option.bind_some]
  exact fin _ _ _ _ (hc6.mono (by omega)) (by omega) hall
theorem anyNetwork_ok {k : Nat} {c : l1Cur} (h : Cur k c) (hk : k ≤ 200000000) : ∃ r, zq63 c = some r ∧ Cur (k + 1000) r.2 ∧ Bd r.1 := by
 unfold zq63
 obtain ⟨r, hr, hc, hnb⟩ := networkT_ok h (by omega)
 obtain ⟨n1, n2, n3⟩ := hnb
 obtain ⟨r1, hr1, hc1, h10, h11⟩ := pick_ok (r.1.Lines.length : Int) hc (by omega)
 obtain ⟨e, he, he2, hem⟩ := idx_lt (l := r.1.Lines) (i := r1.1) h10 (by omega)
 obtain ⟨g1, g2⟩ := n3 e hem
 obtain ⟨r2, hr2, hc2, _⟩ := pick_ok 24 hc1 (by omega)
 simp only [hr, hr1, he, hr2, Option.bind_some]
 have fin : ∀ (v : List UInt8) (v1 v2 : Int) (v3 : ByteArray) (v4 : List ByteArray) (v5 : List Line) (v6 : List Int), Cur (k + 900) ⟨v, v1, ⟨v2⟩⟩ → v4.length ≤ 6 → v5.length = r.1.Lines.length → (∀ x ∈ v5, LB x) → v6.length ≤ 11 →
   ∃ r', ((idx v5 r1.1).bind fun e9 => some ((⟨v4, (v5.set r1.1.toNat (⟨v3, e9.Stops, v6⟩ : Line))⟩ : Network), (⟨v, v1, (⟨v2⟩ : IK .u64)⟩ : l1Cur))) = some r' ∧ Cur (k + 1000) r'.2 ∧ Bd r'.1 := by
  intro v v1 v2 v3 v4 v5 v6 q1 q2 q3 q4 q5
  obtain ⟨e9, he9, _, hm9⟩ := idx_lt (l := v5) (i := r1.1) h10 (by omega)
  rw [he9]
  refine ⟨_, rfl, q1.mono (by omega), by show v4.length ≤ _; omega, by simp; omega, fun x hx => ?_⟩
  rcases List.mem_or_eq_of_mem_set hx with hx | hx
  ·have := q4 x hx
   unfold LB at this; omega
  ·subst hx
   have := q4 e9 hm9
   unfold LB at this
   exact ⟨by show e9.Stops.length ≤ _; omega, by show v6.length ≤ _; omega⟩
 split
 ·obtain ⟨r4, hr4, hc4, _⟩ := ofw_ok ([(str [109, 105, 108, 108]), (str []), (str [65]), (str [97, 98, 99, 100, 101, 102, 103, 104]), (str [97, 98, 99, 100, 101, 102, 103, 104, 105])] : List ByteArray) (by simp) hc2 (by omega)
  obtain ⟨e2, he2', _⟩ := idx_lt (l := r.1.Stops) (i := 0) (by omega) (by omega)
  simp only [hr4, he2', Option.bind_some, flb_go]
  exact fin _ _ _ _ _ _ _ (hc4.mono (by omega)) (by simp; omega) rfl n3 (by omega)
 split
 ·obtain ⟨r5, hr5, hc5, _⟩ := ofw_ok ([(str [114, 49]), (str [108, 49]), (str []), (str [88])] : List ByteArray) (by simp) hc2 (by omega)
  simp only [hr5, Option.bind_some, flb_go]
  exact fin _ _ _ _ _ _ _ (hc5.mono (by omega)) (by omega) rfl n3 (by omega)
 split
 ·obtain ⟨r8, hr8, hc8, h80, h81⟩ := pick_ok (e.Stops.length : Int) hc2 (by omega)
  obtain ⟨r9, hr9, hc9, _⟩ := pick_ok 10 hc8 (by omega)
  obtain ⟨e4, he4, _⟩ := idx_lt (l := e.Stops) (i := r8.1) h80 (by omega)
  simp only [hr8, hr9, he4, Option.bind_some, flb_go]
  refine fin _ _ _ _ _ _ _ (hc9.mono (by omega)) (by omega) (by simp) (fun x hx => ?_) (by show e.Runs.length ≤ 11; omega)
  rcases List.mem_or_eq_of_mem_set hx with hx | hx
  ·exact n3 x hx
  ·subst hx; exact ⟨by simpa using g1, g2⟩
 split
 ·obtain ⟨r12, hr12, hc12, h120, h121⟩ := pick_ok (e.Runs.length : Int) hc2 (by omega)
  obtain ⟨r13, hr13, hc13, _⟩ := amongw_ok ([0, 60, 61, (-1)] : List Int) (by simp) hc12 (by omega)
  obtain ⟨e6, he6, _⟩ := idx_lt (l := e.Runs) (i := r12.1) h120 (by omega)
  simp only [hr12, hr13, he6, Option.bind_some, flb_go]
  refine fin _ _ _ _ _ _ _ (hc13.mono (by omega)) (by omega) (by simp) (fun x hx => ?_) (by simp; omega)
  rcases List.mem_or_eq_of_mem_set hx with hx | hx
  ·exact n3 x hx
  ·subst hx; exact ⟨g1, by simpa using g2⟩
 split
 ·have hch : chk (e.Runs.length + ([3] : List Int).length ≤ 4294967296) = some () := chk_of (by simp; omega)
  simp only [hch, Option.bind_some, flb_go]
  exact fin _ _ _ _ _ _ _ (hc2.mono (by omega)) (by omega) rfl n3 (by simp; omega)
 split
 ·simp only [flb_ret]
  exact ⟨_, rfl, hc2.mono (by omega), by show r.1.Stops.length ≤ _; omega, by simp, by simp⟩
 split
 ·have loop : ∃ b, iter (zq63_L1 r) (0, r2.2.code_, r2.2.at_, r2.2.seed_.v, r.1.Lines) = some b ∧ (Cur (k + 900) ⟨b.1, b.2.1, ⟨b.2.2.1⟩⟩ ∧ b.2.2.2.length ≤ 20 ∧ ∀ x ∈ b.2.2.2, LB x) := by
   refine iter_rule (fun m a => ∃ i : Nat, a.1 = (i : Int) ∧ m + i = 8 ∧ i ≤ 7 ∧ a.2.2.2.2.length ≤ 8 + i ∧ (∀ x ∈ a.2.2.2.2, LB x) ∧ Cur (k + 310 + 50 * i) ⟨a.2.1, a.2.2.1, ⟨a.2.2.2.1⟩⟩) _ ?_ (k := 8) ⟨0, rfl, rfl, by omega, by simpa using n2.2, n3, hc2.mono (by omega)⟩
   rintro m ⟨v7, v8, v9, v10, v11⟩ ⟨i, hi, hm, hi7, hl, hlb, hcur⟩
   simp only at hi hl hlb hcur
   subst hi
   unfold zq63_L1
   obtain ⟨r16, hr16, hc16, h160, h161⟩ := pick_ok 2 hcur (by omega)
   have w1 : w64 (5 + r16.1) = 5 + r16.1 := w64_id (by omega)
   simp only [hr16, w1, Option.bind_some]
   by_cases a1 : (v11.length : Int) < 5 + r16.1 ∧ (i : Int) < 7
   ·left
    have d1 : decide ((v11.length : Int) < 5 + r16.1) = true := by simp; omega
    have d2 : decide ((i : Int) < 7) = true := by simp; omega
    obtain ⟨r19, hr19, hs19⟩ := l1Num_ok (i : Int) (by omega) (by omega)
    have hs : (str [120]).size = 1 := rfl
    have hch : chk ((str [120]).size + r19.size ≤ 4294967296) = some () := chk_of (by omega)
    obtain ⟨r20, hr20, hc20, hb20⟩ := line_ok (str [120] ++ r19) (r.1.Stops.length : Int) (by omega) hc16 (by omega)
    have hch2 : ∀ y : Line, chk (v11.length + ([y] : List Line).length ≤ 4294967296) = some () := fun y => chk_of (by simp; omega)
    refine ⟨_, m - 1, by simp only [d1, d2, if_true, hr19, hch, hr20, hch2, Option.bind_some, w64_succ (n := i) (by omega)]; rfl, by omega, i + 1, rfl, by omega, by omega, ?_, fun x hx => ?_, ?_⟩
    ·simp; omega
    ·rcases List.mem_append.1 hx with hx | hx
     ·exact hlb x hx
     ·simp at hx; subst hx; exact hb20
    ·exact hc20.mono (by omega)
   ·right
    have hcond : (if decide ((v11.length : Int) < 5 + r16.1) = true then some (decide ((i : Int) < 7)) else some false) = some false := by
     by_cases b1 : (v11.length : Int) < 5 + r16.1
     ·have : decide ((i : Int) < 7) = false := by simp; omega
      simp [b1, this]
     ·simp [b1]
    refine ⟨_, by simp only [hcond, Option.bind_some, Bool.false_eq_true, if_false]; rfl, ?_, ?_, hlb⟩
    ·exact hc16.mono (by omega)
    ·show v11.length ≤ 20; omega
  obtain ⟨⟨v13, v14, v15, v16⟩, hb, hcb, hlb, hall⟩ := loop
  simp only at hcb hlb hall
  rw [hb]
  simp only [Option.bind_some, flb_ret]
  refine ⟨_, rfl, hcb.mono (by omega), by show r.1.Stops.length ≤ _; omega, by show v16.length ≤ _; omega, fun x hx => ?_⟩
  have := hall x hx
  unfold LB at this; omega
 ·simp only [flb_go]
  exact fin _ _ _ _ _ _ _ (hc2.mono (by omega)) (by omega) rfl n3 (by omega)
def TB (t : Timetable) : Prop := Bd t.Network ∧ t.Trips.length ≤ 1000
def TripP (n : Network) (x : Trip) : Prop := (1 ≤ x.Id ∧ x.Id ≤ 999) ∧ ∃ l, idx n.Lines x.Line = some l ∧ (0 ≤ x.Start ∧ x.Start ≤ 1799) ∧ 0 ≤ x.Start + l.Runs.sum ∧ x.Start + l.Runs.sum ≤ 1799
def GoodT (t : Timetable) : Prop := Good t.Network ∧ t.Trips.length ≤ 12 ∧ (∀ (i : Nat) x, t.Trips[i]? = some x → TripP t.Network x) ∧ ∀ (i : Nat) a b, t.Trips[i]? = some a → t.Trips[i + 1]? = some b → a.Id < b.Id
noncomputable instance (t : Timetable) : Decidable (GoodT t) := Classical.propDecidable _
noncomputable instance (n : Network) (x : Trip) : Decidable (TripP n x) := Classical.propDecidable _
theorem time_eq (t : Int) : zq4 t = some (decide (0 ≤ t ∧ t ≤ 1799)) := by
 unfold zq4; rw [within_eq]; rfl
theorem l4Time_eq (t : Int) : zq104 t = some (decide (0 ≤ t ∧ t ≤ 1799)) := by
 unfold zq104; rw [l1In_eq]; rfl
theorem total_eq (l : List Int) (h1 : l.length ≤ 1000000) (h2 : ∀ x ∈ l, 0 ≤ x ∧ x ≤ 1000000) : zq32 l = some l.sum := by
 unfold zq32
 rw [sum_loop (fun x : Int => x) l h1 h2 (fun i s x hx => ?_) (fun s => ?_)]
 ·simp
 ·have := get_lt hx
  unfold zq32_L1
  simp (disch := omega) only [if_pos, if_neg, decide_eq_true_eq, decide_true, decide_false, Bool.not_true, Bool.not_false, Bool.false_eq_true, Bool.not_eq_true', decide_eq_false_iff_not, if_true, if_false, w64_id, chk_of, idx_nat, Option.bind_some, Option.map_some, Int.toNat_natCast, not_true_eq_false, not_false_eq_true, true_and, and_true, and_self, false_and, and_false, reduceIte, flb_go, flb_ret, beq_self_eq_true, ne_eq, bne_self_eq_false, Int.ofNat_lt.2 this, hx]
 ·unfold zq32_L1; simp
theorem l2Run_eq (x : Line) (a b : Nat) (hab : a ≤ b) (hb : b ≤ x.Runs.length) (hl : x.Runs.length ≤ 1000) (h2 : ∀ r ∈ x.Runs, 0 ≤ r ∧ r ≤ 1000000) : zq103 x (a : Int) (b : Int) = some (((x.Runs.take b).drop a).sum) := by
 unfold zq103
 refine Tot.val (.call (P := fun v => v = ((x.Runs.take b).drop a).sum) ?_ fun v h => .ok h)
 refine .iter (fun m s => ∃ k : Nat, s.2 = ((a + k : Nat) : Int) ∧ m + k = b - a ∧ s.1 = (((x.Runs.take b).drop a).take k).sum) (n := b - a) ⟨0, by simp, by omega, by simp⟩ ?_
 rintro m ⟨s, v⟩ ⟨k, hk, hm, hs⟩
 simp only at hk hs
 subst hk
 unfold zq103_L1
 refine .iteP (fun hc => ?_) (fun hc => .dn ?_)
 ·obtain ⟨r, hr⟩ := get_ex (l := x.Runs) (i := a + k) (by omega)
  have hr2 : ((x.Runs.take b).drop a)[k]? = some r := by
   rw [List.getElem?_drop, List.getElem?_take_of_lt (by omega)]; exact hr
  have hb1 := h2 r (List.mem_of_getElem? hr)
  have hb2 := sum_bd (l := ((x.Runs.take b).drop a).take k) (M := 1000000) fun y hy => h2 y (List.mem_of_mem_take (List.mem_of_mem_drop (List.mem_of_mem_take hy)))
  have hlen : ((((x.Runs.take b).drop a).take k).length : Int) ≤ 1000 := by simp; omega
  rw [← hs] at hb2
  refine .eq (by rw [idx_nat]; exact hr) (.nx ⟨m - 1, by omega, k + 1, ?_, by omega, ?_⟩)
  ·show w64 (((a + k : Nat) : Int) + 1) = _
   rw [w64_id (by omega)]; omega
  ·show w64 (s + r) = _
   rw [w64_id (by omega), sum_take_succ hr2, hs]
 ·rw [hs, List.take_of_length_le (by rw [List.length_drop, List.length_take]; omega)]
theorem good_line {n : Network} (h : Good n) {k : Int} {l : Line} (hl : idx n.Lines k = some l) : LineP n.Stops.length l := h.2.2.2.2 _ l (idx_some hl).2.2
theorem line_stop {st : Nat} {l : Line} (h : LineP st l) {j : Nat} {s : Int} (hs : l.Stops[j]? = some s) : 0 ≤ s ∧ s < (st : Int) := (h.2.2.1 j s hs).1
theorem line_runs {st : Nat} {l : Line} (h : LineP st l) : (l.Runs.length + 1 = l.Stops.length ∧ 1 ≤ l.Runs.length ∧ l.Runs.length ≤ 5) ∧ ∀ r ∈ l.Runs, 1 ≤ r ∧ r ≤ 60 := by
 obtain ⟨h1, h2, h3, h4⟩ := h
 refine ⟨by omega, fun r hr => ?_⟩
 obtain ⟨i, hi⟩ := List.getElem?_of_mem hr
 exact h4 i r hi
theorem runs_sum {st : Nat} {l : Line} (h : LineP st l) (k : Nat) : 0 ≤ (l.Runs.take k).sum ∧ (l.Runs.take k).sum ≤ 300 := by
 obtain ⟨⟨h1, h2, h3⟩, h4⟩ := line_runs h
 have := sum_bd (l := l.Runs.take k) (M := 60) fun x hx => by have := h4 x (List.mem_of_mem_take hx); omega
 have hl : ((l.Runs.take k).length : Int) ≤ 5 := by simp; omega
 omega
theorem runs_sum' {st : Nat} {l : Line} (h : LineP st l) : 0 ≤ l.Runs.sum ∧ l.Runs.sum ≤ 300 := by
 have := runs_sum h l.Runs.length
 rwa [List.take_length] at this
theorem endOf_eq {t : Timetable} (hg : Good t.Network) {x : Trip} {l : Line} (hl : idx t.Network.Lines x.Line = some l) (hs : 0 ≤ x.Start ∧ x.Start ≤ 1799) : zq17 t x = some (x.Start + l.Runs.sum) := by
 have h := good_line hg hl
 obtain ⟨⟨h1, h2, h3⟩, h4⟩ := line_runs h
 have h5 := runs_sum' h
 unfold zq17
 rw [hl]
 simp only [Option.bind_some]
 rw [total_eq l.Runs (by omega) (fun x hx => by have := h4 x hx; omega)]
 simp (disch := omega) only [if_pos, if_neg, decide_eq_true_eq, decide_true, decide_false, Bool.not_true, Bool.not_false, Bool.false_eq_true, Bool.not_eq_true', decide_eq_false_iff_not, if_true, if_false, w64_id, chk_of, idx_nat, Option.bind_some, Option.map_some, Int.toNat_natCast, not_true_eq_false, not_false_eq_true, true_and, and_true, and_self, false_and, and_false, reduceIte, flb_go, flb_ret, beq_self_eq_true, ne_eq, bne_self_eq_false]
theorem l5Line_eq {t : Timetable} {i : Nat} {x : Trip} {l : Line} (hx : t.Trips[i]? = some x) (hl : idx t.Network.Lines x.Line = some l) : zq109 t (i : Int) = some l := by
 unfold zq109
 simp (disch := omega) only [if_pos, if_neg, decide_eq_true_eq, decide_true, decide_false, Bool.not_true, Bool.not_false, Bool.false_eq_true, Bool.not_eq_true', decide_eq_false_iff_not, if_true, if_false, w64_id, chk_of, idx_nat, Option.bind_some, Option.map_some, Int.toNat_natCast, not_true_eq_false, not_false_eq_true, true_and, and_true, and_self, false_and, and_false, reduceIte, flb_go, flb_ret, beq_self_eq_true, ne_eq, bne_self_eq_false, hx, hl]
theorem l5Stops_eq {t : Timetable} {i : Nat} {x : Trip} {l : Line} (hx : t.Trips[i]? = some x) (hl : idx t.Network.Lines x.Line = some l) : zq110 t (i : Int) = some l.Stops := by
 unfold zq110
 rw [l5Line_eq hx hl]; rfl
theorem l5At_eq {t : Timetable} (hg : Good t.Network) {i : Nat} {x : Trip} {l : Line} (hx : t.Trips[i]? = some x) (hl : idx t.Network.Lines x.Line = some l) (hs : 0 ≤ x.Start ∧ x.Start ≤ 1799) {k : Nat} (hk : k ≤ l.Runs.length) : zq105 t (i : Int) (k : Int) = some (x.Start + (l.Runs.take k).sum) := by
 have h := good_line hg hl
 obtain ⟨⟨h1, h2, h3⟩, h4⟩ := line_runs h
 have h5 := runs_sum h k
 have e := l2Run_eq l 0 k (by omega) hk (by omega) (fun x hx => by have := h4 x hx; omega)
 rw [List.drop_zero] at e
 have e' : zq103 l 0 (k : Int) = some (l.Runs.take k).sum := e
 unfold zq105
 simp (disch := omega) only [if_pos, if_neg, decide_eq_true_eq, decide_true, decide_false, Bool.not_true, Bool.not_false, Bool.false_eq_true, Bool.not_eq_true', decide_eq_false_iff_not, if_true, if_false, w64_id, chk_of, idx_nat, Option.bind_some, Option.map_some, Int.toNat_natCast, not_true_eq_false, not_false_eq_true, true_and, and_true, and_self, false_and, and_false, reduceIte, flb_go, flb_ret, beq_self_eq_true, ne_eq, bne_self_eq_false, hx, l5Line_eq hx hl, e']
theorem l5End_eq {t : Timetable} (hg : Good t.Network) {i : Nat} {x : Trip} {l : Line} (hx : t.Trips[i]? = some x) (hl : idx t.Network.Lines x.Line = some l) (hs : 0 ≤ x.Start ∧ x.Start ≤ 1799) : zq106 t (i : Int) = some (x.Start + l.Runs.sum) := by
 have h := good_line hg hl
 obtain ⟨⟨h1, h2, h3⟩, h4⟩ := line_runs h
 have e : w64 ((l.Stops.length : Int) - 1) = (l.Runs.length : Int) := by rw [w64_id (by omega)]; omega
 unfold zq106
 rw [l5Stops_eq hx hl]
 simp only [Option.bind_some, e, l5At_eq hg hx hl hs (Nat.le_refl _), List.take_length]
def TripsP (t : Timetable) : Prop := (∀ (i : Nat) x, t.Trips[i]? = some x → TripP t.Network x) ∧ ∀ (i : Nat) a b, t.Trips[i]? = some a → t.Trips[i + 1]? = some b → a.Id < b.Id
noncomputable instance (t : Timetable) : Decidable (TripsP t) := Classical.propDecidable _
theorem trip_i {t : Timetable} (hb : TB t) (hg : Good t.Network) (x : Trip) (last : Int) (hlast : 0 ≤ last) : ((if (decide (x.Id ≤ last)) = true then some true else if (decide (999 < x.Id)) = true then some true else (zq20 t.Network x.Line).bind fun r =>
   if (!r) = true then some true else (zq4 x.Start).bind fun r1 =>
   if (!r1) = true then some true else (zq17 t x).bind fun r2 =>
   (zq4 r2).bind fun r3 =>
   some (!r3))) = some (!decide (last < x.Id ∧ TripP t.Network x)) := by
 by_cases c1 : x.Id ≤ last
 ·have : ¬ (last < x.Id ∧ TripP t.Network x) := fun h => by omega
  simp [c1, this]
 ·by_cases c2 : 999 < x.Id
  ·have : ¬ (last < x.Id ∧ TripP t.Network x) := fun h => by have := h.2.1; omega
   simp [c1, c2, this]
  ·simp only [isLine_eq, time_eq, Option.bind_some, c1, c2, decide_false, Bool.false_eq_true, if_false]
   by_cases c3 : 0 ≤ x.Line ∧ x.Line < (t.Network.Lines.length : Int)
   ·obtain ⟨l, hl, _⟩ := idx_lt (l := t.Network.Lines) c3.1 c3.2
    by_cases c4 : 0 ≤ x.Start ∧ x.Start ≤ 1799
    ·have hT : (last < x.Id ∧ TripP t.Network x) ↔ (0 ≤ x.Start + l.Runs.sum ∧ x.Start + l.Runs.sum ≤ 1799) := by
      constructor
      ·rintro ⟨_, _, l', hl', _, h⟩
       rw [hl] at hl'; cases hl'; exact h
      ·intro h; exact ⟨by omega, ⟨by omega, by omega⟩, l, hl, c4, h⟩
     simp only [c3, c4, and_self, decide_true, Bool.not_true, Bool.false_eq_true, if_false, endOf_eq hg hl c4, time_eq, Option.bind_some, hT]
    ·have : ¬ (last < x.Id ∧ TripP t.Network x) := fun h => by
      obtain ⟨_, _, l', _, h4, _⟩ := h
      exact c4 h4
     simp only [c3, c4, this, and_self, decide_true, decide_false, Bool.not_true, Bool.not_false, Bool.false_eq_true, if_false, if_true]
   ·have : ¬ (last < x.Id ∧ TripP t.Network x) := fun h => by
     obtain ⟨_, _, l', hl', _⟩ := h
     have := idx_some hl'
     exact c3 ⟨this.1, this.2.1⟩
    simp only [c3, this, decide_false, Bool.not_false, if_true]
theorem areTrips_eq {t : Timetable} (hb : TB t) (hg : Good t.Network) : zq12 t = some (decide (t.Trips.length ≤ 12 ∧ TripsP t)) := by
 unfold zq12
 by_cases h12 : t.Trips.length ≤ 12
 ·have d : decide ((12 : Int) < (t.Trips.length : Int)) = false := by simp; omega
  have e : decide (t.Trips.length ≤ 12 ∧ TripsP t) = decide (TripsP t) := by simp [h12]
  rw [d, e]
  simp only [Bool.false_eq_true, if_false]
  refine flb_dec (.iter (fun m a => ∃ i : Nat, a.2 = (i : Int) ∧ m + i = t.Trips.length ∧ 0 ≤ a.1 ∧ (∀ y, 0 < i → t.Trips[i - 1]? = some y → a.1 = y.Id) ∧ (i = 0 → a.1 = 0) ∧ (∀ (j : Nat) x, j < i → t.Trips[j]? = some x → TripP t.Network x) ∧ ∀ (j : Nat) a b, j + 1 < i → t.Trips[j]? = some a → t.Trips[j + 1]? = some b → a.Id < b.Id)
   (n := t.Trips.length) ⟨0, rfl, rfl, by simp, by simp, by simp, fun j x h => by omega, fun j a b h => by omega⟩ ?_)
  rintro m ⟨last, v⟩ ⟨i, hv, hm, h0, h1, h2, h3, h4⟩
  simp only at hv h0 h1 h2
  subst hv
  unfold zq12_L1
  refine .iteP (fun hc => ?_) (fun hc => .dn (.inl ⟨rfl, fun j x hx => h3 j x (by have := get_lt hx; omega) hx, fun j a b ha hb' => h4 j a b (by have := get_lt hb'; omega) ha hb'⟩))
  obtain ⟨x, hx⟩ := get_ex (l := t.Trips) (i := i) (by omega)
  refine .eq (by rw [idx_nat]; exact hx) (.eq (trip_i hb hg x last h0) (.iteN (fun hn => .dn (.inr ⟨rfl, fun hp => hn ⟨?_, hp.1 i x hx⟩⟩)) (fun hp => .nx ⟨m - 1, by omega, i + 1, w64_succ (by omega), by omega, ?_, ?_, by simp, ?_, ?_⟩)))
  ·by_cases hi : i = 0
   ·rw [h2 hi]; have := (hp.1 i x hx).1; omega
   ·obtain ⟨y, hy⟩ := get_ex (l := t.Trips) (i := i - 1) (by omega)
    rw [h1 y (by omega) hy]
    exact hp.2 (i - 1) y x hy (by rw [show i - 1 + 1 = i by omega]; exact hx)
  ·show 0 ≤ x.Id
   have := hp.2.1; omega
  ·intro y _ hy
   rw [show i + 1 - 1 = i by omega, hx] at hy; cases hy; rfl
  ·intro j y hj hy
   by_cases hji : j = i
   ·subst hji; rw [hx] at hy; cases hy; exact hp.2
   ·exact h3 j y (by omega) hy
  ·intro j a b hj ha hb'
   by_cases hji : j + 1 = i
   ·subst hji; rw [hx] at hb'; cases hb'
    have := h1 a (by omega) (by simpa using ha)
    omega
   ·exact h4 j a b (by omega) ha hb'
 ·have d : decide ((12 : Int) < (t.Trips.length : Int)) = true := by simp; omega
  simp [d, h12]
def TripQ (t : Timetable) (i : Nat) (x : Trip) : Prop := TripP t.Network x ∧ ∀ y, 0 < i → t.Trips[i - 1]? = some y → y.Id < x.Id
noncomputable instance (t : Timetable) (i : Nat) (x : Trip) : Decidable (TripQ t i x) := Classical.propDecidable _
theorem goodT_iff (t : Timetable) : GoodT t ↔ Good t.Network ∧ t.Trips.length ≤ 12 ∧ TripsP t := Iff.rfl
theorem validT_eq {t : Timetable} (hb : TB t) : zq5 t = some (decide (GoodT t)) := by
 unfold zq5
 rw [valid_eq _ hb.1]
 by_cases hg : Good t.Network
 ·simp only [hg, decide_true, if_true, Option.bind_some, areTrips_eq hb hg, goodT_iff, true_and]
 ·have : ¬ GoodT t := fun h => hg h.1
  simp [hg, this]
theorem goodT_eq {t : Timetable} (hb : TB t) : zq108 t = some (decide (GoodT t)) := by
 unfold zq108
 rw [good_eq _ hb.1]
 by_cases hg : Good t.Network
 ·by_cases h12 : t.Trips.length ≤ 12
  ·have d : decide ((12 : Int) < (t.Trips.length : Int)) = false := by simp; omega
   have e : decide (GoodT t) = decide (TripsP t) := by rw [decide_eq_decide, goodT_iff]; simp [hg, h12]
   simp only [hg, decide_true, Bool.not_true, Bool.false_eq_true, if_false, Option.bind_some, d, e]
   refine flb_dec (.iter (fun m a => ∃ i : Nat, a = (i : Int) ∧ m + i = t.Trips.length ∧ (∀ (j : Nat) x, j < i → t.Trips[j]? = some x → TripP t.Network x) ∧ ∀ (j : Nat) a b, j + 1 < i → t.Trips[j]? = some a → t.Trips[j + 1]? = some b → a.Id < b.Id)
    (n := t.Trips.length) ⟨0, rfl, rfl, fun j x h => by omega, fun j a b h => by omega⟩ ?_)
   rintro m v ⟨i, hv, hm, h3, h4⟩
   subst hv
   unfold zq108_L1
   refine .iteP (fun hc => ?_) (fun hc => .dn (.inl ⟨rfl, fun j x hx => h3 j x (by have := get_lt hx; omega) hx, fun j a b ha hb' => h4 j a b (by have := get_lt hb'; omega) ha hb'⟩))
   obtain ⟨x, hx⟩ := get_ex (l := t.Trips) (i := i) (by omega)
   refine .eq (by rw [idx_nat]; exact hx) ?_
   have hll := hg.2.1
   have ew : w64 ((t.Network.Lines.length : Int) - 1) = (t.Network.Lines.length : Int) - 1 := w64_id (by omega)
   have key : ((zq87 x.Id 1 999).bind fun r6 =>
   (if (!r6) = true then some true else (zq87 x.Line 0 (w64 ((t.Network.Lines.length : Int) - 1))).bind fun r7 =>
   if (!r7) = true then some true else (zq104 x.Start).bind fun r8 =>
   if (!r8) = true then some true else (zq106 t (i : Int)).bind fun r9 =>
   (zq104 r9).bind fun r10 =>
   if (!r10) = true then some true else if (decide (0 < (i : Int))) = true then (idx t.Trips (w64 ((i : Int) - 1))).bind fun e2 =>
   some (decide (x.Id ≤ e2.Id)) else some false)) = some (!decide (TripQ t i x)) := by
    have no : ¬ TripP t.Network x → (!decide (TripQ t i x)) = true := fun h => (by simp [show ¬ TripQ t i x from fun q => h q.1])
    simp only [l1In_eq, l4Time_eq, ew, Option.bind_some]
    by_cases c1 : 1 ≤ x.Id ∧ x.Id ≤ 999
    ·by_cases c3 : 0 ≤ x.Line ∧ x.Line ≤ (t.Network.Lines.length : Int) - 1
     ·obtain ⟨l, hl, _⟩ := idx_lt (l := t.Network.Lines) c3.1 (by omega)
      by_cases c4 : 0 ≤ x.Start ∧ x.Start ≤ 1799
      ·simp only [c1, c3, c4, and_self, decide_true, Bool.not_true, Bool.false_eq_true, if_false, l5End_eq hg hx hl c4, l4Time_eq, Option.bind_some]
       by_cases c5 : 0 ≤ x.Start + l.Runs.sum ∧ x.Start + l.Runs.sum ≤ 1799
       ·have hT : TripP t.Network x := ⟨c1, l, hl, c4, c5⟩
        simp only [c5, and_self, decide_true, Bool.not_true, Bool.false_eq_true, if_false, ]
        by_cases c6 : 0 < i
        ·obtain ⟨y, hy⟩ := get_ex (l := t.Trips) (i := i - 1) (by omega)
         have e1 : w64 ((i : Int) - 1) = ((i - 1 : Nat) : Int) := by rw [w64_id (by omega)]; omega
         have c6' : (0 : Int) < (i : Int) := by omega
         simp only [c6', decide_true, if_true, e1, idx_nat, hy, Option.bind_some, Option.some.injEq]
         by_cases c7 : x.Id ≤ y.Id
         ·have : ¬ TripQ t i x := fun h => by have := h.2 y c6 hy; omega
          simp only [c7, decide_true, this, decide_false, Bool.not_false]
         ·have : TripQ t i x := ⟨hT, fun z _ hz => by rw [hy] at hz; cases hz; omega⟩
          simp only [c7, decide_false, this, decide_true, Bool.not_true]
        ·have c6' : ¬ (0 : Int) < (i : Int) := by omega
         have : TripQ t i x := ⟨hT, fun z h0 _ => absurd h0 c6⟩
         simp only [c6', decide_false, Bool.false_eq_true, if_false, this, decide_true, Bool.not_true]
       ·rw [no (fun hT => by
         obtain ⟨_, l', hl', _, h⟩ := hT
         rw [hl] at hl'; cases hl'; exact c5 h)]
        simp only [c5, decide_false, Bool.not_false, if_true]
      ·rw [no (fun hT => by obtain ⟨_, l', _, h, _⟩ := hT; exact c4 h)]
       simp only [c1, c3, c4, and_self, decide_true, decide_false, Bool.not_true, Bool.not_false, Bool.false_eq_true, if_false, if_true]
     ·rw [no (fun hT => by
       obtain ⟨_, l', hl', _⟩ := hT
       have := idx_some hl'
       exact c3 ⟨this.1, by omega⟩)]
      simp only [c1, c3, and_self, decide_true, decide_false, Bool.not_true, Bool.not_false, Bool.false_eq_true, if_false, if_true]
    ·rw [no (fun hT => c1 hT.1)]
     simp only [c1, decide_false, Bool.not_false, if_true]
   rw [bind_assoc', key]
   refine .iteN (fun hn => .dn (.inr ⟨rfl, fun hp => hn ⟨hp.1 i x hx, fun y hi hy => hp.2 (i - 1) y x hy (by rw [show i - 1 + 1 = i by omega]; exact hx)⟩⟩)) (fun hp => .nx ⟨m - 1, by omega, i + 1, w64_succ (by omega), by omega, ?_, ?_⟩)
   ·intro j y hj hy
    by_cases hji : j = i
    ·subst hji; rw [hx] at hy; cases hy; exact hp.1
    ·exact h3 j y (by omega) hy
   ·intro j a b hj ha hb'
    by_cases hji : j + 1 = i
    ·subst hji; rw [hx] at hb'; cases hb'
     exact hp.2 a (by omega) (by simpa using ha)
    ·exact h4 j a b (by omega) ha hb'
  ·have d : decide ((12 : Int) < (t.Trips.length : Int)) = true := by simp; omega
   have : ¬ GoodT t := fun h => h12 h.2.1
   simp [hg, d, this]
 ·have : ¬ GoodT t := fun h => hg h.1
  simp [hg, this]
theorem tripIndex_eq (t : Timetable) (h : t.Trips.length ≤ 1000) (id : Int) : zq33 t id = some (fixI (fun x => x.Id == id) t.Trips) := by
 unfold zq33 zq113 zq112
 rw [find_val t.Trips (fun x => x.Id == id) (fun i x hx => ?_) (by unfold zq112_L1; simp)]
 ·rfl
 ·have := get_lt hx
  unfold zq112_L1 zq34
  simp (disch := omega) only [if_pos, if_neg, decide_eq_true_eq, decide_true, decide_false, Bool.not_true, Bool.not_false, Bool.false_eq_true, Bool.not_eq_true', decide_eq_false_iff_not, if_true, if_false, w64_id, chk_of, idx_nat, Option.bind_some, Option.map_some, Int.toNat_natCast, not_true_eq_false, not_false_eq_true, true_and, and_true, and_self, false_and, and_false, reduceIte, flb_go, flb_ret, beq_self_eq_true, ne_eq, bne_self_eq_false, hx, Int.ofNat_lt.2 this]
  split <;> simp [*] <;> omega
theorem l5Find_eq (t : Timetable) (h : t.Trips.length ≤ 1000) (id : Int) : zq107 t id = some (fixI (fun x => x.Id == id) t.Trips) := by
 unfold zq107
 rw [find_val t.Trips (fun x => x.Id == id) (fun i x hx => ?_) (by unfold zq107_L1; simp)]
 have := get_lt hx
 unfold zq107_L1
 simp (disch := omega) only [if_pos, if_neg, decide_eq_true_eq, decide_true, decide_false, Bool.not_true, Bool.not_false, Bool.false_eq_true, Bool.not_eq_true', decide_eq_false_iff_not, if_true, if_false, w64_id, chk_of, idx_nat, Option.bind_some, Option.map_some, Int.toNat_natCast, not_true_eq_false, not_false_eq_true, true_and, and_true, and_self, false_and, and_false, reduceIte, flb_go, flb_ret, beq_self_eq_true, ne_eq, bne_self_eq_false, hx, Int.ofNat_lt.2 this]
 split <;> simp [*] <;> omega
theorem lineOf_eq {t : Timetable} {x : Trip} {l : Line} (hl : idx t.Network.Lines x.Line = some l) : zq30 t x = some l := by
 unfold zq30; rw [hl]; rfl
theorem trip_line {t : Timetable} (h : GoodT t) {i : Nat} {x : Trip} (hx : t.Trips[i]? = some x) : ∃ l, idx t.Network.Lines x.Line = some l ∧ LineP t.Network.Stops.length l ∧ (1 ≤ x.Id ∧ x.Id ≤ 999) ∧ (0 ≤ x.Start ∧ x.Start ≤ 1799) ∧ 0 ≤ x.Start + l.Runs.sum ∧ x.Start + l.Runs.sum ≤ 1799 := by
 obtain ⟨h1, l, hl, h2, h3⟩ := h.2.2.1 i x hx
 exact ⟨l, hl, good_line h.1 hl, h1, h2, h3⟩
theorem ids_lt {t : Timetable} (h : GoodT t) {i j : Nat} {a b : Trip} (hij : i < j) (ha : t.Trips[i]? = some a) (hb : t.Trips[j]? = some b) : a.Id < b.Id := by
 induction j generalizing b with
 | zero => omega
 | succ j ih =>
  obtain ⟨c, hc⟩ := get_ex (l := t.Trips) (i := j) (by have := get_lt hb; omega)
  have h1 := h.2.2.2 j c b hc hb
  by_cases hji : i = j
  ·subst hji; rw [ha] at hc; cases hc; exact h1
  ·have := ih (by omega) hc; omega
theorem trip_fix {t : Timetable} (h : GoodT t) {i : Nat} {x : Trip} (hx : t.Trips[i]? = some x) : fixI (fun y => y.Id == x.Id) t.Trips = (i : Int) := by
 refine fixI_of hx (by simp) fun j y hj hy => ?_
 have := ids_lt h hj hy hx
 simp; omega
theorem network_ok {k : Nat} {c : l1Cur} (h : Cur k c) (hk : k ≤ 500000000) : ∃ r, zq74 c = some r ∧ Cur (k + 300) r.2 ∧ NB r.1 := networkT_ok h hk
theorem anyNet_ok {k : Nat} {c : l1Cur} (h : Cur k c) (hk : k ≤ 200000000) : Tot (zq63 c) fun r => Cur (k + 1000) r.2 ∧ Bd r.1 := anyNetwork_ok h hk
def DT (t : Timetable) : Prop := Bd t.Network ∧ t.Trips.length ≤ 30
theorem DT.tb {t : Timetable} (h : DT t) : TB t := ⟨h.1, by have := h.2; omega⟩
theorem timetable_ok {k : Nat} {c : l1Cur} (h : Cur k c) (hk : k ≤ 100000000) : Tot (zq82 c) fun r => Cur (k + 400) r.2 ∧ DT r.1 ∧ NB r.1.Network ∧ r.1.Trips.length ≤ 8 := by
 unfold zq82
 refine .call (networkT_ok h (by omega)) fun r ⟨hc, hn⟩ => .call (pick_ok 8 hc (by omega)) fun r1 ⟨hc1, h0, h1⟩ => ?_
 refine .call (P := fun o => Cur (k + 400) ⟨o.1, o.2.1, ⟨o.2.2.1⟩⟩ ∧ o.2.2.2.length ≤ 8) ?_ fun o ⟨ho1, ho2⟩ => .ok ⟨ho1, ⟨hn.bd, by show o.2.2.2.length ≤ 30; omega⟩, hn, ho2⟩
 refine .iter (fun m s => s.2.1 = (m : Int) ∧ m + s.2.2.2.2.2.length ≤ 8 ∧ Cur (k + 302 + 6 * (8 - m)) ⟨s.2.2.1, s.2.2.2.1, ⟨s.2.2.2.2.1⟩⟩) (n := r1.1.toNat) ⟨by show r1.1 = _; omega, by show r1.1.toNat + 0 ≤ 8; omega, hc1.mono (by omega)⟩ ?_
 rintro m ⟨n, v, v1, v2, v3, v4⟩ ⟨hv, hl, hcur⟩
 simp only at hv hl hcur
 subst hv
 unfold zq82_L1
 refine .iteP (fun hc => ?_) (fun hc => .dn ⟨hcur.mono (by omega), by show v4.length ≤ 8; omega⟩)
 refine .call (pick_ok 3 hcur (by omega)) fun r2 ⟨hc2, _⟩ => .call (pick_ok _ hc2 (by omega)) fun r5 ⟨hc5, _⟩ => .call (pick_ok 24 hc5 (by omega)) fun r6 ⟨hc6, _⟩ => .chk (by simp; omega) (.nx ⟨m - 1, by omega, ?_, ?_, ?_⟩)
 ·show w64 ((m : Int) - 1) = _; rw [w64_id (by omega)]; omega
 ·show m - 1 + (v4 ++ [_]).length ≤ 8; simp; omega
 ·exact hc6.mono (by omega)
theorem anyTimetable_ok {k : Nat} {c : l1Cur} (h : Cur k c) (hk : k ≤ 50000000) : Tot (zq65 c) fun r => Cur (k + 2000) r.2 ∧ DT r.1 := by
 unfold zq65
 refine .call (timetable_ok h (by omega)) fun r ⟨hc, hd, hn, hl⟩ => ?_
 refine .ite (fun _ => .ok ⟨hc.mono (by omega), hd⟩) fun he => ?_
 have hpos : 0 < r.1.Trips.length := by
  have : (r.1.Trips.length : Int) ≠ 0 := by simpa using he
  omega
 refine .call (pick_ok _ hc (by omega)) fun r1 ⟨hc1, h10, h11⟩ => ?_
 have h12 : r1.1 < (r.1.Trips.length : Int) := by omega
 refine .idx h10 h12 fun e _ => ?_
 have fin : ∀ (v : List UInt8) (v1 v2 : Int) (v3 : List Line) (v4 v5 v6 : Int) (v7 : List ByteArray), Cur (k + 2000) ⟨v, v1, ⟨v2⟩⟩ → Bd ⟨v7, v3⟩ → Tot ((idx r.1.Trips r1.1).bind fun e2 => some ((⟨(⟨v7, v3⟩ : Network), (r.1.Trips.set r1.1.toNat (⟨v4, v5, v6⟩ : Trip))⟩ : Timetable), (⟨v, v1, (⟨v2⟩ : IK .u64)⟩ : l1Cur))) fun r => Cur (k + 2000) r.2 ∧ DT r.1 := fun v v1 v2 v3 v4 v5 v6 v7 q1 q2 =>
  .idx h10 h12 fun e2 _ => .ok ⟨q1, q2, by show (r.1.Trips.set _ _).length ≤ 30; rw [List.length_set]; omega⟩
 refine .flb (.call (pick_ok 24 hc1 (by omega)) fun r2 ⟨hc2, _⟩ => ?_)
 refine .ite (fun _ => .call (among_ok _ (by simp) hc2 (by omega)) fun r3 ⟨hc3, _⟩ => .go (fin _ _ _ _ _ _ _ _ (hc3.mono (by omega)) hd.1)) fun _ => ?_
 refine .ite (fun _ => .call (pick_ok 7 hc2 (by omega)) fun r3 ⟨hc3, _⟩ => .go (fin _ _ _ _ _ _ _ _ (hc3.mono (by omega)) hd.1)) fun _ => ?_
 refine .ite (fun _ => .call (among_ok _ (by simp) hc2 (by omega)) fun r3 ⟨hc3, _⟩ => .go (fin _ _ _ _ _ _ _ _ (hc3.mono (by omega)) hd.1)) fun _ => ?_
 refine .ite (fun _ => .call (anyNet_ok hc2 (by omega)) fun r3 ⟨hc3, hb⟩ => .go (fin _ _ _ _ _ _ _ _ (hc3.mono (by omega)) hb)) fun _ => ?_
 refine .ite (fun _ => ?_) fun _ => .go (fin _ _ _ _ _ _ _ _ (hc2.mono (by omega)) hd.1)
 refine .call (P := fun o => Cur (k + 2000) ⟨o.1, o.2.1, ⟨o.2.2.1⟩⟩ ∧ o.2.2.2.length ≤ 30) ?_ fun o ⟨ho1, ho2⟩ => .ret ⟨ho1, hd.1, ho2⟩
 refine .iter (fun m s => ∃ i : Nat, s.1 = (i : Int) ∧ m + i = 14 ∧ s.2.2.2.2.length ≤ 8 + i ∧ Cur (k + 500 + 2 * i) ⟨s.2.1, s.2.2.1, ⟨s.2.2.2.1⟩⟩) (n := 14) ⟨0, rfl, rfl, by simpa using hl, hc2.mono (by omega)⟩ ?_
 rintro m ⟨v8, v9, v10, v11, v12⟩ ⟨i, hv, hm, hl12, hcur⟩
 simp only at hv hl12 hcur
 subst hv
 unfold zq65_L1
 refine .call (pick_ok 2 hcur (by omega)) fun r8 ⟨hc8, _⟩ => ?_
 refine .call (P := fun b => b = true → i < 14) (.ite (fun _ => .ok fun hb => by simp at hb; omega) fun _ => .ok fun hb => by cases hb) fun b hb => ?_
 refine .ite (fun ht => .chk (by simp; omega) (.nx ⟨m - 1, by have := hb ht; omega, i + 1, w64_succ (by omega), by have := hb ht; omega, ?_, hc8.mono (by omega)⟩)) (fun _ => .dn ⟨hc8.mono (by omega), by show v12.length ≤ 30; omega⟩)
 show (v12 ++ [_]).length ≤ 8 + (i + 1); simp; omega
theorem trips_ok {k : Nat} {c : l1Cur} (h : Cur k c) (hk : k ≤ 40000000) : Tot (zq84 c) fun r => Cur (k + 3000) r.2 ∧ DT r.1 := by
 unfold zq84
 refine .call (one_ok 16 h (by omega)) fun r hc => ?_
 refine .ite (fun _ => .call (anyTimetable_ok hc (by omega)) fun r1 ⟨hc1, hd⟩ => .ok ⟨hc1.mono (by omega), hd⟩) fun _ => ?_
 refine .call (networkT_ok hc (by omega)) fun r2 ⟨hc2, hn⟩ => .call (pick_ok 6 hc2 (by omega)) fun r3 ⟨hc3, h30, h31⟩ => ?_
 refine .call (P := fun o => Cur (k + 3000) ⟨o.1, o.2.1, ⟨o.2.2.1⟩⟩ ∧ o.2.2.2.length ≤ 10) ?_ fun o ⟨ho1, ho2⟩ => ?_
 ·refine .iter (fun m s => s.1 = (m : Int) ∧ m + s.2.2.2.2.length ≤ 10 ∧ Cur (k + 310 + 6 * (10 - m)) ⟨s.2.1, s.2.2.1, ⟨s.2.2.2.1⟩⟩) (n := 3 + r3.1.toNat) ⟨by show w64 (3 + r3.1) = _; rw [w64_id (by omega)]; omega, by show 3 + r3.1.toNat + 0 ≤ 10; omega, hc3.mono (by omega)⟩ ?_
  rintro m ⟨i, v, v1, v2, v3⟩ ⟨hv, hl, hcur⟩
  simp only at hv hl hcur
  subst hv
  unfold zq84_L1
  refine .iteP (fun hc => ?_) (fun hc => .dn ⟨hcur.mono (by omega), by show v3.length ≤ 10; omega⟩)
  refine .call (pick_ok 2 hcur (by omega)) fun r7 ⟨hc7, _⟩ => .call (pick_ok _ hc7 (by omega)) fun r8 ⟨hc8, _⟩ => .call (pick_ok 16 hc8 (by omega)) fun r9 ⟨hc9, _⟩ => .chk (by simp; omega) (.nx ⟨m - 1, by omega, ?_, ?_, ?_⟩)
  ·show w64 ((m : Int) - 1) = _; rw [w64_id (by omega)]; omega
  ·show m - 1 + (v3 ++ [_]).length ≤ 10; simp; omega
  ·exact hc9.mono (by omega)
 ·refine .call (P := fun l => l.length ≤ 10) ?_ fun l hl => .ok ⟨ho1, hn.bd, by show l.length ≤ 30; omega⟩
  refine .iter (fun m s => ∃ i : Nat, s.1 = (i : Int) ∧ 1 ≤ i ∧ m + i = 11 ∧ s.2.length ≤ 10) (n := 10) ⟨1, rfl, by omega, by omega, ho2⟩ ?_
  rintro m ⟨x, v8⟩ ⟨i, hx, h1, hm, hl⟩
  simp only at hx hl
  subst hx
  unfold zq84_L2
  refine .iteP (fun hc => ?_) (fun hc => .dn hl)
  have e1 : w64 ((i : Int) - 1) = (i : Int) - 1 := w64_id (by omega)
  refine .idx (by omega) hc fun e _ => ?_
  rw [e1]
  refine .idx (by omega) (by omega) fun e2 _ => ?_
  refine .call (P := fun _ => True) ?_ fun r11 _ => .idx (by omega) hc fun e3 _ => .nx ⟨m - 1, by omega, i + 1, w64_succ (by omega), by omega, by omega, by show (v8.set _ _).length ≤ 10; rw [List.length_set]; exact hl⟩
  unfold zq89
  exact .ite (fun _ => .ok trivial) fun _ => .ok trivial
theorem idOf_ok {k : Nat} {c : l1Cur} (t : Timetable) (h : Cur k c) (hk : k ≤ 1000000000) : Tot (zq71 c t) fun r => Cur (k + 4) r.2 := by
 unfold zq71
 refine .call (P := fun o => Cur (k + 2) ⟨o.2.1, o.2.2.1, ⟨o.2.2.2⟩⟩ ∧ (o.1 = false → 0 < t.Trips.length)) (.ite (fun _ => .ok ⟨h.mono (by omega), fun h => by cases h⟩) fun he => .call (one_ok 8 h (by omega)) fun r hc => .ok ⟨hc, fun _ => ?_⟩) fun o ⟨ho, hz⟩ => ?_
 ·have : (t.Trips.length : Int) ≠ 0 := by simpa using he
  omega
 ·refine .ite (fun _ => .call (pick_ok 30 ho (by omega)) fun r1 ⟨hc1, _⟩ => .ok (hc1.mono (by omega))) fun hf => ?_
  have := hz hf
  refine .call (pick_ok _ ho (by omega)) fun r3 ⟨hc3, h0, h1⟩ => .idx h0 (by omega) fun e _ => .ok (hc3.mono (by omega))
theorem t_pick {k : Nat} {c : l1Cur} (n : Int) (h : Cur k c) (hk : k ≤ 3000000000) : Tot (zq80 c n) fun r => Cur (k + 2) r.2 ∧ 0 ≤ r.1 ∧ (r.1 < n ∨ r.1 = 0) := pick_ok n h hk
theorem t_one {k : Nat} {c : l1Cur} (n : Int) (h : Cur k c) (hk : k ≤ 3000000000) : Tot (zq79 c n) fun r => Cur (k + 2) r.2 := one_ok n h hk
theorem t_amongw {k : Nat} {c : l1Cur} (l : List Int) (hl : l ≠ []) (h : Cur k c) (hk : k ≤ 3000000000) : Tot (zq62 c l) fun r => Cur (k + 2) r.2 ∧ r.1 ∈ l := amongw_ok l hl h hk
theorem vBig_eq (code : List UInt8) : zq116 code = some (decide (65536 < (code.length : Int))) := rfl
theorem idx0 {α : Type} (l : List α) : idx l 0 = l[0]? := idx_nat l 0
theorem vInts_refl (a : List Int) (h : a.length ≤ 1000) : zq118 a a = some true := by
 unfold zq118
 simp only [bne_self_eq_false, Bool.false_eq_true, if_false]
 rw [all_val (hd := Classical.propDecidable _) a (fun _ _ => True) (fun i x hx => ?_) (by unfold zq118_L1; simp)]
 ·rw [if_pos (fun _ _ _ => trivial)]
 ·have hi := (List.getElem?_eq_some_iff.1 hx).1
  unfold zq118_L1
  have hlt : decide ((i : Int) < (a.length : Int)) = true := by simp; omega
  left
  simp only [hlt, if_true, idx_nat, hx, Option.bind_some, bne_self_eq_false, Bool.false_eq_true, if_false, w64_succ (n := i) (by omega), and_self]
theorem l1Has_eq (l : List Int) (hl : l.length ≤ 100000) (x : Int) : zq86 l x = some (decide (x ∈ l)) := by
 unfold zq86
 rw [find_loop l (fun e => e == x) (fun _ => true) (fun i y hy => ?_) (by unfold zq86_L1; simp)]
 ·by_cases h : x ∈ l
  ·have : l.findIdx? (fun e => e == x) ≠ none := fun hn => by
    have := List.findIdx?_eq_none_iff.1 hn x h
    simp at this
   cases hf : l.findIdx? (fun e => e == x) with
   | none => exact absurd hf this
   | some i => simp [h]
  ·have : l.findIdx? (fun e => e == x) = none := List.findIdx?_eq_none_iff.2 fun y hy => by
    simp only [beq_eq_false_iff_ne, ne_eq]
    intro e; subst e; exact h hy
   rw [this]; simp [h]
 ·have hi := get_lt hy
  unfold zq86_L1
  have hlt : decide ((i : Int) < (l.length : Int)) = true := by simp; omega
  simp only [hlt, if_true, idx_nat, hy, Option.bind_some, w64_succ (n := i) (by omega)]
  split <;> rfl
def RowP (st : Nat) (a : Nat) (row : List Int) : Prop := row.length = st ∧ row[a]? = some 0 ∧ ∀ d ∈ row, 0 ≤ d ∧ d ≤ 120
def FleetP (n : Network) (f : Fleet) : Prop := f.Dead.length = n.Stops.length ∧ (0 ≤ f.Turn ∧ f.Turn ≤ 30) ∧ ∀ (a : Nat) row, f.Dead[a]? = some row → RowP n.Stops.length a row
def RowsP (st : Nat) (f : Fleet) : Prop := ∀ (a : Nat) row, f.Dead[a]? = some row → RowP st a row
noncomputable instance (st : Nat) (f : Fleet) : Decidable (RowsP st f) := Classical.propDecidable _
noncomputable instance (n : Network) (f : Fleet) : Decidable (FleetP n f) := Classical.propDecidable _
noncomputable instance (st a : Nat) (row : List Int) : Decidable (RowP st a row) := Classical.propDecidable _
def FB (f : Fleet) : Prop := f.Dead.length ≤ 1000 ∧ ∀ row ∈ f.Dead, row.length ≤ 1000
theorem dead_rowI (e : List Int) (he : e.length ≤ 1000) : Tot (iter (zq19_L1 e) (0 : Int)) fun b => (b = .go () ∧ ∀ d ∈ e, 0 ≤ d ∧ d ≤ 120) ∨ (b = .ret (.dn (.ret false)) ∧ ¬ ∀ d ∈ e, 0 ≤ d ∧ d ≤ 120) := by
 refine .iter (fun m v => ∃ i : Nat, v = (i : Int) ∧ m + i = e.length ∧ ∀ (j : Nat) d, j < i → e[j]? = some d → 0 ≤ d ∧ d ≤ 120) (n := e.length) ⟨0, rfl, rfl, fun j d h => by omega⟩ ?_
 rintro m v ⟨i, rfl, hm, h3⟩
 unfold zq19_L1
 refine .iteP (fun hc => ?_) (fun hc => .dn (.inl ⟨rfl, fun d hd => ?_⟩))
 ·obtain ⟨d, hd⟩ := get_ex (l := e) (i := i) (by omega)
  refine .eq (ixs hd) (.eq (within_eq _ _ _) (.iteN (fun hn => .dn (.inr ⟨rfl, fun h => hn (h d (List.mem_of_getElem? hd))⟩)) (fun hp => .nx ⟨m - 1, by omega, i + 1, w64_succ (by omega), by omega, fun j x hj hx => ?_⟩)))
  by_cases hji : j = i
  ·subst hji; rw [hd] at hx; cases hx; exact hp
  ·exact h3 j x (by omega) hx
 ·obtain ⟨j, hj⟩ := List.getElem?_of_mem hd
  exact h3 j d (by have := get_lt hj; omega) hj
theorem dead_rowS {f : Fleet} {a : Nat} {e : List Int} (ha : f.Dead[a]? = some e) (he : e.length ≤ 1000) : Tot (iter (zq46_L1 f (a : Int)) (0 : Int)) fun b => (b = .go () ∧ ∀ d ∈ e, 0 ≤ d ∧ d ≤ 120) ∨ (b = .ret (.dn (.ret false)) ∧ ¬ ∀ d ∈ e, 0 ≤ d ∧ d ≤ 120) := by
 refine .iter (fun m v => ∃ i : Nat, v = (i : Int) ∧ m + i = e.length ∧ ∀ (j : Nat) d, j < i → e[j]? = some d → 0 ≤ d ∧ d ≤ 120) (n := e.length) ⟨0, rfl, rfl, fun j d h => by omega⟩ ?_
 rintro m v ⟨i, rfl, hm, h3⟩
 unfold zq46_L1
 refine .eq (ixs ha) (.iteP (fun hc => ?_) (fun hc => .dn (.inl ⟨rfl, fun d hd => ?_⟩)))
 ·obtain ⟨d, hd⟩ := get_ex (l := e) (i := i) (by omega)
  refine .eq (ixs ha) (.eq (ixs hd) (.eq (l1In_eq _ _ _) (.iteN (fun hn => .dn (.inr ⟨rfl, fun h => hn (h d (List.mem_of_getElem? hd))⟩)) (fun hp => .nx ⟨m - 1, by omega, i + 1, w64_succ (by omega), by omega, fun j x hj hx => ?_⟩))))
  by_cases hji : j = i
  ·subst hji; rw [hd] at hx; cases hx; exact hp
  ·exact h3 j x (by omega) hx
 ·obtain ⟨j, hj⟩ := List.getElem?_of_mem hd
  exact h3 j d (by have := get_lt hj; omega) hj
theorem row_test {st a : Nat} {e : List Int} (ha : a < st) : ((if ((e.length : Int) != (st : Int)) = true then some true else (idx e (a : Int)).bind fun e1 => some (e1 != 0))) = some (!decide (e.length = st ∧ e[a]? = some 0)) := by
 by_cases h1 : e.length = st
 ·obtain ⟨x, hx⟩ := get_ex (l := e) (i := a) (by omega)
  have hb : ((e.length : Int) != (st : Int)) = false := by simp; omega
  rw [hb, idx_nat, hx]
  by_cases h2 : x = 0
  ·subst h2; simp [h1]
  ·simp [h1, h2]
 ·have hb : ((e.length : Int) != (st : Int)) = true := by simp; omega
  simp [hb, h1]
theorem isFleet_eq {n : Network} (hn : n.Stops.length ≤ 1000) {f : Fleet} (hf : FB f) : zq19 n f = some (decide (FleetP n f)) := by
 unfold zq19
 rw [within_eq]
 by_cases h1 : f.Dead.length = n.Stops.length
 ·have hb : ((f.Dead.length : Int) != (n.Stops.length : Int)) = false := by simp; omega
  by_cases h2 : 0 ≤ f.Turn ∧ f.Turn ≤ 30
  ·simp only [hb, h2, and_self, decide_true, Bool.not_true, Bool.false_eq_true, if_false, Option.bind_some]
   have e : decide (FleetP n f) = decide (RowsP n.Stops.length f) := by
    rw [decide_eq_decide]; unfold FleetP RowsP; simp [h1, h2]
   rw [e]
   refine flb_dec (.iter (fun m v => ∃ i : Nat, v = (i : Int) ∧ m + i = f.Dead.length ∧ ∀ (j : Nat) row, j < i → f.Dead[j]? = some row → RowP n.Stops.length j row) (n := f.Dead.length) ⟨0, rfl, rfl, fun j d h => by omega⟩ ?_)
   rintro m v ⟨i, rfl, hm, h3⟩
   unfold zq19_L2
   refine .iteP (fun hc => ?_) (fun hc => .dn (.inl ⟨rfl, fun j row hj => h3 j row (by have := get_lt hj; omega) hj⟩))
   obtain ⟨row, hr⟩ := get_ex (l := f.Dead) (i := i) (by omega)
   have hrl := hf.2 row (List.mem_of_getElem? hr)
   refine .eq (ixs hr) (.eq (row_test (by omega)) (.iteN (fun hneg => .dn (.inr ⟨rfl, fun h => hneg ⟨(h i row hr).1, (h i row hr).2.1⟩⟩)) (fun hp => .flb ((dead_rowI row hrl).mono fun b hb' => ⟨fun r hr' => ?_, fun u hu => ?_⟩))))
   ·rcases hb' with ⟨h4, _⟩ | ⟨h4, h5⟩
    ·rw [h4] at hr'; cases hr'
    ·rw [h4] at hr'; cases hr'
     exact ⟨fun a' h => (by cases h), fun b h => (by cases h; exact .inr ⟨rfl, fun h => h5 (h i row hr).2.2⟩)⟩
   ·rcases hb' with ⟨_, h5⟩ | ⟨h4, _⟩
    ·refine .nx ⟨m - 1, by omega, i + 1, w64_succ (by omega), by omega, fun j x hj hx => ?_⟩
     by_cases hji : j = i
     ·subst hji; rw [hr] at hx; cases hx; exact ⟨hp.1, hp.2, h5⟩
     ·exact h3 j x (by omega) hx
    ·rw [h4] at hu; cases hu
  ·have : ¬ FleetP n f := fun h => h2 h.2.1
   simp [hb, h2, this]
 ·have hb : ((f.Dead.length : Int) != (n.Stops.length : Int)) = true := by simp; omega
  have : ¬ FleetP n f := fun h => h1 h.1
  simp [hb, this]
theorem l11Fleet_eq {n : Network} (hn : Bd n) {f : Fleet} (hf : FB f) : zq46 n f = some (decide (Good n ∧ FleetP n f)) := by
 have hn1 := hn.1
 unfold zq46
 rw [good_eq n hn, l1In_eq]
 by_cases h0 : Good n
 ·by_cases h1 : f.Dead.length = n.Stops.length
  ·have hb : ((f.Dead.length : Int) != (n.Stops.length : Int)) = false := by simp; omega
   by_cases h2 : 0 ≤ f.Turn ∧ f.Turn ≤ 30
   ·simp only [h0, hb, h2, and_self, decide_true, Bool.not_true, Bool.false_eq_true, if_false, Option.bind_some, true_and]
    have e : decide (FleetP n f) = decide (RowsP n.Stops.length f) := by
     rw [decide_eq_decide]; unfold FleetP RowsP; simp [h1, h2]
    rw [e]
    refine flb_dec (.iter (fun m v => ∃ i : Nat, v = (i : Int) ∧ m + i = f.Dead.length ∧ ∀ (j : Nat) row, j < i → f.Dead[j]? = some row → RowP n.Stops.length j row) (n := f.Dead.length) ⟨0, rfl, rfl, fun j d h => by omega⟩ ?_)
    rintro m v ⟨i, rfl, hm, h3⟩
    unfold zq46_L2
    refine .iteP (fun hc => ?_) (fun hc => .dn (.inl ⟨rfl, fun j row hj => h3 j row (by have := get_lt hj; omega) hj⟩))
    obtain ⟨row, hr⟩ := get_ex (l := f.Dead) (i := i) (by omega)
    have hrl := hf.2 row (List.mem_of_getElem? hr)
    have ht : ((if ((row.length : Int) != (n.Stops.length : Int)) = true then some true else (idx f.Dead (i : Int)).bind fun e4 => (idx e4 (i : Int)).bind fun e5 => some (e5 != 0))) = some (!decide (row.length = n.Stops.length ∧ row[i]? = some 0)) := by
     rw [ixs hr]; exact row_test (by omega)
    refine .eq (ixs hr) (.eq ht (.iteN (fun hneg => .dn (.inr ⟨rfl, fun h => hneg ⟨(h i row hr).1, (h i row hr).2.1⟩⟩)) (fun hp => .flb ((dead_rowS hr hrl).mono fun b hb' => ⟨fun r hr' => ?_, fun u hu => ?_⟩))))
    ·rcases hb' with ⟨h4, _⟩ | ⟨h4, h5⟩
     ·rw [h4] at hr'; cases hr'
     ·rw [h4] at hr'; cases hr'
      exact ⟨fun a' h => (by cases h), fun b h => (by cases h; exact .inr ⟨rfl, fun h => h5 (h i row hr).2.2⟩)⟩
    ·rcases hb' with ⟨_, h5⟩ | ⟨h4, _⟩
     ·refine .nx ⟨m - 1, by omega, i + 1, w64_succ (by omega), by omega, fun j x hj hx => ?_⟩
      by_cases hji : j = i
      ·subst hji; rw [hr] at hx; cases hx; exact ⟨hp.1, hp.2, h5⟩
      ·exact h3 j x (by omega) hx
     ·rw [h4] at hu; cases hu
   ·have : ¬ FleetP n f := fun h => h2 h.2.1
    simp [h0, hb, h2, this]
  ·have hb : ((f.Dead.length : Int) != (n.Stops.length : Int)) = true := by simp; omega
   have : ¬ FleetP n f := fun h => h1 h.1
   simp [h0, hb, this]
 ·simp [h0]
def AskF (t : Timetable) (f : Fleet) : Prop := GoodT t ∧ FleetP t.Network f
noncomputable instance (t : Timetable) (f : Fleet) : Decidable (AskF t f) := Classical.propDecidable _
theorem isRun_eq {t : Timetable} (hb : TB t) {f : Fleet} (hf : FB f) : zq24 t f = some (decide (AskF t f)) := by
 unfold zq24 AskF
 rw [validT_eq hb, isFleet_eq hb.1.1 hf]
 by_cases h : GoodT t <;> simp [h]
theorem l11Asked_eq {t : Timetable} (hb : TB t) {f : Fleet} (hf : FB f) : zq39 t f = some (decide (AskF t f)) := by
 unfold zq39 AskF
 rw [goodT_eq hb, l11Fleet_eq hb.1 hf]
 by_cases h : GoodT t
 ·have h2 : Good t.Network := h.1
  simp [h, h2]
 ·simp [h]
noncomputable def dv (t : Timetable) (f : Fleet) (x y : Trip) : Int := (zq15 t f x y).getD 0
noncomputable def ev (t : Timetable) (x : Trip) : Int := (zq17 t x).getD 0
theorem dead_both {t : Timetable} {f : Fleet} (h : AskF t f) {i k : Nat} {x y : Trip} (hx : t.Trips[i]? = some x) (hy : t.Trips[k]? = some y) : (0 ≤ dv t f x y ∧ dv t f x y ≤ 120) ∧ zq15 t f x y = some (dv t f x y) ∧ zq45 t f (i : Int) (k : Int) = some (dv t f x y) := by
 obtain ⟨hg, hf1, hf2, hf3⟩ := h
 obtain ⟨la, hla, hpa, _⟩ := trip_line hg hx
 obtain ⟨lb, hlb, hpb, _⟩ := trip_line hg hy
 obtain ⟨⟨a1, a2, a3⟩, a4⟩ := line_runs hpa
 obtain ⟨⟨b1, b2, b3⟩, b4⟩ := line_runs hpb
 obtain ⟨s, hs⟩ := get_ex (l := la.Stops) (i := la.Stops.length - 1) (by omega)
 obtain ⟨u, hu⟩ := get_ex (l := lb.Stops) (i := 0) (by omega)
 have s1 := line_stop hpa hs
 have u1 := line_stop hpb hu
 have ws : w64 ((la.Stops.length : Int) - 1) = ((la.Stops.length - 1 : Nat) : Int) := by rw [w64_id (by omega)]; omega
 obtain ⟨row, hrow⟩ := get_ex (l := f.Dead) (i := s.toNat) (by omega)
 have hR := hf3 s.toNat row hrow
 obtain ⟨d, hd⟩ := get_ex (l := row) (i := u.toNat) (by rw [hR.1]; omega)
 have hdb := hR.2.2 d (List.mem_of_getElem? hd)
 have e1 : zq15 t f x y = some d := by
  unfold zq15 zq28 zq18
  rw [lineOf_eq hla, lineOf_eq hlb]
  simp only [Option.bind_some, ws, idx_nat, hs, idx_of s1.1 hrow, idx0, hu, idx_of u1.1 hd]
 have e2 : zq45 t f (i : Int) (k : Int) = some d := by
  unfold zq45
  rw [l5Stops_eq hx hla, l5Stops_eq hy hlb]
  simp only [Option.bind_some, ws, idx_nat, hs, idx_of s1.1 hrow, idx0, hu, idx_of u1.1 hd]
 have e3 : dv t f x y = d := by unfold dv; rw [e1]; rfl
 rw [e3]
 exact ⟨hdb, e1, e2⟩
theorem end_both {t : Timetable} (hg : GoodT t) {i : Nat} {x : Trip} (hx : t.Trips[i]? = some x) : (x.Start < ev t x ∧ ev t x ≤ 1799) ∧ (0 ≤ x.Start ∧ x.Start ≤ 1799) ∧ zq17 t x = some (ev t x) ∧ zq106 t (i : Int) = some (ev t x) := by
 obtain ⟨l, hl, hp, _, hs, h1, h2⟩ := trip_line hg hx
 have e1 := endOf_eq hg.1 hl hs
 have e2 := l5End_eq hg.1 hx hl hs
 have e3 : ev t x = x.Start + l.Runs.sum := by unfold ev; rw [e1]; rfl
 obtain ⟨⟨a1, a2, a3⟩, a4⟩ := line_runs hp
 have hpos : 1 ≤ l.Runs.sum := by
  cases hr : l.Runs with
  | nil => rw [hr] at a2; simp at a2
  | cons r rs =>
   rw [hr] at a4
   have q1 := a4 r (by simp)
   have q2 := sum_nonneg (l := rs) fun z hz => by have := a4 z (by simp [hz]); omega
   rw [List.sum_cons]; omega
 rw [e3]
 exact ⟨⟨by omega, h2⟩, hs, e1, e2⟩
def Fol (t : Timetable) (f : Fleet) (x y : Trip) : Prop := ev t x + f.Turn + dv t f x y ≤ y.Start
noncomputable instance (t : Timetable) (f : Fleet) (x y : Trip) : Decidable (Fol t f x y) := Classical.propDecidable _
theorem fol_lt {t : Timetable} {f : Fleet} (h : AskF t f) {i k : Nat} {x y : Trip} (hx : t.Trips[i]? = some x) (hy : t.Trips[k]? = some y) (hf : Fol t f x y) : x.Start < y.Start := by
 have h1 := (dead_both h hx hy).1
 have h2 := end_both h.1 hx
 have h3 := h.2.2.1
 unfold Fol at hf; omega
theorem follow_both {t : Timetable} {f : Fleet} (h : AskF t f) {i k : Nat} {x y : Trip} (hx : t.Trips[i]? = some x) (hy : t.Trips[k]? = some y) : zq13 t f x y = some (decide (Fol t f x y)) ∧ zq47 t f (i : Int) (k : Int) = some (decide (Fol t f x y)) := by
 obtain ⟨h1, h2, h3⟩ := dead_both h hx hy
 obtain ⟨g1, g2, g3, g4⟩ := end_both h.1 hx
 have hT := h.2.2.1
 have w1 : w64 (w64 (ev t x + f.Turn) + dv t f x y) = ev t x + f.Turn + dv t f x y := by rw [w64_id (x := ev t x + f.Turn) (by omega), w64_id (by omega)]
 refine ⟨?_, ?_⟩
 ·unfold zq13
  rw [g3, h2]
  simp only [Option.bind_some, w1]; exact congrArg some (decide_eq_decide.2 Iff.rfl)
 ·unfold zq47
  by_cases hik : i = k
  ·subst hik
   rw [hx] at hy; cases hy
   have : ¬ Fol t f x x := fun hf => by have := fol_lt h hx hx hf; omega
   simp [this]
  ·have hb : ((i : Int) != (k : Int)) = true := by simp; omega
   simp only [hb, if_true, idx_nat, hy, g4, h3, Option.bind_some, w1]; exact congrArg some (decide_eq_decide.2 Iff.rfl)
theorem or64 {u a : Nat} (hu : u < 4096) (ha : a < 4096) : IntKind.i64.wrap (((BitVec.ofInt (IntKind.i64).bits (u : Int) ||| BitVec.ofInt (IntKind.i64).bits (a : Int)).toNat : Nat) : Int) = ((u ||| a : Nat) : Int) := by
 have h1 : (BitVec.ofInt (IntKind.i64).bits (u : Int)).toNat = u := by
  rw [BitVec.ofInt_natCast, BitVec.toNat_ofNat]
  exact Nat.mod_eq_of_lt (by show u < 2 ^ 64; omega)
 have h2 : (BitVec.ofInt (IntKind.i64).bits (a : Int)).toNat = a := by
  rw [BitVec.ofInt_natCast, BitVec.toNat_ofNat]
  exact Nat.mod_eq_of_lt (by show a < 2 ^ 64; omega)
 rw [BitVec.toNat_or, h1, h2]
 have h3 : u ||| a < 2 ^ 12 := Nat.or_lt_two_pow (by omega) (by omega)
 exact w64_id (x := ((u ||| a : Nat) : Int)) (by omega)
theorem w64_dn {n q : Nat} (hc : ((n - q : Nat) : Int) < (n : Int)) (hq : q ≤ n) (hn : n ≤ 1000000) : w64 (((n - q : Nat) : Int) + 1) = ((n - (q - 1) : Nat) : Int) := by
 rw [w64_id (by omega)]; omega
theorem bit_ok {n : Nat} (hn : n ≤ 9) {v : Int} (hv : v = -1 ∨ (0 ≤ v ∧ v < n)) : ∃ s : Nat, w64 (1 * 2 ^ (min ((IntKind.u64.wrap v) : Int).toNat (IntKind.i64).bits)) = (s : Int) ∧ s < 2 ^ n := by
 rcases hv with rfl | ⟨h0, h1⟩
 ·refine ⟨0, ?_, Nat.two_pow_pos n⟩
  kernel_rfl
 ·have e : IntKind.u64.wrap v = v := Int.emod_eq_of_lt h0 (by show v < (18446744073709551616 : Int); omega)
  rw [e]
  have hmin : min v.toNat (IntKind.i64).bits = v.toNat := Nat.min_eq_left (by show v.toNat ≤ 64; omega)
  rw [hmin]
  have hlt : 2 ^ v.toNat < 2 ^ n := Nat.pow_lt_pow_right (by omega) (by omega)
  have h9 : 2 ^ n ≤ 2 ^ 9 := Nat.pow_le_pow_right (by omega) hn
  refine ⟨2 ^ v.toNat, ?_, hlt⟩
  have e2 : (1 : Int) * 2 ^ v.toNat = ((2 ^ v.toNat : Nat) : Int) := by rw [Int.one_mul, Int.natCast_pow]; rfl
  rw [e2]
  generalize 2 ^ v.toNat = p at hlt ⊢
  generalize 2 ^ n = q at hlt h9
  exact w64_id (by omega)
theorem u64_nn (v : Int) : (0 : Int) ≤ IntKind.u64.wrap v := (u64_rng v).1
def KS (n : Nat) (kn : List (List Int)) : Prop := kn.length = n ∧ ∀ row ∈ kn, row.length = 2 ^ n
theorem ks_set {n : Nat} {kn : List (List Int)} (h : KS n kn) {i : Nat} {row : List Int} (hr : row.length = 2 ^ n) : KS n (kn.set i row) := by
 refine ⟨by rw [List.length_set]; exact h.1, fun r hm => ?_⟩
 rcases List.mem_or_eq_of_mem_set hm with hm | rfl
 ·exact h.2 r hm
 ·exact hr
theorem used_or {n : Nat} (hn : n ≤ 9) {u : Int} (hu : 0 ≤ u ∧ u < (2 ^ n : Nat)) {s : Nat} (hs : s < 2 ^ n) : 0 ≤ IntKind.i64.wrap (((BitVec.ofInt (IntKind.i64).bits u ||| BitVec.ofInt (IntKind.i64).bits (s : Int)).toNat : Nat) : Int) ∧ IntKind.i64.wrap (((BitVec.ofInt (IntKind.i64).bits u ||| BitVec.ofInt (IntKind.i64).bits (s : Int)).toNat : Nat) : Int) < (2 ^ n : Nat) := by
 have h9 : 2 ^ n ≤ 2 ^ 9 := Nat.pow_le_pow_right (by omega) hn
 obtain ⟨m, rfl⟩ : ∃ m : Nat, u = (m : Int) := ⟨u.toNat, by omega⟩
 rw [or64 (by omega) (by omega)]
 have := Nat.or_lt_two_pow (x := m) (y := s) (n := n) (by omega) hs
 omega
theorem cost_ok {t : Timetable} {f : Fleet} (h : AskF t f) (h9 : t.Trips.length ≤ 9) : ∀ (m N : Nat) (kn : List (List Int)) (i : Nat) (u : Int), m + i = t.Trips.length → m < N → KS t.Trips.length kn → (0 ≤ u ∧ u < (2 ^ t.Trips.length : Nat)) →
  Tot (zq48_k N ⟨t, f, kn⟩ (i : Int) u) fun r => KS t.Trips.length r.2
 | m, 0, kn, i, u, _, hN, _, _ => by omega
 | m, N + 1, kn, i, u, hm, hN, hk, hu => by
  show Tot (zq48_F (zq48_k N) ⟨t, f, kn⟩ (i : Int) u) _
  unfold zq48_F
  by_cases hi : i = t.Trips.length
  ·have hb : ((i : Int) == (t.Trips.length : Int)) = true := by simp; omega
   simp only [hb, if_true]
   exact .ok hk
  ·have hb : ((i : Int) == (t.Trips.length : Int)) = false := by simp; omega
   simp only [hb, Bool.false_eq_true, if_false]
   have getr : ∀ {kn : List (List Int)}, KS t.Trips.length kn → ∃ row, kn[i]? = some row ∧ row.length = 2 ^ t.Trips.length := fun {kn} hk => by
    obtain ⟨row, hr⟩ := get_ex (l := kn) (i := i) (by rw [hk.1]; omega)
    exact ⟨row, hr, hk.2 row (List.mem_of_getElem? hr)⟩
   obtain ⟨row, hr, hrl⟩ := getr hk
   have hw : w64 ((i : Int) + 1) = ((i + 1 : Nat) : Int) := w64_succ (by omega)
   refine .eq (ixs hr) (.idx hu.1 (by omega) fun e1 he1 => .iteP (fun _ => .eq (ixs hr) (.idx hu.1 (by omega) fun e3 _ => .ok hk)) fun _ => ?_)
   rw [hw]
   refine .call (cost_ok h h9 (m - 1) N kn (i + 1) u (by omega) (by omega) hk hu) fun r hr1 => ?_
   refine .call (P := fun o => KS t.Trips.length o.2) ?_ fun o ho => ?_
   ·refine .iter (fun q s => s.2.1 = ((t.Trips.length - q : Nat) : Int) ∧ q ≤ t.Trips.length ∧ KS t.Trips.length s.2.2) (n := t.Trips.length) ⟨by simp, Nat.le_refl _, hr1⟩ ?_
    rintro q ⟨v, v1, v2⟩ ⟨hv, hq, hkv⟩
    simp only at hv hkv
    subst hv
    unfold zq48_L1
    refine .iteP (fun hc => ?_) (fun hc => .dn hkv)
    have hq0 : 0 < q := by simp only at hc; omega
    obtain ⟨x, hx⟩ := get_ex (l := t.Trips) (i := t.Trips.length - q) (by omega)
    obtain ⟨y, hy⟩ := get_ex (l := t.Trips) (i := i) (by omega)
    have hfo := (follow_both h hx hy).2
    have hde := (dead_both h hx hy).2.2
    obtain ⟨s, hs1, hs2⟩ := bit_ok (n := t.Trips.length) h9 (v := ((t.Trips.length - q : Nat) : Int)) (.inr ⟨by omega, by omega⟩)
    refine .call (P := fun o => KS t.Trips.length o.2) (.chk (u64_nn _) (.call (P := fun _ => True) (.ite (fun _ => .eq hfo (.ok trivial)) fun _ => .ok trivial) fun v5 _ => .ite (fun _ => ?_) fun _ => .ok hkv)) fun o ho => .nx ⟨q - 1, by omega, ?_, by omega, ho⟩
    ·refine .eq hde (.chk (u64_nn _) ?_)
     rw [hs1, hw]
     refine .call (cost_ok h h9 (m - 1) N v2 (i + 1) _ (by omega) (by omega) hkv (used_or h9 hu hs2)) fun r7 h7 => ?_
     unfold zq88
     exact .call (P := fun _ => True) (.iteP (fun _ => .ok trivial) fun _ => .ok trivial) fun _ _ => .ok h7
    ·show w64 (((t.Trips.length - q : Nat) : Int) + 1) = _
     rw [w64_id (by omega)]; omega
   ·obtain ⟨v6, v7⟩ := o
    obtain ⟨row', hr', hrl'⟩ := getr ho
    refine .eq (ixs hr') (.idx hu.1 (by omega) fun e5 _ => .ok (ks_set ho (by rw [List.length_set]; exact hrl')))
theorem cost_all {t : Timetable} {f : Fleet} (h : AskF t f) (h9 : t.Trips.length ≤ 9) {kn : List (List Int)} {i : Nat} {u : Int} (hi : i ≤ t.Trips.length) (hk : KS t.Trips.length kn) (hu : 0 ≤ u ∧ u < (2 ^ t.Trips.length : Nat)) : Tot (zq48 ⟨t, f, kn⟩ (i : Int) u) fun r => KS t.Trips.length r.2 := by
 unfold zq48
 exact cost_ok h h9 (t.Trips.length - i) _ kn i u (by omega) (by omega) hk hu
def BeP (t : Timetable) (f : Fleet) (before : List Int) : Prop := before.length = t.Trips.length ∧ ∀ (i : Nat) b, before[i]? = some b → b = -1 ∨ ∃ (k : Nat) (x y : Trip), b = (k : Int) ∧ t.Trips[k]? = some x ∧ t.Trips[i]? = some y ∧ Fol t f x y
theorem before_ok {t : Timetable} {f : Fleet} (h : AskF t f) (h9 : t.Trips.length ≤ 9) : Tot (zq40 t f) (BeP t f) := by
 have hp9 : 2 ^ t.Trips.length ≤ 2 ^ 9 := Nat.pow_le_pow_right (by omega) h9
 have hpp := Nat.two_pow_pos t.Trips.length
 unfold zq40
 have hsz : w64 (1 * 2 ^ (min ((IntKind.u64.wrap (t.Trips.length : Int)) : Int).toNat (IntKind.i64).bits)) = ((2 ^ t.Trips.length : Nat) : Int) := by
  have e : IntKind.u64.wrap (t.Trips.length : Int) = (t.Trips.length : Int) := Int.emod_eq_of_lt (by omega) (by show (t.Trips.length : Int) < (18446744073709551616 : Int); omega)
  rw [e]
  have hmin : min ((t.Trips.length : Int)).toNat (IntKind.i64).bits = t.Trips.length := by rw [Int.toNat_natCast]; exact Nat.min_eq_left (by show t.Trips.length ≤ 64; omega)
  rw [hmin]
  have e2 : (1 : Int) * 2 ^ t.Trips.length = ((2 ^ t.Trips.length : Nat) : Int) := by rw [Int.one_mul, Int.natCast_pow]; rfl
  rw [e2]
  generalize 2 ^ t.Trips.length = p at hp9 ⊢
  exact w64_id (by omega)
 refine .call (P := KS t.Trips.length) ?_ fun v1 hv1 => .call (P := BeP t f) ?_ fun o ho => .ok ho
 ·refine .iter (fun q s => s.1 = ((t.Trips.length - q : Nat) : Int) ∧ q ≤ t.Trips.length ∧ s.2.length = t.Trips.length - q ∧ ∀ row ∈ s.2, row.length = 2 ^ t.Trips.length) (n := t.Trips.length) ⟨by simp, Nat.le_refl _, by simp, by simp⟩ ?_
  rintro q ⟨k, v⟩ ⟨hk, hq, hl, hr⟩
  simp only at hk hl hr
  subst hk
  unfold zq40_L2
  refine .iteP (fun hc => ?_) (fun hc => .dn ⟨by omega, hr⟩)
  rw [hsz]
  refine .chk (u64_nn _) (.chk ⟨by omega, by omega⟩ (.call (P := fun o => o.length = 2 ^ t.Trips.length) ?_ fun o ho => .chk (by simp; omega) (.nx ⟨q - 1, by omega, ?_, by omega, ?_, fun row hm => ?_⟩)))
  ·refine .iter (fun q s => s.1 = ((2 ^ t.Trips.length - q : Nat) : Int) ∧ q ≤ 2 ^ t.Trips.length ∧ s.2.length = 2 ^ t.Trips.length) (n := 2 ^ t.Trips.length) ⟨by simp, Nat.le_refl _, by show (List.replicate _ _).length = _; rw [List.length_replicate, Int.toNat_natCast]⟩ ?_
   rintro q ⟨k, o⟩ ⟨hk, hq, hl⟩
   simp only at hk hl
   subst hk
   unfold zq40_L1
   refine .iteP (fun hc => .idx (by omega) hc fun e _ => .nx ⟨q - 1, by omega, ?_, by omega, by rw [List.length_set]; exact hl⟩) (fun hc => .dn hl)
   show w64 (((2 ^ t.Trips.length - q : Nat) : Int) + 1) = _
   rw [w64_id (by omega)]; omega
  ·show w64 (((t.Trips.length - q : Nat) : Int) + 1) = _
   rw [w64_id (by omega)]; omega
  ·simp; omega
  ·rcases List.mem_append.1 hm with hm | hm
   ·exact hr row hm
   ·rw [List.mem_singleton.1 hm]; exact ho
 ·refine .iter (fun q (s : Int × Int × List Int × List (List Int)) => s.2.1 = ((t.Trips.length - q : Nat) : Int) ∧ q ≤ t.Trips.length ∧ s.2.2.1.length = t.Trips.length - q ∧ (0 ≤ s.1 ∧ s.1 < (2 ^ t.Trips.length : Nat)) ∧ KS t.Trips.length s.2.2.2 ∧ ∀ (i : Nat) b, s.2.2.1[i]? = some b → b = -1 ∨ ∃ (k : Nat) (x y : Trip), b = (k : Int) ∧ t.Trips[k]? = some x ∧ t.Trips[i]? = some y ∧ Fol t f x y) (n := t.Trips.length) ⟨by simp, Nat.le_refl _, by simp, ⟨Int.le_refl 0, Int.ofNat_lt.2 hpp⟩, hv1, by simp⟩ ?_
  rintro q ⟨want, before, i, v2⟩ ⟨hb, hq, hl, hu, hk, hB⟩
  simp only at hb hl hu hk hB
  subst hb
  unfold zq40_L4
  refine .iteP (fun hc => ?_) (fun hc => .dn ⟨by omega, hB⟩)
  have hw : w64 (((t.Trips.length - q : Nat) : Int) + 1) = ((t.Trips.length - q + 1 : Nat) : Int) := w64_succ (by omega)
  obtain ⟨y, hy⟩ := get_ex (l := t.Trips) (i := t.Trips.length - q) (by omega)
  refine .call (cost_all h h9 (by omega) hk hu) fun r hr => .call (P := fun (o : Int × Int × List (List Int)) => (0 ≤ o.1 ∧ o.1 < (2 ^ t.Trips.length : Nat)) ∧ KS t.Trips.length o.2.2 ∧ (o.2.1 = -1 ∨ ∃ (k : Nat) (x : Trip), o.2.1 = (k : Int) ∧ t.Trips[k]? = some x ∧ Fol t f x y)) ?_ fun ⟨want1, v3, v4⟩ hh => .chk (by clear hh; simp; omega) (.nx ⟨q - 1, by clear hh; omega, ?_, by clear hh; omega, ?_, hh.1, hh.2.1, fun j b hj => ?_⟩)
  ·rw [hw]
   refine .call (cost_all h h9 (by omega) hr hu) fun r1 hr1 => .ite (fun _ => ?_) fun _ => .ok ⟨hu, hr1, .inl rfl⟩
   refine .call (P := fun o => KS t.Trips.length o.2 ∧ (o.1 = -1 ∨ ∃ (k : Nat) (x : Trip), o.1 = (k : Int) ∧ t.Trips[k]? = some x ∧ Fol t f x y)) ?_ fun ⟨v13, v14⟩ ⟨g1, g2⟩ => .chk (u64_nn _) (.ok ?_)
   ·refine .iter (fun p s => s.2.1 = ((t.Trips.length - p : Nat) : Int) ∧ p ≤ t.Trips.length ∧ KS t.Trips.length s.2.2 ∧ (s.1 = -1 ∨ ∃ (k : Nat) (x : Trip), s.1 = (k : Int) ∧ t.Trips[k]? = some x ∧ Fol t f x y)) (n := t.Trips.length) ⟨by simp, Nat.le_refl _, hr1, .inl rfl⟩ ?_
    rintro p ⟨v5, v6, v7⟩ ⟨hv, hp, hkv, hok⟩
    simp only at hv hkv hok
    subst hv
    unfold zq40_L3
    refine .call (P := fun b => b = true → 0 < p) (.iteP (fun hc => .ok fun _ => by omega) fun _ => .ok fun h => by cases h) fun b hb => .ite (fun hbt => ?_) fun _ => .dn ⟨hkv, hok⟩
    have hp0 := hb hbt
    obtain ⟨x, hx⟩ := get_ex (l := t.Trips) (i := t.Trips.length - p) (by omega)
    have hfo := (follow_both h hx hy).2
    have hde := (dead_both h hx hy).2.2
    obtain ⟨s, hs1, hs2⟩ := bit_ok (n := t.Trips.length) h9 (v := ((t.Trips.length - p : Nat) : Int)) (.inr ⟨by omega, by omega⟩)
    refine .call (P := fun o => KS t.Trips.length o.2 ∧ (o.1 = -1 ∨ ∃ (k : Nat) (x : Trip), o.1 = (k : Int) ∧ t.Trips[k]? = some x ∧ Fol t f x y)) (.chk (u64_nn _) (.call (P := fun o => KS t.Trips.length o.2 ∧ (o.1 = true → Fol t f x y)) ?_ fun ⟨v11, v12⟩ ⟨a1, a2⟩ => .ite (fun ht => .ok ⟨a1, .inr ⟨_, x, rfl, hx, a2 ht⟩⟩) fun _ => .ok ⟨a1, hok⟩)) fun ⟨v9, v10⟩ ⟨b1, b2⟩ => .nx ⟨p - 1, by omega, ?_, by omega, b1, b2⟩
    ·refine .ite (fun _ => .eq hfo (.iteP (fun hF => .eq hde (.chk (u64_nn _) ?_)) fun _ => .ok ⟨hkv, fun h => by cases h⟩)) fun _ => .ok ⟨hkv, fun h => by cases h⟩
     rw [hs1, hw]
     exact .call (cost_all h h9 (by omega) hkv (used_or h9 hu hs2)) fun r4 h4 => .ok ⟨h4, fun _ => hF⟩
    ·show w64 (((t.Trips.length - p : Nat) : Int) + 1) = _
     rw [w64_id (by omega)]; omega
   ·obtain ⟨s, hs1, hs2⟩ := bit_ok (n := t.Trips.length) h9 (v := v13) (by
     rcases g2 with g2 | ⟨k, x, g2, hx, _⟩
     ·exact .inl g2
     ·have := get_lt hx
      exact .inr ⟨by simp only at g2; omega, by simp only at g2; omega⟩)
    dsimp only
    rw [hs1]
    exact ⟨used_or h9 hu hs2, g1, g2⟩
  ·exact w64_dn hc hq (by clear hh; omega)
  ·clear hh
   show (i ++ [v3]).length = _
   simp; omega
  ·have h3 := hh.2.2
   clear hh
   simp only at h3
   have hj : (i ++ [v3])[j]? = some b := hj
   rcases Nat.lt_or_ge j i.length with hji | hji
   ·rw [List.getElem?_append_left hji] at hj
    exact hB j b hj
   ·rw [List.getElem?_append_right hji] at hj
    have := get_lt hj
    simp only [List.length_singleton] at this
    have hj0 : j = t.Trips.length - q := by omega
    subst hj0
    rw [show t.Trips.length - q - i.length = 0 by omega] at hj
    simp only [List.getElem?_cons_zero, Option.some.injEq] at hj
    subst hj
    rcases h3 with h3 | ⟨k, x, h3, hx, hF⟩
    ·exact .inl h3
    ·exact .inr ⟨k, x, y, h3, hx, hy, hF⟩
theorem chainT_L1 (before : List Int) (hl : before.length ≤ 9) (k : Int) : Tot (iter (zq43_L1 before k) (((-1) : Int), (0 : Int))) fun v => v = -1 ∨ ∃ j : Nat, v = (j : Int) ∧ before[j]? = some k := by
 refine .iter (fun q s => s.2 = ((before.length - q : Nat) : Int) ∧ q ≤ before.length ∧ (s.1 = -1 ∨ ∃ j : Nat, s.1 = (j : Int) ∧ before[j]? = some k)) (n := before.length) ⟨by simp, Nat.le_refl _, .inl rfl⟩ ?_
 rintro q ⟨v, v1⟩ ⟨hv, hq, hok⟩
 simp only at hv hok
 subst hv
 unfold zq43_L1
 refine .iteP (fun hc => ?_) (fun hc => .dn hok)
 obtain ⟨b, hb⟩ := get_ex (l := before) (i := before.length - q) (by omega)
 refine .call (P := fun v => v = -1 ∨ ∃ j : Nat, v = (j : Int) ∧ before[j]? = some k) (.eq (ixs hb) (.ite (fun he => .ok (.inr ⟨_, rfl, by rw [hb]; simpa using he⟩)) fun _ => .ok hok)) fun v2 h2 => .nx ⟨q - 1, by omega, ?_, by omega, h2⟩
 exact w64_dn hc hq (by omega)
theorem chainT_L2 {t : Timetable} {f : Fleet} (h : AskF t f) (h9 : t.Trips.length ≤ 9) {before : List Int} (hB : BeP t f before) {i : Nat} (hi : i < before.length) : Tot (iter (zq43_L2 t before) ((i : Int), ([] : List Int))) fun b => 1 ≤ b.length ∧ b.length ≤ 1801 := by
 refine .iter (fun q s => s.2.length + q ≤ 1801 ∧ ((s.1 = -1 ∧ 1 ≤ s.2.length) ∨ ∃ (k : Nat) (x : Trip), s.1 = (k : Int) ∧ t.Trips[k]? = some x ∧ 1800 - x.Start ≤ (q : Int))) (n := 1801) ⟨by simp, .inr ?_⟩ ?_
 ·obtain ⟨x, hx⟩ := get_ex (l := t.Trips) (i := i) (by rw [← hB.1]; exact hi)
  have := (end_both h.1 hx).2.1
  exact ⟨i, x, rfl, hx, by omega⟩
 ·rintro q ⟨k, next⟩ ⟨hl, hk⟩
  simp only at hl hk
  unfold zq43_L2
  refine .iteP (fun hc => ?_) (fun hc => .dn ?_)
  ·rcases hk with ⟨hk, _⟩ | ⟨j, x, hk, hx, hs⟩
   ·omega
   ·subst hk
    have hst := (end_both h.1 hx).2.1
    refine .eq (ixs hx) (.chk (by simp; omega) (.call (chainT_L1 before (by rw [hB.1]; exact h9) (j : Int)) fun v3 h3 => .nx ⟨q - 1, by omega, by simp; omega, ?_⟩))
    rcases h3 with h3 | ⟨j', h3, hb⟩
    ·exact .inl ⟨h3, by simp⟩
    ·right
     rcases hB.2 j' _ hb with hb | ⟨k', x', y, e1, e2, e3, hF⟩
     ·omega
     ·have : k' = j := by omega
      subst this
      rw [hx] at e2; cases e2
      have := fol_lt h hx e3 hF
      exact ⟨j', y, h3, e3, by omega⟩
  ·rcases hk with ⟨_, hk⟩ | ⟨j, x, hk, _, _⟩
   ·exact ⟨hk, by omega⟩
   ·omega
theorem chainT_ok {t : Timetable} {f : Fleet} (h : AskF t f) (h9 : t.Trips.length ≤ 9) {before : List Int} (hB : BeP t f before) : Tot (zq43 t before) fun B => B.length ≤ 9 ∧ ∀ b ∈ B, 1 ≤ b.length ∧ b.length ≤ 1801 := by
 have hbl := hB.1
 unfold zq43
 refine .call (P := fun B => B.length ≤ 9 ∧ ∀ b ∈ B, 1 ≤ b.length ∧ b.length ≤ 1801) ?_ fun B hB => .ok hB
 refine .iter (fun q s => s.1 = ((before.length - q : Nat) : Int) ∧ q ≤ before.length ∧ s.2.length + q ≤ 9 ∧ ∀ b ∈ s.2, 1 ≤ b.length ∧ b.length ≤ 1801) (n := before.length) ⟨by simp, Nat.le_refl _, by simp; omega, by simp⟩ ?_
 rintro q ⟨v, B⟩ ⟨hv, hq, hl, hb⟩
 simp only at hv hl hb
 subst hv
 unfold zq43_L3
 refine .iteP (fun hc => ?_) (fun hc => .dn ⟨by omega, hb⟩)
 obtain ⟨e, he⟩ := get_ex (l := before) (i := before.length - q) (by omega)
 refine .call (P := fun B' => B'.length + (q - 1) ≤ 9 ∧ ∀ b ∈ B', 1 ≤ b.length ∧ b.length ≤ 1801) (.eq (ixs he) (.iteP (fun _ => .ok ⟨by omega, hb⟩) fun _ => .call (chainT_L2 h h9 hB (by omega)) fun b hb' => .chk (by simp; omega) (.ok ⟨by simp; omega, fun x hx => ?_⟩))) fun B' hB' => .nx ⟨q - 1, by omega, ?_, by omega, hB'⟩
 ·rcases List.mem_append.1 hx with hx | hx
  ·exact hb x hx
  ·rw [List.mem_singleton.1 hx]; exact hb'
 ·show w64 (((before.length - q : Nat) : Int) + 1) = _
  rw [w64_id (by omega)]; omega
def Pc {α : Type} (m : Option α) (Q : α → Prop) : Prop := ∀ r, m = some r → Q r
theorem Pc.call {α β : Type} {m : Option α} {P : α → Prop} {k : α → Option β} {Q : β → Prop} (h : Tot m P) (hk : ∀ x, P x → Pc (k x) Q) : Pc (m.bind k) Q := by
 obtain ⟨x, hx, hp⟩ := h
 subst hx
 exact hk x hp
theorem Pc.any {α β : Type} {m : Option α} {k : α → Option β} {Q : β → Prop} (hk : ∀ x, Pc (k x) Q) : Pc (m.bind k) Q := by
 intro r hr
 obtain ⟨x, _, hx⟩ := obind hr
 exact hk x r hx
theorem Pc.bind {α β : Type} {m : Option α} {k : α → Option β} {P : α → Prop} {Q : β → Prop} (h : Pc m P) (hk : ∀ x, P x → Pc (k x) Q) : Pc (m.bind k) Q := by
 intro r hr
 obtain ⟨x, hm, hx⟩ := obind hr
 exact hk x (h x hm) r hx
theorem Pc.ok {α : Type} {a : α} {Q : α → Prop} (h : Q a) : Pc (some a) Q := by intro r hr; cases hr; exact h
theorem Pc.ite {α : Type} {c : Bool} {a b : Option α} {Q : α → Prop} (h1 : Pc a Q) (h2 : Pc b Q) : Pc (if c = true then a else b) Q := by
 cases c
 ·exact h2
 ·exact h1
theorem Pc.flb {R V : Type} {m : Option (Fl R V)} {k : V → Option R} {Q : R → Prop} (h : Pc m fun v => (∀ r, v = .ret r → Q r) ∧ ∀ u, v = .go u → Pc (k u) Q) : Pc (Ab.flb m k) Q := by
 intro r hr
 obtain ⟨v, hv, h2⟩ := obind hr
 have := h v hv
 cases v with
 | ret r' => cases h2; exact this.1 _ rfl
 | go u => exact this.2 u rfl r h2
theorem Pc.go {R V : Type} {u : V} {Q : R → Prop} {P : V → Prop} (h : P u) : Pc (some (Fl.go u : Fl R V)) fun v => (∀ r, v = .ret r → Q r) ∧ ∀ u, v = .go u → P u := Pc.ok ⟨fun r h => (by cases h), fun u' h => by cases h; assumption⟩
theorem Pc.ret {R V : Type} {r : R} {Q : R → Prop} {P : V → Prop} (h : Q r) : Pc (some (Fl.ret r : Fl R V)) fun v => (∀ r, v = .ret r → Q r) ∧ ∀ u, v = .go u → P u := Pc.ok ⟨fun r' h => by cases h; assumption, fun u h => by cases h⟩
theorem Tot.pc {α : Type} {m : Option α} {P Q : α → Prop} (h : Tot m P) (hq : Pc m Q) : Tot m fun r => P r ∧ Q r := by
 obtain ⟨x, hx, hp⟩ := h
 exact ⟨x, hx, hp, hq x hx⟩
theorem anyNet_st {k : Nat} {c : l1Cur} (h : Cur k c) (hk : k ≤ 200000000) : Pc (zq63 c) fun r => 2 ≤ r.1.Stops.length := by
 unfold zq63
 refine .call (networkT_ok h (by omega)) fun r ⟨_, hn⟩ => .any fun r1 => .any fun e => .flb ?_
 have h2 := hn.1.1
 have fin : ∀ (v : List UInt8) (v1 v2 : Int) (v3 : ByteArray) (v4 : List ByteArray) (v5 : List Line) (v6 : List Int), 2 ≤ v4.length → Pc ((idx v5 r1.1).bind fun e9 => some ((⟨v4, (v5.set r1.1.toNat (⟨v3, e9.Stops, v6⟩ : Line))⟩ : Network), (⟨v, v1, (⟨v2⟩ : IK .u64)⟩ : l1Cur))) fun r => 2 ≤ r.1.Stops.length := fun v v1 v2 v3 v4 v5 v6 hv => .any fun e9 => .ok hv
 refine .any fun r2 => .ite (.any fun r4 => .any fun e2 => .go (fin _ _ _ _ _ _ _ (by rw [List.length_set]; exact h2))) (.ite (.any fun r5 => .go (fin _ _ _ _ _ _ _ h2)) (.ite (.any fun r8 => .any fun r9 => .any fun e4 => .go (fin _ _ _ _ _ _ _ h2)) (.ite (.any fun r12 => .any fun r13 => .any fun e6 => .go (fin _ _ _ _ _ _ _ h2)) (.ite (.any fun u => .go (fin _ _ _ _ _ _ _ h2)) (.ite (.ret h2) (.ite (.any fun ⟨v13, v14, v15, v16⟩ => .ret h2) (.go (fin _ _ _ _ _ _ _ h2))))))))
theorem anyTime_st {k : Nat} {c : l1Cur} (h : Cur k c) (hk : k ≤ 50000000) : Pc (zq65 c) fun r => 2 ≤ r.1.Network.Stops.length := by
 unfold zq65
 refine .call (timetable_ok h (by omega)) fun r ⟨hc, _, hn, hl⟩ => ?_
 have h2 := hn.1.1
 refine .ite (.ok h2) (.call (pick_ok _ hc (by omega)) fun r1 ⟨hc1, _⟩ => .any fun e => .flb (.call (pick_ok 24 hc1 (by omega)) fun r2 ⟨hc2, _⟩ => ?_))
 have fin : ∀ (v : List UInt8) (v1 v2 : Int) (v3 : List Line) (v4 v5 v6 : Int) (v7 : List ByteArray), 2 ≤ v7.length → Pc ((idx r.1.Trips r1.1).bind fun e2 => some ((⟨(⟨v7, v3⟩ : Network), (r.1.Trips.set r1.1.toNat (⟨v4, v5, v6⟩ : Trip))⟩ : Timetable), (⟨v, v1, (⟨v2⟩ : IK .u64)⟩ : l1Cur))) fun r => 2 ≤ r.1.Network.Stops.length := fun v v1 v2 v3 v4 v5 v6 v7 hv => .any fun e9 => .ok hv
 refine .ite (.any fun r3 => .go (fin _ _ _ _ _ _ _ _ h2)) (.ite (.any fun r4 => .go (fin _ _ _ _ _ _ _ _ h2)) (.ite (.any fun r5 => .go (fin _ _ _ _ _ _ _ _ h2)) (.ite (.bind (anyNet_st hc2 (by omega)) fun r6 h6 => .go (fin _ _ _ _ _ _ _ _ h6)) (.ite (.any fun ⟨v14, v15, v16, v17⟩ => .ret h2) (.go (fin _ _ _ _ _ _ _ _ h2))))))
theorem trips_st {k : Nat} {c : l1Cur} (h : Cur k c) (hk : k ≤ 40000000) : Pc (zq84 c) fun r => 2 ≤ r.1.Network.Stops.length := by
 unfold zq84
 refine .call (one_ok 16 h (by omega)) fun r hc => .ite (.bind (anyTime_st hc (by omega)) fun r1 h1 => .ok h1) (.call (network_ok hc (by omega)) fun r2 ⟨_, hn⟩ => .any fun r3 => .any fun ⟨v4, v5, v6, v7⟩ => .any fun v9 => .ok hn.1.1)
theorem fleet_ok {k : Nat} {c : l1Cur} {n : Network} (h : Cur k c) (hk : k ≤ 30000000) (hn : 2 ≤ n.Stops.length ∧ n.Stops.length ≤ 1000) : Tot (zq69 c n) fun r => Cur (k + 3000000) r.2 ∧ FB r.1 := by
 unfold zq69
 refine .call (t_amongw _ (by simp) h (by omega)) fun r ⟨hc, _⟩ => ?_
 refine .call (P := fun o => Cur (k + 2 + 2000 * n.Stops.length) ⟨o.1, o.2.1, ⟨o.2.2.1⟩⟩ ∧ o.2.2.2.length = n.Stops.length ∧ ∀ row ∈ o.2.2.2, row.length = n.Stops.length) ?_ fun ⟨v13, v14, v15, v16⟩ ⟨hc1, hl, hr⟩ => ?_
 ·refine .iter (fun q s => s.1 = ((n.Stops.length - q : Nat) : Int) ∧ q ≤ n.Stops.length ∧ s.2.2.2.2.length = n.Stops.length - q ∧ (∀ row ∈ s.2.2.2.2, row.length = n.Stops.length) ∧ Cur (k + 2 + 2000 * (n.Stops.length - q)) ⟨s.2.1, s.2.2.1, ⟨s.2.2.2.1⟩⟩) (n := n.Stops.length) ⟨by simp, Nat.le_refl _, by simp, by simp, hc.mono (by omega)⟩ ?_
  rintro q ⟨v, w1, w2, w3, w4⟩ ⟨hv, hq, hl, hr, hcur⟩
  simp only at hv hl hr hcur
  subst hv
  unfold zq69_L2
  refine .iteP (fun hcc => ?_) (fun hcc => .dn ⟨hcur.mono (by omega), by simp only; omega, hr⟩)
  have hq0 : 0 < q := by omega
  refine .call (P := fun o => Cur (k + 2 + 2000 * (n.Stops.length - q) + 2 * n.Stops.length) ⟨o.1, o.2.1, ⟨o.2.2.1⟩⟩ ∧ o.2.2.2.length = n.Stops.length) ?_ fun ⟨v9, v10, v11, v12⟩ ⟨hc2, hl2⟩ => .chk (by simp; omega) (.nx ⟨q - 1, by omega, ?_, by omega, ?_, fun row hm => ?_, hc2.mono (by omega)⟩)
  ·refine .iter (fun p s => s.1 = ((n.Stops.length - p : Nat) : Int) ∧ p ≤ n.Stops.length ∧ s.2.2.2.2.length = n.Stops.length - p ∧ Cur (k + 2 + 2000 * (n.Stops.length - q) + 2 * (n.Stops.length - p)) ⟨s.2.1, s.2.2.1, ⟨s.2.2.2.1⟩⟩) (n := n.Stops.length) ⟨by simp, Nat.le_refl _, by simp, hcur.mono (by omega)⟩ ?_
   rintro p ⟨v, x1, x2, x3, x4⟩ ⟨hv, hp, hl, hcur⟩
   simp only at hv hl hcur
   subst hv
   unfold zq69_L1
   refine .iteP (fun hcc => ?_) (fun hcc => .dn ⟨hcur.mono (by omega), by simp only; omega⟩)
   have hp0 : 0 < p := by omega
   refine .call (P := fun _ => True) (by unfold zq89; exact .iteP (fun _ => .ok trivial) fun _ => .ok trivial) fun r1 _ => .call (t_pick 4 hcur (by omega)) fun r2 ⟨hc2, _⟩ => .chk (by simp; omega) (.nx ⟨p - 1, by omega, ?_, by omega, by simp; omega, hc2.mono (by omega)⟩)
   show w64 (((n.Stops.length - p : Nat) : Int) + 1) = _
   rw [w64_id (by omega)]; omega
  ·show w64 (((n.Stops.length - q : Nat) : Int) + 1) = _
   rw [w64_id (by omega)]; omega
  ·simp; omega
  ·have hm : row ∈ w4 ++ [v12] := hm
   rcases List.mem_append.1 hm with hm | hm
   ·exact hr row hm
   ·rw [List.mem_singleton.1 hm]; exact hl2
 ·simp only at hc1 hl hr
  obtain ⟨e, he⟩ := get_ex (l := v16) (i := 0) (by omega)
  have hel := hr e (List.mem_of_getElem? he)
  have hz : idx v16 0 = some e := ixs he
  have hset : ∀ (row : List Int), row.length = n.Stops.length → FB ⟨v16.set (0 : Int).toNat row, r.1⟩ := fun row hrow => ⟨by show (v16.set _ _).length ≤ 1000; rw [List.length_set]; omega, fun x hx => by
   rcases List.mem_or_eq_of_mem_set hx with hx | rfl
   ·have := hr x hx; omega
   ·omega⟩
  have hfb : ∀ x : Int, FB ⟨v16, x⟩ := fun x => ⟨by show v16.length ≤ 1000; omega, fun row hm => by have := hr row hm; omega⟩
  refine .call (P := fun o => Cur (k + 3000000) ⟨o.1, o.2.1, ⟨o.2.2.1⟩⟩ ∧ FB ⟨o.2.2.2.1, o.2.2.2.2⟩) (.call (t_pick 32 hc1 (by omega)) fun r3 ⟨hc3, _⟩ => .ite (fun _ => .call (t_amongw _ (by simp) hc3 (by omega)) fun r4 ⟨hc4, _⟩ => .ok ⟨hc4.mono (by omega), hfb _⟩) fun _ => .ite (fun _ => .eq hz (.idx (by omega) (by omega) fun e1 _ => .ok ⟨hc3.mono (by omega), hset _ (by rw [List.length_set]; exact hel)⟩)) fun _ => .ite (fun _ => .eq hz (.call (t_amongw _ (by simp) hc3 (by omega)) fun r6 ⟨hc6, _⟩ => ?_)) fun _ => .ite (fun _ => .chk (by omega) (.ok ⟨hc3.mono (by omega), ⟨by show (v16.drop _).length ≤ 1000; simp; omega, fun row hm => by have := hr row (List.mem_of_mem_drop hm); omega⟩⟩)) fun _ => .ok ⟨hc3.mono (by omega), hfb _⟩) fun ⟨v17, v18, v19, v20, v21⟩ ⟨g1, g2⟩ => .ok ⟨g1, g2⟩
  have hw : w64 ((n.Stops.length : Int) - 1) = ((n.Stops.length - 1 : Nat) : Int) := by rw [w64_id (by omega)]; omega
  rw [hw]
  exact .idx (by omega) (by omega) fun e5 _ => .ok ⟨hc6.mono (by omega), hset _ (by rw [List.length_set]; exact hel)⟩
def BB (B : List (List Int)) : Prop := B.length ≤ 20 ∧ ∀ b ∈ B, b.length ≤ 2000
theorem bb_set {B : List (List Int)} (h : BB B) {i : Nat} {b : List Int} (hb : b.length ≤ 2000) : BB (B.set i b) := ⟨by rw [List.length_set]; exact h.1, fun x hx => by
 rcases List.mem_or_eq_of_mem_set hx with hx | rfl
 ·exact h.2 x hx
 ·exact hb⟩
theorem planned_ok {k : Nat} {c : l1Cur} (h : Cur k c) (hk : k ≤ 10000000) : Tot (zq81 c) fun r => Cur (k + 4000000) r.2.2.2 ∧ DT r.1 ∧ FB r.2.1 ∧ BB r.2.2.1 := by
 unfold zq81
 refine .call (Tot.pc (trips_ok h (by omega)) (trips_st h (by omega))) fun r ⟨⟨hc, hd⟩, hst⟩ => ?_
 refine .call (fleet_ok hc (by omega) ⟨hst, hd.1.1⟩) fun r1 ⟨hc1, hf⟩ => ?_
 refine .eq (l11Asked_eq (t := r.1) hd.tb hf) ?_
 refine .call (P := fun b => b = false → AskF r.1 r1.1 ∧ r.1.Trips.length ≤ 9) (.iteN (fun _ => .ok fun h => by cases h) fun hA => .ok fun h => ⟨hA, by have : (r.1.Trips.length : Int) ≤ 9 := (by simpa using h); omega⟩) fun b hb => .ite (fun _ => .ok ⟨hc1.mono (by omega), hd, hf, by simp, by simp⟩) fun hbf => ?_
 obtain ⟨hA, h9⟩ := hb hbf
 refine .call (before_ok (t := r.1) hA h9) fun r5 h5 => .call (chainT_ok (t := r.1) hA h9 h5) fun r6 ⟨h6, h6'⟩ => ?_
 have hBB : BB r6 := ⟨by omega, fun b hb => by have := h6' b hb; omega⟩
 refine .call (P := fun o => Cur (k + 3900000) ⟨o.1, o.2.1, ⟨o.2.2.1⟩⟩ ∧ BB o.2.2.2) ?_ fun ⟨v1, v2, v3, i⟩ ⟨g1, g2⟩ => .ok ⟨g1.mono (by omega), hd, hf, g2⟩
 refine .call (P := fun o => Cur (k + 3800000) ⟨o.2.1, o.2.2.1, ⟨o.2.2.2⟩⟩ ∧ (o.1 = true → 0 < r6.length)) (.iteP (fun h0 => .call (t_one 8 hc1 (by omega)) fun r7 hc7 => .ok ⟨hc7.mono (by omega), fun _ => by omega⟩) fun _ => .ok ⟨hc1.mono (by omega), fun h => by cases h⟩) fun ⟨v4, v5, v6, v7⟩ ⟨hc4, hpos⟩ => ?_
 refine .ite (fun hv => ?_) fun _ => .ok ⟨hc4.mono (by omega), hBB⟩
 have h0 := hpos hv
 refine .call (t_pick _ hc4 (by omega)) fun r8 ⟨hc8, p0, p1⟩ => .call (t_pick 3 hc8 (by omega)) fun r9 ⟨hc9, _⟩ => ?_
 have hr8 : r8.1 < (r6.length : Int) := by omega
 have he : ∃ e, idx r6 r8.1 = some e ∧ 1 ≤ e.length ∧ e.length ≤ 1801 := by
  obtain ⟨e, he, _, hm⟩ := idx_lt p0 hr8
  exact ⟨e, he, h6' e hm⟩
 obtain ⟨e, he, hel⟩ := he
 refine .ite (fun _ => .eq he (.call (idOf_ok r.1 hc9 (by omega)) fun r11 hc11 => .chk (by simp; omega) (.eq he (.ok ⟨hc11.mono (by omega), bb_set hBB (by simp; omega)⟩)))) fun _ => .ite (fun _ => .eq he (.chk (by omega) (.eq he (.ok ⟨hc9.mono (by omega), bb_set hBB (by simp; omega)⟩)))) fun _ => .eq he (.chk (by simp; omega) (.ok ⟨hc9.mono (by omega), ⟨by simp; omega, fun b hb => ?_⟩⟩))
 rcases List.mem_append.1 hb with hb | hb
 ·exact hBB.2 b hb
 ·rw [List.mem_singleton.1 hb]; omega
def tix (t : Timetable) (e : Int) : Int := fixI (fun x => x.Id == e) t.Trips
def tr (t : Timetable) (e : Int) : Trip := (t.Trips[(tix t e).toNat]?).getD ⟨0, 0, 0⟩
theorem tix_at {t : Timetable} {e : Int} (h : 0 ≤ tix t e) : t.Trips[(tix t e).toNat]? = some (tr t e) ∧ (tr t e).Id = e ∧ ((tix t e).toNat : Int) = tix t e ∧ (tix t e).toNat < t.Trips.length := by
 obtain ⟨k, x, h1, h2, h3, _⟩ := idx_fix (p := fun x : Trip => x.Id == e) (l := t.Trips) (by unfold tix at h; omega)
 have e1 : tix t e = (k : Int) := h1
 have e2 : tr t e = x := by unfold tr; rw [e1, Int.toNat_natCast, h2]; rfl
 rw [e1, Int.toNat_natCast, e2]
 exact ⟨h2, by simpa using h3, rfl, get_lt h2⟩
theorem tix_idx {t : Timetable} {e : Int} (h : 0 ≤ tix t e) : idx t.Trips (tix t e) = some (tr t e) := by
 have := tix_at h
 rw [← this.2.2.1]; exact ixs this.1
theorem tix_trip {t : Timetable} (hT : GoodT t) {k : Nat} {x : Trip} (hx : t.Trips[k]? = some x) : tix t x.Id = (k : Int) := trip_fix hT hx
theorem tix_pos {t : Timetable} (hT : GoodT t) {e : Int} (h : 0 ≤ tix t e) : 1 ≤ e := by
 have h1 := tix_at h
 have := (hT.2.2.1 _ _ h1.1).1.1
 rw [h1.2.1] at this; exact this
theorem tripI {t : Timetable} (hb : TB t) (e : Int) : zq33 t e = some (tix t e) := tripIndex_eq t hb.2 e
theorem tripS {t : Timetable} (hb : TB t) (e : Int) : zq107 t e = some (tix t e) := l5Find_eq t hb.2 e
theorem withI {t : Timetable} (hb : TB t) {e : Int} (h : 0 ≤ tix t e) : zq35 t e = some (tr t e) := by
 unfold zq35
 rw [tripI hb]
 simp only [Option.bind_some, tix_idx h]
def FolE (t : Timetable) (f : Fleet) (a c : Int) : Prop := Fol t f (tr t a) (tr t c)
noncomputable instance (t : Timetable) (f : Fleet) (a c : Int) : Decidable (FolE t f a c) := Classical.propDecidable _
theorem fol_both {t : Timetable} {f : Fleet} (h : AskF t f) {a c : Int} (ha : 0 ≤ tix t a) (hc : 0 ≤ tix t c) : zq13 t f (tr t a) (tr t c) = some (decide (FolE t f a c)) ∧ zq47 t f (tix t a) (tix t c) = some (decide (FolE t f a c)) := by
 have h1 := tix_at ha
 have h2 := tix_at hc
 obtain ⟨g1, g2⟩ := follow_both h h1.1 h2.1
 rw [h1.2.2.1, h2.2.2.1] at g2
 rw [g1, g2]
 exact ⟨congrArg some (decide_eq_decide.2 Iff.rfl), congrArg some (decide_eq_decide.2 Iff.rfl)⟩
theorem pig {n : Nat} : ∀ {l : List Int}, l.Nodup → (∀ x ∈ l, 0 ≤ x ∧ x < (n : Int)) → l.length ≤ n := by
 induction n with
 | zero =>
  intro l _ h
  cases l with
  | nil => simp
  | cons a l => have := h a (by simp); omega
 | succ n ih =>
  intro l hd h
  by_cases hm : ((n : Nat) : Int) ∈ l
  ·have := ih (l := l.erase (n : Int)) (hd.erase _) (fun x hx => by
    have h1 := h x (List.mem_of_mem_erase hx)
    have h2 : x ≠ (n : Int) := (hd.mem_erase_iff.1 hx).1
    omega)
   rw [List.length_erase_of_mem hm] at this; omega
  ·have := ih hd (fun x hx => by
    have h1 := h x hx
    have h2 : x ≠ (n : Int) := fun e => hm (e ▸ hx)
    omega)
   omega
theorem pig_mem {n : Nat} {l : List Int} (hd : l.Nodup) (h : ∀ x ∈ l, 0 ≤ x ∧ x < (n : Int)) (hl : l.length = n) {p : Nat} (hp : p < n) : (p : Int) ∈ l := by
 by_cases hm : (p : Int) ∈ l
 ·exact hm
 ·have := pig (n := n) (l := (p : Int) :: l) (List.nodup_cons.2 ⟨hm, hd⟩) (fun x hx => by
   rcases List.mem_cons.1 hx with rfl | hx
   ·omega
   ·exact h x hx)
  simp only [List.length_cons] at this; omega
def ChainE (t : Timetable) (f : Fleet) (b : List Int) : Prop := ∀ (j : Nat) a c, b[j]? = some a → b[j + 1]? = some c → FolE t f a c
def BlockE (t : Timetable) (f : Fleet) (b : List Int) : Prop := b ≠ [] ∧ (∀ e ∈ b, 0 ≤ tix t e) ∧ ChainE t f b
def BlocksP (t : Timetable) (f : Fleet) (B : List (List Int)) : Prop := (∀ b ∈ B, BlockE t f b) ∧ (B.flatten.map (tix t)).Nodup ∧ B.flatten.length = t.Trips.length
def UsedB (u : List Bool) (at_ : List Int) : Prop := u.length = 12 ∧ ∀ p : Nat, p < 12 → u[p]? = some (decide ((p : Int) ∈ at_))
theorem used_nil : UsedB (List.replicate 12 false) [] := ⟨by simp, fun p hp => by
 rw [List.getElem?_replicate]; simp [hp]⟩
theorem used_set {u : List Bool} {at_ : List Int} (h : UsedB u at_) {r : Int} (h0 : 0 ≤ r ∧ r < 12) : UsedB (u.set r.toNat true) (at_ ++ [r]) := by
 refine ⟨by rw [List.length_set]; exact h.1, fun p hp => ?_⟩
 rw [List.getElem?_set]
 by_cases e : r.toNat = p
 ·subst e
  rw [if_pos rfl, if_pos (by rw [h.1]; exact hp)]
  have : ((r.toNat : Nat) : Int) = r := by omega
  simp [this]
 ·rw [if_neg e, h.2 p hp]
  have : (p : Int) ≠ r := by omega
  simp [this]
theorem used_idx {u : List Bool} {at_ : List Int} (h : UsedB u at_) {r : Int} (h0 : 0 ≤ r ∧ r < 12) : idx u r = some (decide (r ∈ at_)) := by
 have e : ((r.toNat : Nat) : Int) = r := by omega
 have := h.2 r.toNat (by omega)
 rw [e] at this
 rw [← e, idx_nat, this, e]
section
variable {t : Timetable} {f : Fleet} {B : List (List Int)}
theorem block_in (hb : TB t) (h : AskF t f) (hB : BB B) {v : Nat} {b : List Int} (hv : B[v]? = some b) {at0 : List Int} (hr0 : ∀ x ∈ at0, 0 ≤ x ∧ x < (t.Trips.length : Int)) {u0 : List Bool} (hu0 : UsedB u0 at0) (hd0 : at0.Nodup) :
  ∃ x x', iter (zq8_L1 t f b) ((at0.length : Int), (0 : Int), u0) = some x ∧ iter (zq41_L1 t f B (v : Int)) ((0 : Int), at0) = some x' ∧
   ((x = .ret (.dn (.ret false)) ∧ x' = .ret (.dn (.ret false))) ∨ ∃ at_ u, x = .go ((at_.length : Int), u) ∧ x' = .go at_ ∧ at_ = at0 ++ b.map (tix t) ∧ UsedB u at_ ∧ at_.Nodup ∧ (∀ e ∈ b, 0 ≤ tix t e) ∧ ChainE t f b) := by
 have hn := h.1.2.1
 have hbl := hB.2 b (List.mem_of_getElem? hv)
 refine iter2 (fun m (a : Int × Int × List Bool) (a' : Int × List Int) => ∃ j : Nat, m + j = b.length ∧ a.1 = (a'.2.length : Int) ∧ a.2.1 = (j : Int) ∧ a'.1 = (j : Int) ∧ a'.2 = at0 ++ (b.take j).map (tix t) ∧ UsedB a.2.2 a'.2 ∧ a'.2.Nodup ∧ (∀ e ∈ b.take j, 0 ≤ tix t e) ∧ ∀ (i : Nat) p q, i + 1 < j → b[i]? = some p → b[i + 1]? = some q → FolE t f p q) _ ?_ (k := b.length) ⟨0, rfl, rfl, rfl, rfl, by simp, hu0, hd0, by simp, by simp⟩
 rintro m ⟨n1, v3, u⟩ ⟨v2, at_⟩ ⟨j, hm, e1, e2, e3, e4, hU, hD, hE, hC⟩
 simp only at e1 e2 e3 e4 hU hD
 subst e2 e3 e1
 have hrange : ∀ x ∈ at_, 0 ≤ x ∧ x < (t.Trips.length : Int) := fun x hx => by
  rw [e4] at hx
  rcases List.mem_append.1 hx with hx | hx
  ·exact hr0 x hx
  ·obtain ⟨e, he, rfl⟩ := List.mem_map.1 hx
   have := tix_at (hE e he); omega
 have hlen := pig hD hrange
 by_cases hj : j < b.length
 ·obtain ⟨e, he⟩ := get_ex hj
  have hlt : decide ((j : Int) < (b.length : Int)) = true := by simp; omega
  by_cases h0 : tix t e < 0
  ·refine .inr ⟨_, _, ?_, ?_, .inl ⟨rfl, rfl⟩⟩
   ·simp only [zq8_L1, hlt, if_true, idx_nat, he, Option.bind_some, tripI hb, h0, decide_true]
   ·simp only [zq41_L1, ixs hv, hlt, if_true, idx_nat, he, Option.bind_some, tripS hb, h0, decide_true]
  have h0' : 0 ≤ tix t e := by omega
  have hta := tix_at h0'
  have hr12 : 0 ≤ tix t e ∧ tix t e < 12 := by omega
  have hck : chk ((0 : Int) ≤ tix t e ∧ tix t e < 12) = some () := chk_of hr12
  have hui := used_idx hU hr12
  have hha := l1Has_eq at_ (by omega) (tix t e)
  by_cases h1 : tix t e ∈ at_
  ·refine .inr ⟨_, _, ?_, ?_, .inl ⟨rfl, rfl⟩⟩
   ·simp only [zq8_L1, hlt, if_true, idx_nat, he, Option.bind_some, tripI hb, h0, decide_false, Bool.false_eq_true, if_false, hck, hui, h1, decide_true]
   ·simp only [zq41_L1, ixs hv, hlt, if_true, idx_nat, he, Option.bind_some, tripS hb, h0, decide_false, Bool.false_eq_true, if_false, hha, h1, decide_true]
  have hck2 : chk (at_.length + ([tix t e] : List Int).length ≤ 4294967296) = some () := chk_of (by simp; omega)
  have hDn : (at_ ++ [tix t e]).Nodup := List.nodup_append.2 ⟨hD, by simp, fun a ha c hc => by
   rw [List.mem_singleton.1 hc]; intro e; exact h1 (e ▸ ha)⟩
  have hen : ∀ e' ∈ b.take (j + 1), 0 ≤ tix t e' := fun e' he' => by
   rw [take_succ he] at he'
   rcases List.mem_append.1 he' with he' | he'
   ·exact hE e' he'
   ·rw [List.mem_singleton.1 he']; exact h0'
  have hat : at_ ++ [tix t e] = at0 ++ (b.take (j + 1)).map (tix t) := by
   rw [take_succ he, List.map_append, ← List.append_assoc, ← e4]; rfl
  have fin : (∀ (i : Nat) p q, i + 1 < j + 1 → b[i]? = some p → b[i + 1]? = some q → FolE t f p q) → ∃ k', k' < m ∧ ∃ j' : Nat, k' + j' = b.length ∧ w64 ((at_.length : Int) + 1) = ((at_ ++ [tix t e]).length : Int) ∧ w64 ((j : Int) + 1) = (j' : Int) ∧ w64 ((j : Int) + 1) = (j' : Int) ∧ at_ ++ [tix t e] = at0 ++ (b.take j').map (tix t) ∧ UsedB (u.set (tix t e).toNat true) (at_ ++ [tix t e]) ∧ (at_ ++ [tix t e]).Nodup ∧ (∀ e ∈ b.take j', 0 ≤ tix t e) ∧ ∀ (i : Nat) p q, i + 1 < j' → b[i]? = some p → b[i + 1]? = some q → FolE t f p q := fun hC' =>
   ⟨m - 1, by omega, j + 1, by omega, (by rw [w64_succ (n := at_.length) (by omega)]; simp), w64_succ (by omega), w64_succ (by omega), hat, used_set hU hr12, hDn, hen, hC'⟩
  by_cases hj0 : 0 < j
  ·obtain ⟨a, ha⟩ := get_ex (l := b) (i := j - 1) (by omega)
   have hw : w64 ((j : Int) - 1) = ((j - 1 : Nat) : Int) := by rw [w64_id (by omega)]; omega
   have haT : 0 ≤ tix t a := hE a (List.mem_of_getElem? (show (b.take j)[j - 1]? = some a by rw [List.getElem?_take_of_lt (by omega)]; exact ha))
   have hjp : decide ((0 : Int) < (j : Int)) = true := by simp; omega
   obtain ⟨f1, f2⟩ := fol_both h haT h0'
   by_cases hF : FolE t f a e
   ·obtain ⟨k', hk', rest⟩ := fin fun i p q hi hp hq => by
     by_cases hij : i + 1 < j
     ·exact hC i p q hij hp hq
     ·have : i = j - 1 := by omega
      subst this
      rw [ha] at hp; cases hp
      rw [show j - 1 + 1 = j by omega, he] at hq; cases hq
      exact hF
    refine .inl ⟨(w64 ((at_.length : Int) + 1), w64 ((j : Int) + 1), u.set (tix t e).toNat true), (w64 ((j : Int) + 1), at_ ++ [tix t e]), k', ?_, ?_, hk', rest⟩
    ·simp only [zq8_L1, hlt, if_true, idx_nat, he, Option.bind_some, tripI hb, h0, decide_false, Bool.false_eq_true, if_false, hck, hui, h1, hjp, hw, ha, withI hb haT, tix_idx h0', f1, hF, decide_true, Bool.not_true]
    ·simp only [zq41_L1, ixs hv, hlt, if_true, idx_nat, he, Option.bind_some, tripS hb, h0, decide_false, Bool.false_eq_true, if_false, hha, h1, hjp, hw, ha, f2, hF, decide_true, Bool.not_true, hck2]
   ·refine .inr ⟨_, _, ?_, ?_, .inl ⟨rfl, rfl⟩⟩
    ·simp only [zq8_L1, hlt, if_true, idx_nat, he, Option.bind_some, tripI hb, h0, decide_false, Bool.false_eq_true, if_false, hck, hui, h1, hjp, hw, ha, withI hb haT, tix_idx h0', f1, hF, Bool.not_false]
    ·simp only [zq41_L1, ixs hv, hlt, if_true, idx_nat, he, Option.bind_some, tripS hb, h0, decide_false, Bool.false_eq_true, if_false, hha, h1, hjp, hw, ha, f2, hF, Bool.not_false]
  ·have hj0' : j = 0 := by omega
   obtain ⟨k', hk', rest⟩ := fin fun i p q hi => by omega
   have hjp : decide ((0 : Int) < (j : Int)) = false := by simp; omega
   refine .inl ⟨(w64 ((at_.length : Int) + 1), w64 ((j : Int) + 1), u.set (tix t e).toNat true), (w64 ((j : Int) + 1), at_ ++ [tix t e]), k', ?_, ?_, hk', rest⟩
   ·simp only [zq8_L1, hlt, if_true, idx_nat, he, Option.bind_some, tripI hb, h0, decide_false, Bool.false_eq_true, if_false, hck, hui, h1, hjp]
   ·simp only [zq41_L1, ixs hv, hlt, if_true, idx_nat, he, Option.bind_some, tripS hb, h0, decide_false, Bool.false_eq_true, if_false, hha, h1, hjp, hck2]
 ·have hlt : decide ((j : Int) < (b.length : Int)) = false := by simp; omega
  have htk : b.take j = b := List.take_of_length_le (by omega)
  rw [htk] at e4 hE
  refine .inr ⟨_, _, ?_, ?_, .inr ⟨at_, u, rfl, rfl, e4, hU, hD, hE, fun i p q hp hq => hC i p q (by have := get_lt hq; omega) hp hq⟩⟩
  ·simp only [zq8_L1, hlt, Bool.false_eq_true, if_false]
  ·simp only [zq41_L1, ixs hv, hlt, Bool.false_eq_true, if_false, Option.bind_some]
theorem blocks_both (hb : TB t) (h : AskF t f) (hB : BB B) : ∃ v, zq8 t f B = some v ∧ zq41 t f B = some v ∧ (v = true → BlocksP t f B) := by
 have hn := h.1.2.1
 have H : ∃ x x', iter (zq8_L2 t f B) ((0 : Int), (0 : Int), (0 : Int), (List.replicate 12 (false : Bool))) = some x ∧ iter (zq41_L2 t f B) ((0 : Int), ([] : List Int)) = some x' ∧
   ((x = .ret false ∧ x' = .ret false) ∨ ∃ at_ : List Int, x = .go (at_.length : Int) ∧ x' = .go at_ ∧ at_ = B.flatten.map (tix t) ∧ at_.Nodup ∧ ∀ b ∈ B, BlockE t f b) := by
  refine iter2 (fun m (a : Int × Int × Int × List Bool) (a' : Int × List Int) => ∃ v : Nat, m + v = B.length ∧ a.1 = (a'.2.length : Int) ∧ a.2.2.1 = (v : Int) ∧ a'.1 = (v : Int) ∧ a'.2 = (B.take v).flatten.map (tix t) ∧ UsedB a.2.2.2 a'.2 ∧ a'.2.Nodup ∧ (∀ b ∈ B.take v, BlockE t f b) ∧ (v = 0 → a.2.1 = 0) ∧ (0 < v → ∃ b, B[v - 1]? = some b ∧ b[0]? = some a.2.1)) _ ?_ (k := B.length) ⟨0, rfl, rfl, rfl, rfl, by simp, used_nil, by simp, by simp, fun _ => rfl, fun h => by omega⟩
  rintro m ⟨n1, k, v', u⟩ ⟨v2, at_⟩ ⟨v, hm, e1, e2, e3, e4, hU, hD, hE, hk0, hk1⟩
  simp only at e1 e2 e3 e4 hU hD hk0 hk1
  subst e2 e3 e1
  have hrange : ∀ x ∈ at_, 0 ≤ x ∧ x < (t.Trips.length : Int) := fun x hx => by
   rw [e4] at hx
   obtain ⟨e, he, rfl⟩ := List.mem_map.1 hx
   obtain ⟨b, hb1, hb2⟩ := List.mem_flatten.1 he
   have := tix_at ((hE b hb1).2.1 e hb2); omega
  by_cases hv : v < B.length
  ·obtain ⟨b, hbv⟩ := get_ex hv
   have hlt : decide ((v : Int) < (B.length : Int)) = true := by simp; omega
   by_cases hz : b.length = 0
   ·have hzb : ((b.length : Int) == 0) = true := beq_iff_eq.2 (by omega)
    refine .inr ⟨_, _, ?_, ?_, .inl ⟨rfl, rfl⟩⟩
    ·simp only [zq8_L2, hlt, if_true, idx_nat, hbv, Option.bind_some, hzb]
    ·simp only [zq41_L2, hlt, if_true, idx_nat, hbv, Option.bind_some, hzb]
   have hzb : ((b.length : Int) == 0) = false := beq_eq_false_iff_ne.2 (by omega)
   obtain ⟨e, he⟩ := get_ex (l := b) (i := 0) (by omega)
   have he0 : idx b 0 = some e := ixs (i := 0) he
   have main : ¬ e ≤ k → (∀ R, zq41_L2 t f B ((v : Int), at_) = R ↔ (flb (iter (zq41_L1 t f B (v : Int)) ((0 : Int), at_)) fun (at_2 : List Int) => some (.nx ((w64 ((v : Int) + 1)), at_2))) = R) → (∃ b_1 b', ∃ k', zq8_L2 t f B ((at_.length : Int), k, (v : Int), u) = some (.nx b_1) ∧ zq41_L2 t f B ((v : Int), at_) = some (.nx b') ∧ k' < m ∧ ∃ v : Nat, k' + v = B.length ∧ b_1.1 = (b'.2.length : Int) ∧ b_1.2.2.1 = (v : Int) ∧ b'.1 = (v : Int) ∧ b'.2 = (B.take v).flatten.map (tix t) ∧ UsedB b_1.2.2.2 b'.2 ∧ b'.2.Nodup ∧ (∀ b ∈ B.take v, BlockE t f b) ∧ (v = 0 → b_1.2.1 = 0) ∧ (0 < v → ∃ b, B[v - 1]? = some b ∧ b[0]? = some b_1.2.1)) ∨ ∃ x x', zq8_L2 t f B ((at_.length : Int), k, (v : Int), u) = some (.dn x) ∧ zq41_L2 t f B ((v : Int), at_) = some (.dn x') ∧ ((x = .ret false ∧ x' = .ret false) ∨ ∃ at_ : List Int, x = .go (at_.length : Int) ∧ x' = .go at_ ∧ at_ = B.flatten.map (tix t) ∧ at_.Nodup ∧ ∀ b ∈ B, BlockE t f b) := by
    intro hek hS
    obtain ⟨x, x', g1, g2, g3⟩ := block_in hb h hB hbv hrange hU hD
    have hI : zq8_L2 t f B ((at_.length : Int), k, (v : Int), u) = flb (iter (zq8_L1 t f b) ((at_.length : Int), (0 : Int), u)) fun ((block2, v6) : Int × (List Bool)) => some (.nx (block2, e, (w64 ((v : Int) + 1)), v6)) := by
     simp only [zq8_L2, hlt, if_true, idx_nat, hbv, Option.bind_some, hzb, Bool.false_eq_true, if_false, he0, hek, decide_false]
    rcases g3 with ⟨rfl, rfl⟩ | ⟨at2, u2, rfl, rfl, q1, q2, q3, q4, q5⟩
    ·refine .inr ⟨_, _, ?_, ?_, .inl ⟨rfl, rfl⟩⟩
     ·rw [hI, g1]; rfl
     ·rw [hS, g2]; rfl
    ·refine .inl ⟨((at2.length : Int), e, w64 ((v : Int) + 1), u2), (w64 ((v : Int) + 1), at2), m - 1, ?_, ?_, by omega, v + 1, by omega, rfl, w64_succ (by have := hB.1; omega), w64_succ (by have := hB.1; omega), ?_, q2, q3, ?_, fun h => by omega, fun _ => ⟨b, hbv, he⟩⟩
     ·rw [hI, g1]; rfl
     ·rw [hS, g2]; rfl
     ·rw [take_succ hbv, List.flatten_append, List.map_append, ← e4, q1]; simp
     ·intro b' hb'
      rw [take_succ hbv] at hb'
      rcases List.mem_append.1 hb' with hb' | hb'
      ·exact hE b' hb'
      ·rw [List.mem_singleton.1 hb']
       exact ⟨fun hn => by rw [hn] at hz; exact hz rfl, q4, q5⟩
   by_cases hv0 : 0 < v
   ·obtain ⟨c, hc1, hc2⟩ := hk1 hv0
    have hw : w64 ((v : Int) - 1) = ((v - 1 : Nat) : Int) := by rw [w64_id (by have := hB.1; omega)]; omega
    have hvp : decide ((0 : Int) < (v : Int)) = true := by simp; omega
    have hc0 : idx c 0 = some k := ixs (i := 0) hc2
    by_cases hek : e ≤ k
    ·refine .inr ⟨_, _, ?_, ?_, .inl ⟨rfl, rfl⟩⟩
     ·simp only [zq8_L2, hlt, if_true, idx_nat, hbv, Option.bind_some, hzb, Bool.false_eq_true, if_false, he0, hek, decide_true]
     ·simp only [zq41_L2, hlt, if_true, idx_nat, hbv, Option.bind_some, hzb, Bool.false_eq_true, if_false, he0, hvp, hw, hc1, hc0, hek, decide_true]
    ·refine main hek fun R => ?_
     simp only [zq41_L2, hlt, if_true, idx_nat, hbv, Option.bind_some, hzb, Bool.false_eq_true, if_false, he0, hvp, hw, hc1, hc0, hek, decide_false]
   ·have hk := hk0 (by omega)
    subst hk
    have hvp : decide ((0 : Int) < (v : Int)) = false := by simp; omega
    have hS : zq41_L2 t f B ((v : Int), at_) = (flb (iter (zq41_L1 t f B (v : Int)) ((0 : Int), at_)) fun (at_2 : List Int) => some (.nx ((w64 ((v : Int) + 1)), at_2))) := by
     simp only [zq41_L2, hlt, if_true, idx_nat, hbv, Option.bind_some, hzb, Bool.false_eq_true, if_false, hvp]
    by_cases hek : e ≤ 0
    ·have hne : tix t e < 0 := by
      rcases Int.lt_or_le (tix t e) 0 with h | h'
      ·exact h
      ·have := tix_pos h.1 h'; omega
     have hb0 : decide ((0 : Int) < (b.length : Int)) = true := by simp; omega
     refine .inr ⟨_, _, ?_, ?_, .inl ⟨rfl, rfl⟩⟩
     ·simp only [zq8_L2, hlt, if_true, idx_nat, hbv, Option.bind_some, hzb, Bool.false_eq_true, if_false, he0, hek, decide_true]
     ·rw [hS, iter_dn (b := .ret (.dn (.ret false))) (by simp only [zq41_L1, ixs hbv, hb0, if_true, he0, Option.bind_some, tripS hb, hne, decide_true])]
      rfl
    ·exact main hek fun R => by rw [hS]
  ·have hlt : decide ((v : Int) < (B.length : Int)) = false := by simp; omega
   rw [List.take_of_length_le (by omega : B.length ≤ v)] at e4 hE
   refine .inr ⟨_, _, ?_, ?_, .inr ⟨at_, rfl, rfl, e4, hD, hE⟩⟩
   ·simp only [zq8_L2, hlt, Bool.false_eq_true, if_false]
   ·simp only [zq41_L2, hlt, Bool.false_eq_true, if_false]
 obtain ⟨x, x', g1, g2, g3⟩ := H
 unfold zq8 zq41
 rw [g1, g2]
 rcases g3 with ⟨rfl, rfl⟩ | ⟨at_, rfl, rfl, q1, q2, q3⟩
 ·exact ⟨false, rfl, rfl, fun h => by cases h⟩
 ·refine ⟨_, rfl, rfl, fun h => ⟨q3, q1 ▸ q2, ?_⟩⟩
  have : (at_.length : Int) = (t.Trips.length : Int) := by simpa using h
  rw [q1, List.length_map] at this
  omega
end
theorem valid_blocks {t : Timetable} {f : Fleet} {B : List (List Int)} (hb : TB t) (hf : FB f) (hB : BB B) : ∃ v, zq2 t f B = some v ∧ zq49 t f B = some v ∧ (v = true → AskF t f ∧ BlocksP t f B) := by
 unfold zq2 zq49
 rw [isRun_eq hb hf, l11Asked_eq hb hf]
 by_cases h : AskF t f
 ·obtain ⟨v, g1, g2, g3⟩ := blocks_both hb h hB
  exact ⟨v, by simp [h, g1], by simp [h, g2], fun hv => ⟨h, g3 hv⟩⟩
 ·exact ⟨false, by simp [h], by simp [h], fun h => by cases h⟩
def DelaysP (L : List Delay) : Prop := ∀ x ∈ L, 1 ≤ x.Minutes ∧ x.Minutes ≤ 240
theorem delays_both {t : Timetable} (hb : TB t) (hT : GoodT t) {L : List Delay} (hL : L.length ≤ 1000) : ∃ v, zq10 t L = some v ∧ zq52 t L = some v ∧ (v = true → DelaysP L) := by
 have H : ∃ x x', iter (zq10_L1 t L) ((0 : Int), (0 : Int)) = some x ∧ iter (zq52_L1 t L) (0 : Int) = some x' ∧ ((x = .ret false ∧ x' = .ret false) ∨ (x = .go () ∧ x' = .go () ∧ DelaysP L)) := by
  refine iter2 (fun m (a : Int × Int) (a' : Int) => ∃ i : Nat, m + i = L.length ∧ a.2 = (i : Int) ∧ a' = (i : Int) ∧ (∀ x ∈ L.take i, 1 ≤ x.Minutes ∧ x.Minutes ≤ 240) ∧ (i = 0 → a.1 = 0) ∧ (0 < i → ∃ x, L[i - 1]? = some x ∧ x.Trip = a.1)) _ ?_ (k := L.length) ⟨0, rfl, rfl, rfl, by simp, fun _ => rfl, fun h => by omega⟩
  rintro m ⟨d, v⟩ v' ⟨i, hm, e1, e2, hP, h0, h1⟩
  simp only at e1 h0 h1
  subst e1 e2
  by_cases hi : i < L.length
  ·obtain ⟨x, hx⟩ := get_ex hi
   have hlt : decide ((i : Int) < (L.length : Int)) = true := by simp; omega
   have hS : zq52_L1 t L (i : Int) = (if tix t x.Trip < 0 ∨ ¬ (1 ≤ x.Minutes ∧ x.Minutes ≤ 240) ∨ (0 < i ∧ x.Trip ≤ d) then some (.dn (.ret false)) else some (.nx (w64 ((i : Int) + 1)))) := by
    by_cases c1 : tix t x.Trip < 0
    ·simp only [zq52_L1, hlt, if_true, idx_nat, hx, Option.bind_some, tripS hb, c1, decide_true, true_or]
    by_cases c2 : 1 ≤ x.Minutes ∧ x.Minutes ≤ 240
    ·by_cases c3 : 0 < i
     ·obtain ⟨y, hy1, hy2⟩ := h1 c3
      have hw : w64 ((i : Int) - 1) = ((i - 1 : Nat) : Int) := by rw [w64_id (by omega)]; omega
      have hp : decide ((0 : Int) < (i : Int)) = true := by simp; omega
      simp only [zq52_L1, hlt, if_true, idx_nat, hx, Option.bind_some, tripS hb, c1, decide_false, Bool.false_eq_true, if_false, l1In_eq, c2, and_self, decide_true, Bool.not_true, hp, hw, hy1, hy2, c3, not_true, false_or, true_and, decide_eq_true_eq]
     ·have hp : decide ((0 : Int) < (i : Int)) = false := by simp; omega
      simp only [zq52_L1, hlt, if_true, idx_nat, hx, Option.bind_some, tripS hb, c1, decide_false, Bool.false_eq_true, if_false, l1In_eq, c2, and_self, decide_true, Bool.not_true, hp, c3, not_true, false_or, false_and]
    ·simp only [zq52_L1, hlt, if_true, idx_nat, hx, Option.bind_some, tripS hb, c1, decide_false, Bool.false_eq_true, if_false, l1In_eq, c2, Bool.not_false, not_false_eq_true, true_or, or_true]
   have hI : zq10_L1 t L (d, (i : Int)) = (if x.Trip ≤ d ∨ tix t x.Trip < 0 ∨ ¬ (1 ≤ x.Minutes ∧ x.Minutes ≤ 240) then some (.dn (.ret false)) else some (.nx (x.Trip, w64 ((i : Int) + 1)))) := by
    by_cases c3 : x.Trip ≤ d
    ·simp only [zq10_L1, hlt, if_true, idx_nat, hx, Option.bind_some, c3, decide_true, true_or]
    by_cases c1 : tix t x.Trip < 0
    ·simp only [zq10_L1, hlt, if_true, idx_nat, hx, Option.bind_some, tripI hb, c3, c1, decide_true, decide_false, Bool.false_eq_true, if_false, true_or, or_true]
    by_cases c2 : 1 ≤ x.Minutes ∧ x.Minutes ≤ 240
    ·simp only [zq10_L1, hlt, if_true, idx_nat, hx, Option.bind_some, tripI hb, c3, c1, c2, decide_true, decide_false, Bool.false_eq_true, if_false, within_eq, and_self, Bool.not_true, not_true, or_self]
    ·simp only [zq10_L1, hlt, if_true, idx_nat, hx, Option.bind_some, tripI hb, c3, c1, c2, decide_true, decide_false, Bool.false_eq_true, if_false, within_eq, Bool.not_false, not_false_eq_true, or_true]
   rw [hI, hS]
   have hiff : (x.Trip ≤ d ∨ tix t x.Trip < 0 ∨ ¬ (1 ≤ x.Minutes ∧ x.Minutes ≤ 240)) ↔ (tix t x.Trip < 0 ∨ ¬ (1 ≤ x.Minutes ∧ x.Minutes ≤ 240) ∨ (0 < i ∧ x.Trip ≤ d)) := by
    by_cases c1 : tix t x.Trip < 0
    ·exact ⟨fun _ => .inl c1, fun _ => .inr (.inl c1)⟩
    ·have hpos := tix_pos hT (e := x.Trip) (by omega)
     constructor
     ·rintro (h | h | h)
      ·right; right
       refine ⟨?_, h⟩
       rcases Nat.eq_zero_or_pos i with hz | hz
       ·have := h0 hz; omega
       ·exact hz
      ·exact absurd h c1
      ·exact .inr (.inl h)
     ·rintro (h | h | h)
      ·exact absurd h c1
      ·exact .inr (.inr h)
      ·exact .inl h.2
   by_cases hc : x.Trip ≤ d ∨ tix t x.Trip < 0 ∨ ¬ (1 ≤ x.Minutes ∧ x.Minutes ≤ 240)
   ·rw [if_pos hc, if_pos (hiff.1 hc)]
    exact .inr ⟨_, _, rfl, rfl, .inl ⟨rfl, rfl⟩⟩
   ·rw [if_neg hc, if_neg (fun h => hc (hiff.2 h))]
    refine .inl ⟨_, _, m - 1, rfl, rfl, by omega, i + 1, by omega, w64_succ (by omega), w64_succ (by omega), fun y hy => ?_, fun h => by omega, fun _ => ⟨x, hx, rfl⟩⟩
    rw [take_succ hx] at hy
    rcases List.mem_append.1 hy with hy | hy
    ·exact hP y hy
    ·rw [List.mem_singleton.1 hy]
     exact Classical.byContradiction fun hn => hc (.inr (.inr hn))
  ·have hlt : decide ((i : Int) < (L.length : Int)) = false := by simp; omega
   rw [List.take_of_length_le (by omega : L.length ≤ i)] at hP
   refine .inr ⟨_, _, ?_, ?_, .inr ⟨rfl, rfl, hP⟩⟩
   ·simp only [zq10_L1, hlt, Bool.false_eq_true, if_false]
   ·simp only [zq52_L1, hlt, Bool.false_eq_true, if_false]
 obtain ⟨x, x', g1, g2, g3⟩ := H
 unfold zq10 zq52
 rw [g1, g2]
 rcases g3 with ⟨rfl, rfl⟩ | ⟨rfl, rfl, h⟩
 ·exact ⟨false, rfl, rfl, fun h => by cases h⟩
 ·exact ⟨true, rfl, rfl, fun _ => h⟩
def pv (L : List Delay) (e : Int) : Int := match L.find? (fun x => x.Trip == e) with
 | some x => x.Minutes
 | none => 0
theorem pv_bd {L : List Delay} (h : DelaysP L) (e : Int) : 0 ≤ pv L e ∧ pv L e ≤ 240 := by
 unfold pv
 cases hf : L.find? (fun x => x.Trip == e) with
 | none => simp
 | some x => have := h x (List.mem_of_find?_eq_some hf); simp only; omega
theorem prim_loop {L : List Delay} {e : Int} {step : Int → Option (Lp Int (Fl Int Unit))} (hs : ∀ (i : Nat) x, L[i]? = some x → step (i : Int) = if x.Trip = e then some (.dn (.ret x.Minutes)) else some (.nx ((i + 1 : Nat) : Int))) (hend : step (L.length : Int) = some (.dn (.go ()))) : Ab.flb (iter step (0 : Int)) (fun _ => some 0) = some (pv L e) := by
 have H : Tot (iter step (0 : Int)) fun b => (∃ x, b = .ret x.Minutes ∧ L.find? (fun x => x.Trip == e) = some x) ∨ (b = .go () ∧ L.find? (fun x => x.Trip == e) = none) := by
  refine .iter (fun m v => ∃ i : Nat, v = (i : Int) ∧ m + i = L.length ∧ ∀ x ∈ L.take i, x.Trip ≠ e) (n := L.length) ⟨0, rfl, rfl, by simp⟩ ?_
  rintro m v ⟨i, rfl, hm, hP⟩
  by_cases hi : i < L.length
  ·obtain ⟨x, hx⟩ := get_ex hi
   rw [hs i x hx]
   by_cases hc : x.Trip = e
   ·rw [if_pos hc]
    refine .dn (.inl ⟨x, rfl, ?_⟩)
    rw [List.find?_eq_some_iff_append]
    refine ⟨by simpa using hc, L.take i, L.drop (i + 1), ?_, fun a ha => by simpa using hP a ha⟩
    obtain ⟨h1, h2⟩ := List.getElem?_eq_some_iff.1 hx
    rw [← h2, ← List.drop_eq_getElem_cons h1, List.take_append_drop]
   ·rw [if_neg hc]
    refine .nx ⟨m - 1, by omega, i + 1, rfl, by omega, fun y hy => ?_⟩
    rw [take_succ hx] at hy
    rcases List.mem_append.1 hy with hy | hy
    ·exact hP y hy
    ·rw [List.mem_singleton.1 hy]; exact hc
  ·have : i = L.length := by omega
   subst this
   rw [hend]
   rw [List.take_length] at hP
   exact .dn (.inr ⟨rfl, List.find?_eq_none.2 fun x hx => by simpa using hP x hx⟩)
 obtain ⟨b, hb, h⟩ := H
 rw [hb]
 unfold pv
 rcases h with ⟨x, rfl, h⟩ | ⟨rfl, h⟩ <;> rw [h] <;> rfl
theorem primI (L : List Delay) (hL : L.length ≤ 1000) (e : Int) : zq31 L e = some (pv L e) := by
 unfold zq31
 refine prim_loop (fun i x hx => ?_) (by unfold zq31_L1; simp)
 have := get_lt hx
 have hlt : decide ((i : Int) < (L.length : Int)) = true := by simp; omega
 simp only [zq31_L1, hlt, if_true, idx_nat, hx, Option.bind_some, beq_iff_eq, w64_succ (n := i) (by omega)]
theorem primS (L : List Delay) (hL : L.length ≤ 1000) (e : Int) : zq53 L e = some (pv L e) := by
 unfold zq53
 refine prim_loop (fun i x hx => ?_) (by unfold zq53_L1; simp)
 have := get_lt hx
 have hlt : decide ((i : Int) < (L.length : Int)) = true := by simp; omega
 simp only [zq53_L1, hlt, if_true, idx_nat, hx, Option.bind_some, beq_iff_eq, w64_succ (n := i) (by omega)]
theorem end_tix {t : Timetable} {f : Fleet} (h : AskF t f) {a : Int} (ha : 0 ≤ tix t a) : ((tr t a).Start < ev t (tr t a) ∧ ev t (tr t a) ≤ 1799) ∧ (0 ≤ (tr t a).Start ∧ (tr t a).Start ≤ 1799) ∧ zq17 t (tr t a) = some (ev t (tr t a)) ∧ zq106 t (tix t a) = some (ev t (tr t a)) := by
 have h1 := tix_at ha
 obtain ⟨g1, g2, g3, g4⟩ := end_both h.1 h1.1
 rw [h1.2.2.1] at g4
 exact ⟨g1, g2, g3, g4⟩
theorem dead_tix {t : Timetable} {f : Fleet} (h : AskF t f) {a c : Int} (ha : 0 ≤ tix t a) (hc : 0 ≤ tix t c) : (0 ≤ dv t f (tr t a) (tr t c) ∧ dv t f (tr t a) (tr t c) ≤ 120) ∧ zq15 t f (tr t a) (tr t c) = some (dv t f (tr t a) (tr t c)) ∧ zq45 t f (tix t a) (tix t c) = some (dv t f (tr t a) (tr t c)) := by
 have h1 := tix_at ha
 have h2 := tix_at hc
 obtain ⟨g1, g2, g3⟩ := dead_both h h1.1 h2.1
 rw [h1.2.2.1, h2.2.2.1] at g3
 exact ⟨g1, g2, g3⟩
theorem l1Most_max (a b : Int) : zq89 a b = some (if b > a then b else a) := by
 unfold zq89
 by_cases h : b < a
 ·have : ¬ b > a := by omega
  simp [h, this]
 ·by_cases h2 : b > a
  ·simp [h, h2]
  ·have : a = b := by omega
   subst this; simp
noncomputable def dlv (t : Timetable) (f : Fleet) (L : List Delay) (b : List Int) : Nat → Int
 | 0 => pv L (b.getD 0 0)
 | k + 1 => (if ev t (tr t (b.getD k 0)) + dlv t f L b k + f.Turn + dv t f (tr t (b.getD k 0)) (tr t (b.getD (k + 1) 0)) > (tr t (b.getD (k + 1) 0)).Start then ev t (tr t (b.getD k 0)) + dlv t f L b k + f.Turn + dv t f (tr t (b.getD k 0)) (tr t (b.getD (k + 1) 0)) else (tr t (b.getD (k + 1) 0)).Start) + pv L (b.getD (k + 1) 0) - (tr t (b.getD (k + 1) 0)).Start
theorem getD0 {b : List Int} {k : Nat} {e : Int} (h : b[k]? = some e) : b.getD k 0 = e := by rw [List.getD_eq_getElem?_getD, h]; rfl
theorem dlv_bd {t : Timetable} {f : Fleet} (h : AskF t f) {L : List Delay} (hL : DelaysP L) {b : List Int} (hb : ∀ e ∈ b, 0 ≤ tix t e) : ∀ k, k < b.length → 0 ≤ dlv t f L b k ∧ dlv t f L b k ≤ 2300 * (k + 1)
 | 0, _ => by have := pv_bd hL (b.getD 0 0); unfold dlv; omega
 | k + 1, hk => by
  have ih := dlv_bd h hL hb k (by omega)
  obtain ⟨a, ha⟩ := get_ex (l := b) (i := k) (by omega)
  obtain ⟨c, hc⟩ := get_ex hk
  have ga := hb a (List.mem_of_getElem? ha)
  have gc := hb c (List.mem_of_getElem? hc)
  have e1 := end_tix h ga
  have e2 := end_tix h gc
  have e3 := (dead_tix h ga gc).1
  have e4 := pv_bd hL c
  have e5 := h.2.2.1
  unfold dlv
  rw [getD0 ha, getD0 hc]
  split <;> omega
def InjB (t : Timetable) (B : List (List Int)) : Prop := ∀ (i : Nat) b (k : Nat) e (i' : Nat) b' (k' : Nat) e', B[i]? = some b → b[k]? = some e → B[i']? = some b' → b'[k']? = some e' → tix t e = tix t e' → i = i' ∧ k = k'
theorem pwG {α : Type} {R : α → α → Prop} {M : List α} (h : M.Pairwise R) {i j : Nat} {a b : α} (hij : i < j) (ha : M[i]? = some a) (hb : M[j]? = some b) : R a b := by
 have := List.pairwise_iff_getElem.1 h i j (get_lt ha) (get_lt hb) hij
 rw [(List.getElem?_eq_some_iff.1 ha).2, (List.getElem?_eq_some_iff.1 hb).2] at this
 exact this
theorem inj_of {t : Timetable} {B : List (List Int)} (h : (B.flatten.map (tix t)).Nodup) : InjB t B := by
 rw [List.map_flatten, List.Nodup, List.pairwise_flatten] at h
 obtain ⟨h1, h2⟩ := h
 intro i b k e i' b' k' e' hb he hb' he' heq
 have gM : ∀ {i : Nat} {b : List Int}, B[i]? = some b → (B.map (List.map (tix t)))[i]? = some (b.map (tix t)) := fun h => by rw [List.getElem?_map, h]; rfl
 have gm : ∀ {b : List Int} {k : Nat} {e : Int}, b[k]? = some e → (b.map (tix t))[k]? = some (tix t e) := fun h => by rw [List.getElem?_map, h]; rfl
 rcases Nat.lt_trichotomy i i' with hlt | rfl | hlt
 ·exact absurd heq (pwG h2 hlt (gM hb) (gM hb') _ (List.mem_of_getElem? (gm he)) _ (List.mem_of_getElem? (gm he')))
 ·rw [hb] at hb'; cases hb'
  have hd := h1 _ (List.mem_of_getElem? (gM hb))
  refine ⟨rfl, ?_⟩
  rcases Nat.lt_trichotomy k k' with hlt | h | hlt
  ·exact absurd heq (pwG hd hlt (gm he) (gm he'))
  ·exact h
  ·exact absurd heq.symm (pwG hd hlt (gm he') (gm he))
 ·exact absurd heq.symm (pwG h2 hlt (gM hb') (gM hb) _ (List.mem_of_getElem? (gm he')) _ (List.mem_of_getElem? (gm he)))
def DelP (t : Timetable) (f : Fleet) (L : List Delay) (B : List (List Int)) (v j : Nat) (D : List Int) : Prop := D.length = t.Trips.length ∧ (∀ (i : Nat) b (k : Nat) e, B[i]? = some b → b[k]? = some e → (i < v ∨ (i = v ∧ k < j)) → D[(tix t e).toNat]? = some (dlv t f L b k)) ∧ ∀ p, p < t.Trips.length → (∀ (i : Nat) b (k : Nat) e, B[i]? = some b → b[k]? = some e → (i < v ∨ (i = v ∧ k < j)) → (tix t e).toNat ≠ p) → D[p]? = some 0
section
variable {t : Timetable} {f : Fleet} {L : List Delay} {B : List (List Int)}
theorem delP_zero : DelP t f L B 0 0 (List.replicate t.Trips.length 0) := ⟨by simp, fun i b k e _ _ h => by omega, fun p hp _ => by rw [List.getElem?_replicate]; simp [hp]⟩
theorem delP_next (hI : InjB t B) (hT : ∀ b ∈ B, ∀ e ∈ b, 0 ≤ tix t e) {v j : Nat} {D : List Int} (h : DelP t f L B v j D) {b : List Int} {e : Int} (hv : B[v]? = some b) (hj : b[j]? = some e) : DelP t f L B v (j + 1) (D.set (tix t e).toNat (dlv t f L b j)) := by
 obtain ⟨h1, h2, h3⟩ := h
 have hte := hT b (List.mem_of_getElem? hv) e (List.mem_of_getElem? hj)
 refine ⟨by rw [List.length_set]; exact h1, fun i b' k e' hb' he' hc => ?_, fun p hp hn => ?_⟩
 ·by_cases hs : tix t e' = tix t e
  ·obtain ⟨rfl, rfl⟩ := hI _ _ _ _ _ _ _ _ hb' he' hv hj hs
   rw [hv] at hb'; cases hb'
   rw [hs, List.getElem?_set_self (by rw [h1]; exact (tix_at hte).2.2.2)]
  ·have hte' := hT b' (List.mem_of_getElem? hb') e' (List.mem_of_getElem? he')
   rw [List.getElem?_set_ne (by omega)]
   refine h2 i b' k e' hb' he' ?_
   rcases hc with hc | ⟨hc1, hc2⟩
   ·exact .inl hc
   ·by_cases hkj : k = j
    ·subst hc1 hkj
     rw [hv] at hb'; cases hb'
     rw [hj] at he'; cases he'
     exact absurd rfl hs
    ·exact .inr ⟨hc1, by omega⟩
 ·rw [List.getElem?_set_ne (hn v b j e hv hj (.inr ⟨rfl, by omega⟩))]
  exact h3 p hp fun i b' k e' hb' he' hc => hn i b' k e' hb' he' (by omega)
theorem delP_row {v : Nat} {D : List Int} {b : List Int} (hv : B[v]? = some b) (h : DelP t f L B v b.length D) : DelP t f L B (v + 1) 0 D := by
 obtain ⟨h1, h2, h3⟩ := h
 refine ⟨h1, fun i b' k e' hb' he' hc => h2 i b' k e' hb' he' ?_, fun p hp hn => h3 p hp fun i b' k e' hb' he' hc => hn i b' k e' hb' he' (by omega)⟩
 by_cases hi : i = v
 ·subst hi
  rw [hv] at hb'; cases hb'
  exact .inr ⟨rfl, get_lt he'⟩
 ·exact .inl (by omega)
theorem del_in (hb : TB t) (hA : AskF t f) (hL : DelaysP L) (hLl : L.length ≤ 1000) (hB : BB B) (hI : InjB t B) (hT : ∀ b ∈ B, ∀ e ∈ b, 0 ≤ tix t e) {v : Nat} {b : List Int} (hv : B[v]? = some b) {D0 : List Int} (hD : DelP t f L B v 0 D0) :
  ∃ x x', iter (zq16_L1 t f L b) ((0 : Int), D0) = some x ∧ iter (zq51_L1 t f B L (v : Int)) ((0 : Int), D0) = some x' ∧ (x = x' ∧ DelP t f L B (v + 1) 0 x) := by
 have hbl := hB.2 b (List.mem_of_getElem? hv)
 have hTb := hT b (List.mem_of_getElem? hv)
 refine iter2 (fun m (a a' : Int × List Int) => a = a' ∧ ∃ j : Nat, m + j = b.length ∧ a.1 = (j : Int) ∧ DelP t f L B v j a.2) _ ?_ (k := b.length) ⟨rfl, 0, rfl, rfl, hD⟩
 rintro m ⟨j', D⟩ _ ⟨rfl, j, hm, e1, hD⟩
 simp only at e1 hD
 subst e1
 by_cases hj : j < b.length
 ·obtain ⟨e, he⟩ := get_ex hj
  have hlt : decide ((j : Int) < (b.length : Int)) = true := by simp; omega
  have hte := hTb e (List.mem_of_getElem? he)
  have hta := tix_at hte
  obtain ⟨d, hd⟩ := get_ex (l := D) (i := (tix t e).toNat) (by rw [hD.1]; exact hta.2.2.2)
  have hdi : idx D (tix t e) = some d := by rw [← hta.2.2.1]; exact ixs hd
  obtain ⟨q1, q2, q3, q4⟩ := end_tix hA hte
  have hpv := pv_bd hL e
  have hnext := delP_next hI hT hD hv he
  left
  by_cases hj0 : 0 < j
  ·obtain ⟨a, ha⟩ := get_ex (l := b) (i := j - 1) (by omega)
   have hw : w64 ((j : Int) - 1) = ((j - 1 : Nat) : Int) := by rw [w64_id (by omega)]; omega
   have hjp : decide ((0 : Int) < (j : Int)) = true := by simp; omega
   have hTa := hTb a (List.mem_of_getElem? ha)
   have hta' := tix_at hTa
   obtain ⟨r1, r2, r3, r4⟩ := end_tix hA hTa
   obtain ⟨z1, z2, z3⟩ := dead_tix hA hTa hte
   have hda : idx D (tix t a) = some (dlv t f L b (j - 1)) := by
    rw [← hta'.2.2.1]
    exact ixs (hD.2.1 v b (j - 1) a hv ha (.inr ⟨rfl, by omega⟩))
   have hbd := dlv_bd hA hL hTb (j - 1) (by omega)
   have hTu := hA.2.2.1
   have w1 : w64 (ev t (tr t a) + dlv t f L b (j - 1)) = ev t (tr t a) + dlv t f L b (j - 1) := w64_id (by omega)
   have w2 : w64 (ev t (tr t a) + dlv t f L b (j - 1) + f.Turn) = ev t (tr t a) + dlv t f L b (j - 1) + f.Turn := w64_id (by omega)
   have w3 : w64 (ev t (tr t a) + dlv t f L b (j - 1) + f.Turn + dv t f (tr t a) (tr t e)) = ev t (tr t a) + dlv t f L b (j - 1) + f.Turn + dv t f (tr t a) (tr t e) := w64_id (by omega)
   have hval : w64 (w64 ((if ev t (tr t a) + dlv t f L b (j - 1) + f.Turn + dv t f (tr t a) (tr t e) > (tr t e).Start then ev t (tr t a) + dlv t f L b (j - 1) + f.Turn + dv t f (tr t a) (tr t e) else (tr t e).Start) + pv L e) - (tr t e).Start) = dlv t f L b j := by
    have : dlv t f L b j = (if ev t (tr t a) + dlv t f L b (j - 1) + f.Turn + dv t f (tr t a) (tr t e) > (tr t e).Start then ev t (tr t a) + dlv t f L b (j - 1) + f.Turn + dv t f (tr t a) (tr t e) else (tr t e).Start) + pv L e - (tr t e).Start := by
     obtain ⟨i, rfl⟩ : ∃ i, j = i + 1 := ⟨j - 1, by omega⟩
     conv => lhs; unfold dlv
     rw [Nat.add_sub_cancel] at ha ⊢
     rw [getD0 ha, getD0 he]
    rw [this]
    split <;> rw [w64_id (x := _ + pv L e) (by omega), w64_id (by omega)]
   refine ⟨(w64 ((j : Int) + 1), D.set (tix t e).toNat (dlv t f L b j)), (w64 ((j : Int) + 1), D.set (tix t e).toNat (dlv t f L b j)), m - 1, ?_, ?_, by omega, rfl, j + 1, by omega, w64_succ (by omega), hnext⟩
   ·simp only [zq16_L1, hlt, if_true, idx_nat, he, Option.bind_some, tripI hb, tix_idx hte, hjp, hw, ha, tix_idx hTa, r3, hda, z2, w1, w2, w3, primI L hLl, hdi, hval]
   ·simp only [zq51_L1, ixs hv, hlt, if_true, idx_nat, he, Option.bind_some, tripS hb, tix_idx hte, hjp, hw, ha, r4, hda, z3, w1, w2, w3, l1Most_max, primS L hLl, hdi, hval]
  ·have hj0' : j = 0 := by omega
   subst hj0'
   have hjp : decide ((0 : Int) < ((0 : Nat) : Int)) = false := rfl
   have hval : w64 (w64 ((tr t e).Start + pv L e) - (tr t e).Start) = dlv t f L b 0 := by
    rw [w64_id (x := _ + pv L e) (by omega), w64_id (by omega)]
    unfold dlv
    rw [getD0 he]; omega
   refine ⟨(w64 (((0 : Nat) : Int) + 1), D.set (tix t e).toNat (dlv t f L b 0)), (w64 (((0 : Nat) : Int) + 1), D.set (tix t e).toNat (dlv t f L b 0)), m - 1, ?_, ?_, by omega, rfl, 1, by omega, rfl, hnext⟩
   ·simp only [zq16_L1, hlt, if_true, idx_nat, he, Option.bind_some, tripI hb, tix_idx hte, hjp, Bool.false_eq_true, if_false, primI L hLl, hdi, hval]
   ·simp only [zq51_L1, ixs hv, hlt, if_true, idx_nat, he, Option.bind_some, tripS hb, tix_idx hte, hjp, Bool.false_eq_true, if_false, primS L hLl, hdi, hval]
 ·have hlt : decide ((j : Int) < (b.length : Int)) = false := by simp; omega
  have : j = b.length := by omega
  subst this
  refine .inr ⟨D, D, ?_, ?_, rfl, delP_row hv hD⟩
  ·simp only [zq16_L1, hlt, Bool.false_eq_true, if_false]
  ·simp only [zq51_L1, ixs hv, hlt, Bool.false_eq_true, if_false, Option.bind_some]
theorem delays_of (hb : TB t) (hA : AskF t f) (hL : DelaysP L) (hLl : L.length ≤ 1000) (hB : BB B) (hI : InjB t B) (hT : ∀ b ∈ B, ∀ e ∈ b, 0 ≤ tix t e) :
  ∃ D, zq16 t f B L = some D ∧ zq51 t f B L = some D ∧ DelP t f L B B.length 0 D := by
 have hBl := hB.1
 have H : ∃ x x', iter (zq16_L2 t f B L) ((0 : Int), (List.replicate (t.Trips.length : Int).toNat (0 : Int))) = some x ∧ iter (zq51_L2 t f B L) ((0 : Int), (List.replicate (t.Trips.length : Int).toNat (0 : Int))) = some x' ∧ (x = x' ∧ DelP t f L B B.length 0 x) := by
  refine iter2 (fun m (a a' : Int × List Int) => a = a' ∧ ∃ v : Nat, m + v = B.length ∧ a.1 = (v : Int) ∧ DelP t f L B v 0 a.2) _ ?_ (k := B.length) ⟨rfl, 0, rfl, rfl, delP_zero⟩
  rintro m ⟨v', D⟩ _ ⟨rfl, v, hm, e1, hD⟩
  simp only at e1 hD
  subst e1
  by_cases hv : v < B.length
  ·obtain ⟨b, hbv⟩ := get_ex hv
   have hlt : decide ((v : Int) < (B.length : Int)) = true := by simp; omega
   obtain ⟨x, x', g1, g2, rfl, g3⟩ := del_in hb hA hL hLl hB hI hT hbv hD
   refine .inl ⟨(w64 ((v : Int) + 1), x), (w64 ((v : Int) + 1), x), m - 1, ?_, ?_, by omega, rfl, v + 1, by omega, w64_succ (by omega), g3⟩
   ·simp only [zq16_L2, hlt, if_true, idx_nat, hbv, Option.bind_some, g1]
   ·simp only [zq51_L2, hlt, if_true, Option.bind_some, g2]
  ·have hlt : decide ((v : Int) < (B.length : Int)) = false := by simp; omega
   have : v = B.length := by omega
   subst this
   refine .inr ⟨D, D, ?_, ?_, rfl, hD⟩
   ·simp only [zq16_L2, hlt, Bool.false_eq_true, if_false]
   ·simp only [zq51_L2, hlt, Bool.false_eq_true, if_false]
 obtain ⟨x, x', g1, g2, rfl, g3⟩ := H
 have hck : chk ((0 : Int) ≤ (t.Trips.length : Int) ∧ ((t.Trips.length : Int) : Int) ≤ 4294967296) = some () := chk_of (by have := hb.2; omega)
 exact ⟨x, by unfold zq16; simp only [hck, Option.bind_some, g1], by unfold zq51; simp only [hck, Option.bind_some, g2], g3⟩
theorem del_bd (hA : AskF t f) (hL : DelaysP L) (hB : BB B) (hT : ∀ b ∈ B, ∀ e ∈ b, 0 ≤ tix t e) {D : List Int} (hD : DelP t f L B B.length 0 D) {p : Nat} {x : Int} (hx : D[p]? = some x) : 0 ≤ x ∧ x ≤ 5000000 := by
 have hp : p < t.Trips.length := by rw [← hD.1]; exact get_lt hx
 by_cases hc : ∃ (i : Nat) (b : List Int) (k : Nat) (e : Int), B[i]? = some b ∧ b[k]? = some e ∧ (tix t e).toNat = p
 ·obtain ⟨i, b, k, e, h1, h2, h3⟩ := hc
  have := hD.2.1 i b k e h1 h2 (.inl (get_lt h1))
  rw [h3, hx] at this
  cases this
  have hbl := hB.2 b (List.mem_of_getElem? h1)
  have hk := get_lt h2
  have := dlv_bd hA hL (hT b (List.mem_of_getElem? h1)) k hk
  omega
 ·have := hD.2.2 p hp fun i b k e h1 h2 _ h3 => hc ⟨i, b, k, e, h1, h2, h3⟩
  rw [hx] at this; cases this; omega
end
theorem delays_draw {k : Nat} {c : l1Cur} {t : Timetable} (h : Cur k c) (hk : k ≤ 20000000) (hd : DT t) : Tot (zq68 c t) fun r => Cur (k + 1000) r.2 ∧ r.1.length ≤ 31 := by
 have hn := hd.2
 unfold zq68
 refine .call (P := fun o => Cur (k + 4 * t.Trips.length) ⟨o.1, o.2.1, ⟨o.2.2.1⟩⟩ ∧ o.2.2.2.length ≤ t.Trips.length) ?_ fun ⟨v9, v10, v11, v12⟩ ⟨hc1, hl⟩ => ?_
 ·refine .iter (fun q (s : Int × (List UInt8) × Int × Int × (List Delay)) => s.1 = ((t.Trips.length - q : Nat) : Int) ∧ q ≤ t.Trips.length ∧ s.2.2.2.2.length ≤ t.Trips.length - q ∧ Cur (k + 4 * (t.Trips.length - q)) ⟨s.2.1, s.2.2.1, ⟨s.2.2.2.1⟩⟩) (n := t.Trips.length) ⟨by simp, Nat.le_refl _, by simp, h.mono (by omega)⟩ ?_
  rintro q ⟨v, w1, w2, w3, w4⟩ ⟨hv, hq, hl, hcur⟩
  simp only at hv hl hcur
  subst hv
  unfold zq68_L1
  refine .iteP (fun hcc => ?_) (fun hcc => .dn ⟨hcur.mono (by omega), by simp only; omega⟩)
  obtain ⟨x, hx⟩ := get_ex (l := t.Trips) (i := t.Trips.length - q) (by omega)
  refine .call (P := fun o => Cur (k + 4 * (t.Trips.length - q) + 4) ⟨o.1, o.2.1, ⟨o.2.2.1⟩⟩ ∧ o.2.2.2.length ≤ t.Trips.length - q + 1) (.call (t_one 3 hcur (by omega)) fun r hr => .ite (fun _ => .eq (ixs hx) (.call (t_amongw _ (by simp) hr (by omega)) fun r2 ⟨hr2, _⟩ => .chk (by simp; omega) (.ok ⟨hr2.mono (by omega), by simp; omega⟩))) fun _ => .ok ⟨hr.mono (by omega), by dsimp only; omega⟩) fun ⟨v5, v6, v7, v8⟩ ⟨hc5, hl5⟩ => .nx ⟨q - 1, by omega, w64_dn hcc hq (by omega), by omega, ?_, hc5.mono (by omega)⟩
  simp only at hl5 ⊢; omega
 ·simp only at hl hc1
  refine .call (P := fun o => Cur (k + 1000) ⟨o.1, o.2.1, ⟨o.2.2.1⟩⟩ ∧ o.2.2.2.length ≤ 31) (.call (t_one 16 hc1 (by omega)) fun r hr => .ite (fun _ => .call (idOf_ok t hr (by omega)) fun r4 hr4 => .call (t_amongw _ (by simp) hr4 (by omega)) fun r5 ⟨hr5, _⟩ => .chk (by simp; omega) (.ok ⟨hr5.mono (by omega), by simp; omega⟩)) fun _ => .ok ⟨hr.mono (by omega), by dsimp only; omega⟩) fun ⟨v13, v14, v15, v16⟩ ⟨g1, g2⟩ => .ok ⟨g1, g2⟩
theorem place_ex {t : Timetable} {f : Fleet} {B : List (List Int)} (hP : BlocksP t f B) (hT : GoodT t) {p : Nat} {x : Trip} (hx : t.Trips[p]? = some x) : ∃ (i : Nat) (b : List Int) (k : Nat), B[i]? = some b ∧ b[k]? = some x.Id := by
 have hr : ∀ y ∈ B.flatten.map (tix t), 0 ≤ y ∧ y < (t.Trips.length : Int) := fun y hy => by
  obtain ⟨e, he, rfl⟩ := List.mem_map.1 hy
  obtain ⟨b, hb1, hb2⟩ := List.mem_flatten.1 he
  have := tix_at ((hP.1 b hb1).2.1 e hb2); omega
 have hm := pig_mem hP.2.1 hr (by rw [List.length_map]; exact hP.2.2) (get_lt hx)
 obtain ⟨e, he, hpe⟩ := List.mem_map.1 hm
 have hx' := tix_at (t := t) (e := e) (by omega)
 rw [hpe, Int.toNat_natCast, hx] at hx'
 have hid : x.Id = e := by rw [Option.some.inj hx'.1]; exact hx'.2.1
 obtain ⟨b, hb1, hb2⟩ := List.mem_flatten.1 he
 obtain ⟨i, hi⟩ := List.getElem?_of_mem hb1
 obtain ⟨k, hk⟩ := List.getElem?_of_mem hb2
 exact ⟨i, b, k, hi, by rw [hid]; exact hk⟩
theorem vHas_dec (l : List Int) (hl : l.length ≤ 100000) (x : Int) : zq117 l x = some (decide (x ∈ l)) := by
 unfold zq117
 rw [find_loop l (fun e => e == x) (fun _ => true) (fun i y hy => ?_) (by unfold zq117_L1; simp)]
 ·by_cases h : x ∈ l
  ·have : l.findIdx? (fun e => e == x) ≠ none := fun hn => by
    have := List.findIdx?_eq_none_iff.1 hn x h
    simp at this
   cases hf : l.findIdx? (fun e => e == x) with
   | none => exact absurd hf this
   | some i => simp [h]
  ·have : l.findIdx? (fun e => e == x) = none := List.findIdx?_eq_none_iff.2 fun y hy => by
    simp only [beq_eq_false_iff_ne, ne_eq]
    intro e; subst e; exact h hy
   rw [this]; simp [h]
 ·have hi := get_lt hy
  unfold zq117_L1
  have hlt : decide ((i : Int) < (l.length : Int)) = true := by simp; omega
  simp only [hlt, if_true, idx_nat, hy, Option.bind_some, w64_succ (n := i) (by omega)]
  split <;> rfl
def kept (C b : List Int) : List Int := b.filter fun e => !decide (e ∈ C)
theorem contains_int (C : List Int) (hC : C.length ≤ 1000) (e : Int) : zq111 C e = some (decide (e ∈ C)) := by
 unfold zq111
 rw [index_int_eq C (by omega)]
 simp only [Option.bind_some]
 refine congrArg some (decide_eq_decide.2 ⟨fun h => ?_, fun h => ?_⟩)
 ·obtain ⟨k, y, _, g2, g3, _⟩ := idx_fix (p := fun z => e == z) (l := C) (by omega)
  have : e = y := by simpa using g3
  subst this
  exact List.mem_of_getElem? g2
 ·by_cases hn : 0 ≤ fixI (fun z => e == z) C
  ·exact hn
  ·have := fixI_neg (p := fun z => e == z) (l := C) (by omega) e h
   simp at this
theorem kept_len (C b : List Int) : (kept C b).length ≤ b.length := List.length_filter_le ..
theorem kept_succ {C b : List Int} {j : Nat} {e : Int} (he : b[j]? = some e) : kept C (b.take (j + 1)) = if e ∈ C then kept C (b.take j) else kept C (b.take j) ++ [e] := by
 unfold kept
 rw [take_succ he, List.filter_append]
 by_cases h : e ∈ C <;> simp [h]
theorem keptI_in {C : List Int} (hC : C.length ≤ 1000) {b : List Int} (hb : b.length ≤ 2000) {X : List (List Int)} {v : Nat} (hX : X[v]? = some []) : iter (zq27_L1 C (v : Int) b) ((0 : Int), X) = some (X.set v (kept C b)) := by
 have hv := get_lt hX
 refine Tot.val (.iter (fun m (s : Int × List (List Int)) => ∃ j : Nat, s.1 = (j : Int) ∧ m + j = b.length ∧ s.2 = X.set v (kept C (b.take j))) (n := b.length) ⟨0, rfl, rfl, ?_⟩ ?_)
 ·show X = X.set v []
  exact (set_same hX).symm
 rintro m ⟨j', Y⟩ ⟨j, e1, hm, e2⟩
 simp only at e1 e2
 subst e1 e2
 unfold zq27_L1
 refine .iteP (fun hc => ?_) (fun hc => .dn (by rw [List.take_of_length_le (by omega)]))
 obtain ⟨e, he⟩ := get_ex (l := b) (i := j) (by omega)
 have hs : (X.set v (kept C (b.take j)))[v]? = some (kept C (b.take j)) := List.getElem?_set_self hv
 have hkl := kept_len C (b.take j)
 have hkl2 : (b.take j).length ≤ j := by rw [List.length_take]; omega
 refine .call (P := fun o => o = X.set v (kept C (b.take (j + 1)))) (.eq (ixs he) (.eq (contains_int C hC e) (.iteN (fun hn => .eq (ixs hs) (.chk (by simp; omega) (.eq (ixs hs) (.ok ?_)))) (fun hy => .ok ?_)))) fun o ho => .nx ⟨m - 1, by omega, j + 1, w64_succ (by omega), by omega, ho⟩
 ·rw [Int.toNat_natCast, List.set_set, kept_succ he, if_neg hn]
 ·rw [kept_succ he, if_pos hy]
theorem keptI {C : List Int} (hC : C.length ≤ 1000) {B : List (List Int)} (hB : BB B) : zq27 B C = some (B.map (kept C)) := by
 have hBl := hB.1
 unfold zq27
 refine Tot.val (.chk (by omega) (.call (P := fun o => o = B.map (kept C)) ?_ fun o ho => .ok ho))
 refine .iter (fun m (s : Int × List (List Int)) => ∃ v : Nat, s.1 = (v : Int) ∧ m + v = B.length ∧ s.2.length = B.length ∧ (∀ (i : Nat) b, i < v → B[i]? = some b → s.2[i]? = some (kept C b)) ∧ ∀ i, v ≤ i → i < B.length → s.2[i]? = some []) (n := B.length) ⟨0, rfl, rfl, by simp, fun i b h => by omega, fun i _ hi => by rw [List.getElem?_replicate]; simp [hi]⟩ ?_
 rintro m ⟨v', X⟩ ⟨v, e1, hm, hl, g1, g2⟩
 simp only at e1 hl g1 g2
 subst e1
 unfold zq27_L2
 refine .iteP (fun hc => ?_) (fun hc => .dn ?_)
 ·obtain ⟨b, hb⟩ := get_ex (l := B) (i := v) (by omega)
  refine .eq (ixs hb) (.eq (keptI_in hC (hB.2 b (List.mem_of_getElem? hb)) (g2 v (Nat.le_refl _) (by omega))) (.nx ⟨m - 1, by omega, v + 1, w64_succ (by omega), by omega, by simp only; rw [List.length_set]; exact hl, fun i c hi hic => ?_, fun i hi hil => ?_⟩))
  ·by_cases hiv : i = v
   ·subst hiv
    rw [hb] at hic; cases hic
    exact List.getElem?_set_self (by omega)
   ·simp only
    rw [List.getElem?_set_ne (by omega)]
    exact g1 i c (by omega) hic
  ·simp only
   rw [List.getElem?_set_ne (by omega)]
   exact g2 i (by omega) hil
 ·have hv : v = B.length := by omega
  refine List.ext_getElem? fun i => ?_
  rw [List.getElem?_map]
  rcases Nat.lt_or_ge i B.length with h | h
  ·obtain ⟨b, hb⟩ := get_ex h
   rw [hb, g1 i b (by omega) hb]; rfl
  ·rw [List.getElem?_eq_none (by omega), List.getElem?_eq_none h]; rfl
theorem keptS {C : List Int} (hC : C.length ≤ 1000) {b : List Int} (hb : b.length ≤ 2000) : zq57 b C = some (kept C b) := by
 unfold zq57
 refine Tot.val (.call (P := fun o => o = kept C b) ?_ fun o ho => .ok ho)
 refine .iter (fun m (s : Int × List Int) => ∃ j : Nat, s.1 = (j : Int) ∧ m + j = b.length ∧ s.2 = kept C (b.take j)) (n := b.length) ⟨0, rfl, rfl, rfl⟩ ?_
 rintro m ⟨j', Y⟩ ⟨j, e1, hm, e2⟩
 simp only at e1 e2
 subst e1 e2
 unfold zq57_L1
 refine .iteP (fun hc => ?_) (fun hc => .dn (by rw [List.take_of_length_le (by omega)]))
 obtain ⟨e, he⟩ := get_ex (l := b) (i := j) (by omega)
 have hkl := kept_len C (b.take j)
 have hkl2 : (b.take j).length ≤ j := by rw [List.length_take]; omega
 refine .call (P := fun o => o = kept C (b.take (j + 1))) (.eq (ixs he) (.eq (l1Has_eq C (by omega) e) (.iteN (fun hn => .eq (ixs he) (.chk (by simp; omega) (.ok ?_))) (fun hy => .ok ?_)))) fun o ho => .nx ⟨m - 1, by omega, j + 1, w64_succ (by omega), by omega, ho⟩
 ·rw [kept_succ he, if_neg hn]
 ·rw [kept_succ he, if_pos hy]
theorem keptAllS {C : List Int} (hC : C.length ≤ 1000) {B : List (List Int)} (hB : BB B) : zq58 B C = some (B.map (kept C)) := by
 have hBl := hB.1
 unfold zq58
 refine Tot.val (.call (P := fun o => o = B.map (kept C)) ?_ fun o ho => .ok ho)
 refine .iter (fun m (s : Int × List (List Int)) => ∃ j : Nat, s.1 = (j : Int) ∧ m + j = B.length ∧ s.2 = (B.take j).map (kept C)) (n := B.length) ⟨0, rfl, rfl, by simp⟩ ?_
 rintro m ⟨j', Y⟩ ⟨j, e1, hm, e2⟩
 simp only at e1 e2
 subst e1 e2
 unfold zq58_L1
 refine .iteP (fun hc => ?_) (fun hc => .dn (by rw [List.take_of_length_le (by omega)]))
 obtain ⟨b, hb⟩ := get_ex (l := B) (i := j) (by omega)
 refine .eq (ixs hb) (.eq (keptS hC (hB.2 b (List.mem_of_getElem? hb))) (.chk (by simp; omega) (.nx ⟨m - 1, by omega, j + 1, w64_succ (by omega), by omega, ?_⟩)))
 simp only
 rw [take_succ hb, List.map_append]; rfl
def CancP (t : Timetable) (C : List Int) : Prop := (∀ e ∈ C, 0 ≤ tix t e) ∧ C.Pairwise (· < ·)
theorem canc_both {t : Timetable} (hb : TB t) (hT : GoodT t) {C : List Int} (hC : C.length ≤ 1000) : ∃ v, zq9 t C = some v ∧ zq59 t C = some v ∧ (v = true → CancP t C) := by
 have H : ∃ x x', iter (zq9_L1 t C) ((0 : Int), (0 : Int)) = some x ∧ iter (zq59_L1 t C) (0 : Int) = some x' ∧ ((x = .ret false ∧ x' = .ret false) ∨ (x = .go () ∧ x' = .go () ∧ CancP t C)) := by
  refine iter2 (fun m (a : Int × Int) (a' : Int) => ∃ i : Nat, m + i = C.length ∧ a.2 = (i : Int) ∧ a' = (i : Int) ∧ CancP t (C.take i) ∧ (∀ e ∈ C.take i, e ≤ a.1) ∧ (i = 0 → a.1 = 0) ∧ (0 < i → C[i - 1]? = some a.1)) _ ?_ (k := C.length) ⟨0, rfl, rfl, rfl, ⟨by simp, by simp⟩, by simp, fun _ => rfl, fun h => by omega⟩
  rintro m ⟨d, v⟩ v' ⟨i, hm, e1, e2, hP, hle, h0, h1⟩
  simp only at e1 hle h0 h1
  subst e1 e2
  by_cases hi : i < C.length
  ·obtain ⟨x, hx⟩ := get_ex hi
   have hlt : decide ((i : Int) < (C.length : Int)) = true := by simp; omega
   have hS : zq59_L1 t C (i : Int) = (if tix t x < 0 ∨ (0 < i ∧ x ≤ d) then some (.dn (.ret false)) else some (.nx (w64 ((i : Int) + 1)))) := by
    by_cases c1 : tix t x < 0
    ·simp only [zq59_L1, hlt, if_true, idx_nat, hx, Option.bind_some, tripS hb, c1, decide_true, true_or]
    by_cases c3 : 0 < i
    ·have hw : w64 ((i : Int) - 1) = ((i - 1 : Nat) : Int) := by rw [w64_id (by omega)]; omega
     have hp : decide ((0 : Int) < (i : Int)) = true := by simp; omega
     simp only [zq59_L1, hlt, if_true, idx_nat, hx, Option.bind_some, tripS hb, c1, decide_false, Bool.false_eq_true, if_false, hp, hw, h1 c3, c3, false_or, true_and, decide_eq_true_eq]
    ·have hp : decide ((0 : Int) < (i : Int)) = false := by simp; omega
     simp only [zq59_L1, hlt, if_true, idx_nat, hx, Option.bind_some, tripS hb, c1, decide_false, Bool.false_eq_true, if_false, hp, c3, false_or, false_and]
   have hI : zq9_L1 t C (d, (i : Int)) = (if x ≤ d ∨ tix t x < 0 then some (.dn (.ret false)) else some (.nx (x, w64 ((i : Int) + 1)))) := by
    by_cases c3 : x ≤ d
    ·simp only [zq9_L1, hlt, if_true, idx_nat, hx, Option.bind_some, c3, decide_true, true_or]
    by_cases c1 : tix t x < 0
    ·simp only [zq9_L1, hlt, if_true, idx_nat, hx, Option.bind_some, tripI hb, c3, c1, decide_true, decide_false, Bool.false_eq_true, if_false, or_true]
    ·simp only [zq9_L1, hlt, if_true, idx_nat, hx, Option.bind_some, tripI hb, c3, c1, decide_false, Bool.false_eq_true, if_false, or_self]
   rw [hI, hS]
   have hiff : (x ≤ d ∨ tix t x < 0) ↔ (tix t x < 0 ∨ (0 < i ∧ x ≤ d)) := by
    by_cases c1 : tix t x < 0
    ·exact ⟨fun _ => .inl c1, fun _ => .inr c1⟩
    ·have hpos := tix_pos hT (e := x) (by omega)
     constructor
     ·rintro (h | h)
      ·right
       refine ⟨?_, h⟩
       rcases Nat.eq_zero_or_pos i with hz | hz
       ·have := h0 hz; omega
       ·exact hz
      ·exact absurd h c1
     ·rintro (h | h)
      ·exact absurd h c1
      ·exact .inl h.2
   by_cases hc : x ≤ d ∨ tix t x < 0
   ·rw [if_pos hc, if_pos (hiff.1 hc)]
    exact .inr ⟨_, _, rfl, rfl, .inl ⟨rfl, rfl⟩⟩
   ·rw [if_neg hc, if_neg (fun h => hc (hiff.2 h))]
    refine .inl ⟨_, _, m - 1, rfl, rfl, by omega, i + 1, by omega, w64_succ (by omega), w64_succ (by omega), ⟨fun y hy => ?_, ?_⟩, fun y hy => ?_, fun h => by omega, fun _ => hx⟩
    ·rw [take_succ hx] at hy
     rcases List.mem_append.1 hy with hy | hy
     ·exact hP.1 y hy
     ·rw [List.mem_singleton.1 hy]; omega
    ·rw [take_succ hx]
     refine List.pairwise_append.2 ⟨hP.2, by simp, fun a ha c hc' => ?_⟩
     rw [List.mem_singleton.1 hc']
     have := hle a ha; omega
    ·rw [take_succ hx] at hy
     simp only
     rcases List.mem_append.1 hy with hy | hy
     ·have := hle y hy; omega
     ·rw [List.mem_singleton.1 hy]; omega
  ·have hlt : decide ((i : Int) < (C.length : Int)) = false := by simp; omega
   rw [List.take_of_length_le (by omega : C.length ≤ i)] at hP
   refine .inr ⟨_, _, ?_, ?_, .inr ⟨rfl, rfl, hP⟩⟩
   ·simp only [zq9_L1, hlt, Bool.false_eq_true, if_false]
   ·simp only [zq59_L1, hlt, Bool.false_eq_true, if_false]
 obtain ⟨x, x', g1, g2, g3⟩ := H
 unfold zq9 zq59
 rw [g1, g2]
 rcases g3 with ⟨rfl, rfl⟩ | ⟨rfl, rfl, h⟩
 ·exact ⟨false, rfl, rfl, fun h => by cases h⟩
 ·exact ⟨true, rfl, rfl, fun _ => h⟩
section
variable {t : Timetable} {f : Fleet} {B : List (List Int)} {C : List Int}
noncomputable instance (t : Timetable) (f : Fleet) (b : List Int) : Decidable (ChainE t f b) := Classical.propDecidable _
def PossP (t : Timetable) (f : Fleet) (M : List (List Int)) : Prop := ∀ (i : Nat) b, M[i]? = some b → ChainE t f b
noncomputable instance (t : Timetable) (f : Fleet) (M : List (List Int)) : Decidable (PossP t f M) := Classical.propDecidable _
theorem row_loop {R : Type} (rv : R) {b : List Int} (hb : b.length ≤ 2000) {step : Int → Option (Lp Int (Fl R Unit))}
  (hs : ∀ (j : Nat) a c, b[j]? = some a → b[j + 1]? = some c → step ((j + 1 : Nat) : Int) = if FolE t f a c then some (.nx (w64 (((j + 1 : Nat) : Int) + 1))) else some (.dn (.ret rv))) (he : ∀ j : Nat, b.length ≤ j → step (j : Int) = some (.dn (.go ()))) :
  Tot (iter step (1 : Int)) fun r => (r = .go () ∧ ChainE t f b) ∨ (r = .ret rv ∧ ¬ ChainE t f b) := by
 refine .iter (fun m v => ∃ j : Nat, v = ((j + 1 : Nat) : Int) ∧ m + j = b.length ∧ ∀ (i : Nat) a c, i < j → b[i]? = some a → b[i + 1]? = some c → FolE t f a c) (n := b.length) ⟨0, rfl, rfl, fun i a c h => by omega⟩ ?_
 rintro m v ⟨j, rfl, hm, hP⟩
 by_cases hj : j + 1 < b.length
 ·obtain ⟨a, ha⟩ := get_ex (l := b) (i := j) (by omega)
  obtain ⟨c, hc⟩ := get_ex hj
  rw [hs j a c ha hc]
  by_cases hF : FolE t f a c
  ·rw [if_pos hF]
   refine .nx ⟨m - 1, by omega, j + 1, w64_succ (by omega), by omega, fun i p q hi hp hq => ?_⟩
   by_cases hij : i = j
   ·subst hij; rw [ha] at hp; rw [hc] at hq; cases hp; cases hq; exact hF
   ·exact hP i p q (by omega) hp hq
  ·rw [if_neg hF]
   exact .dn (.inr ⟨rfl, fun h => hF (h j a c ha hc)⟩)
 ·rw [he (j + 1) (by omega)]
  exact .dn (.inl ⟨rfl, fun i p q hp hq => hP i p q (by have := get_lt hq; omega) hp hq⟩)
theorem kept_tri (hT : ∀ b ∈ B, ∀ e ∈ b, 0 ≤ tix t e) : ∀ b ∈ B.map (kept C), ∀ e ∈ b, 0 ≤ tix t e := fun b hb e he => by
 obtain ⟨b0, h0, rfl⟩ := List.mem_map.1 hb
 exact hT b0 h0 e ((List.mem_filter.1 he).1)
theorem kept_bb (hB : BB B) : BB (B.map (kept C)) := ⟨by rw [List.length_map]; exact hB.1, fun b hb => by
 obtain ⟨b0, h0, rfl⟩ := List.mem_map.1 hb
 exact Nat.le_trans (kept_len C b0) (hB.2 b0 h0)⟩
theorem possI (hb : TB t) (h : AskF t f) (hB : BB B) (hC : C.length ≤ 1000) (hT : ∀ b ∈ B, ∀ e ∈ b, 0 ≤ tix t e) : zq23 t f B C = some (decide (PossP t f (B.map (kept C)))) := by
 unfold zq23
 rw [keptI hC hB]
 simp only [Option.bind_some]
 have hT' := kept_tri (C := C) hT
 have hB' := kept_bb (C := C) hB
 generalize B.map (kept C) = M at hT' hB'
 have hM := hB'.1
 refine flb_dec (.iter (fun m v => ∃ i : Nat, v = (i : Int) ∧ m + i = M.length ∧ ∀ (j : Nat) b, j < i → M[j]? = some b → ChainE t f b) (n := M.length) ⟨0, rfl, rfl, fun j b h => by omega⟩ ?_)
 rintro m v ⟨i, rfl, hm, hP⟩
 unfold zq23_L2
 refine .iteP (fun hc => ?_) (fun hc => .dn (.inl ⟨rfl, fun j b hj => hP j b (by have := get_lt hj; omega) hj⟩))
 obtain ⟨b, hbi⟩ := get_ex (l := M) (i := i) (by omega)
 have hbl := hB'.2 b (List.mem_of_getElem? hbi)
 have hTb := hT' b (List.mem_of_getElem? hbi)
 refine .eq (ixs hbi) ?_
 obtain ⟨r, hr, hrr⟩ := row_loop (t := t) (f := f) (.dn (.ret false)) hbl (step := zq23_L1 t f M (i : Int)) (fun j a c ha hc => by
  have hlt : decide (((j + 1 : Nat) : Int) < (b.length : Int)) = true := by have := get_lt hc; simp; omega
  have hw : w64 (((j + 1 : Nat) : Int) - 1) = (j : Int) := by have := get_lt hc; rw [w64_id (by omega)]; omega
  have ga := hTb a (List.mem_of_getElem? ha)
  have gc := hTb c (List.mem_of_getElem? hc)
  have hf := (fol_both h ga gc).1
  by_cases hF : FolE t f a c
  ·simp only [zq23_L1, ixs hbi, Option.bind_some, hlt, if_true, hw, idx_nat, ha, hc, withI hb ga, withI hb gc, hf, hF, decide_true, Bool.not_true, Bool.false_eq_true, if_false]
  ·simp only [zq23_L1, ixs hbi, Option.bind_some, hlt, if_true, hw, idx_nat, ha, hc, withI hb ga, withI hb gc, hf, hF, decide_false, Bool.not_false, if_false]) (fun j hj => by
  have hlt : decide ((j : Int) < (b.length : Int)) = false := by simp; omega
  simp only [zq23_L1, ixs hbi, Option.bind_some, hlt, Bool.false_eq_true, if_false])
 rw [hr]
 rcases hrr with ⟨rfl, hch⟩ | ⟨rfl, hch⟩
 ·refine .nx ⟨m - 1, by omega, i + 1, w64_succ (by omega), by omega, fun j c hj hjc => ?_⟩
  by_cases hji : j = i
  ·subst hji; rw [hbi] at hjc; cases hjc; exact hch
  ·exact hP j c (by omega) hjc
 ·exact .dn (.inr ⟨rfl, fun hA => hch (hA i b hbi)⟩)
theorem follS (hb : TB t) (h : AskF t f) {b : List Int} (hbl : b.length ≤ 2000) (hTb : ∀ e ∈ b, 0 ≤ tix t e) : zq56 t f b = some (decide (ChainE t f b)) := by
 unfold zq56
 refine flb_dec (row_loop (t := t) (f := f) false hbl (fun j a c ha hc => ?_) (fun j hj => ?_))
 ·have hlt : decide (((j + 1 : Nat) : Int) < (b.length : Int)) = true := by have := get_lt hc; simp; omega
  have hw : w64 (((j + 1 : Nat) : Int) - 1) = (j : Int) := by have := get_lt hc; rw [w64_id (by omega)]; omega
  have ga := hTb a (List.mem_of_getElem? ha)
  have gc := hTb c (List.mem_of_getElem? hc)
  have hf := (fol_both h ga gc).2
  by_cases hF : FolE t f a c
  ·simp only [zq56_L1, Option.bind_some, hlt, if_true, hw, idx_nat, ha, hc, tripS hb, hf, hF, decide_true, Bool.not_true, Bool.false_eq_true, if_false]
  ·simp only [zq56_L1, Option.bind_some, hlt, if_true, hw, idx_nat, ha, hc, tripS hb, hf, hF, decide_false, Bool.not_false, if_false]
 ·have hlt : decide ((j : Int) < (b.length : Int)) = false := by simp; omega
  simp only [zq56_L1, hlt, Bool.false_eq_true, if_false]
theorem possS (hb : TB t) (h : AskF t f) (hB : BB B) (hC : C.length ≤ 1000) (hT : ∀ b ∈ B, ∀ e ∈ b, 0 ≤ tix t e) : Ab.flb (iter (zq60_L1 t f B C) (0 : Int)) (fun _ => some true) = some (decide (PossP t f (B.map (kept C)))) := by
 have hM := hB.1
 refine flb_dec (.iter (fun m v => ∃ i : Nat, v = (i : Int) ∧ m + i = B.length ∧ ∀ (j : Nat) b, j < i → B[j]? = some b → ChainE t f (kept C b)) (n := B.length) ⟨0, rfl, rfl, fun j b h => by omega⟩ ?_)
 rintro m v ⟨i, rfl, hm, hP⟩
 have gM : ∀ {j : Nat} {c : List Int}, (B.map (kept C))[j]? = some c → ∃ b, B[j]? = some b ∧ kept C b = c := fun {j c} hj => by
  rw [List.getElem?_map] at hj
  cases hb : B[j]? with
  | none => rw [hb] at hj; cases hj
  | some b => rw [hb] at hj; exact ⟨b, rfl, Option.some.inj hj⟩
 unfold zq60_L1
 refine .iteP (fun hc => ?_) (fun hc => .dn (.inl ⟨rfl, fun j c hj => ?_⟩))
 ·obtain ⟨b, hbi⟩ := get_ex (l := B) (i := i) (by omega)
  have hbm := List.mem_of_getElem? hbi
  have hkl := kept_len C b
  have hbl := hB.2 b hbm
  refine .eq (ixs hbi) (.eq (keptS hC hbl) (.eq (follS hb h (by omega) fun e he => hT b hbm e ((List.mem_filter.1 he).1)) (.iteN (fun hn => .dn (.inr ⟨rfl, fun hA => hn (hA i _ (by rw [List.getElem?_map, hbi]; rfl))⟩)) (fun hp => .nx ⟨m - 1, by omega, i + 1, w64_succ (by omega), by omega, fun j c hj hjc => ?_⟩))))
  by_cases hji : j = i
  ·subst hji; rw [hbi] at hjc; cases hjc; exact hp
  ·exact hP j c (by omega) hjc
 ·obtain ⟨b, hb, rfl⟩ := gM hj
  exact hP j b (by have := get_lt hb; omega) hb
theorem choice_both (hb : TB t) (hf : FB f) (hB : BB B) (hC : C.length ≤ 1000) {L : List Delay} (hL : L.length ≤ 1000) : ∃ v, zq1 t f B C = some v ∧
  ((v = false ∧ zq54 t f B L C = some false) ∨ (v = true ∧ AskF t f ∧ BlocksP t f B ∧ CancP t C ∧ PossP t f (B.map (kept C)) ∧ ∃ w, zq10 t L = some w ∧ zq54 t f B L C = some w ∧ (w = true → DelaysP L))) := by
 obtain ⟨v, g1, g2, g3⟩ := valid_blocks hb hf hB
 unfold zq1 zq54 zq50
 rw [g1, g2]
 cases v with
 | false => exact ⟨false, rfl, .inl ⟨rfl, rfl⟩⟩
 | true =>
  obtain ⟨hA, hP⟩ := g3 rfl
  have hT := fun b h => (hP.1 b h).2.1
  obtain ⟨w, k1, k2, k3⟩ := delays_both hb hA.1 hL
  obtain ⟨c, c1, c2, c3⟩ := canc_both hb hA.1 hC
  unfold zq60
  rw [c1, c2, possI hb hA hB hC hT, possS hb hA hB hC hT, k1, k2]
  cases c with
  | false => exact ⟨false, rfl, .inl ⟨rfl, by cases w <;> rfl⟩⟩
  | true =>
   by_cases hp : PossP t f (B.map (kept C))
   ·refine ⟨true, by simp [hp], .inr ⟨rfl, hA, hP, c3 rfl, hp, w, rfl, ?_, k3⟩⟩
    cases w <;> simp [hp]
   ·refine ⟨false, by simp [hp], .inl ⟨rfl, ?_⟩⟩
    cases w <;> simp [hp]
end
def NegP (t : Timetable) (C D X : List Int) : Prop := X.length = D.length ∧ ∀ (p : Nat) x d, t.Trips[p]? = some x → D[p]? = some d → X[p]? = some (if x.Id ∈ C then -1 else d)
section
variable {t : Timetable} {f : Fleet} {B : List (List Int)} {C D : List Int} {L : List Delay}
theorem neg_ext (hl : D.length = t.Trips.length) {X X' : List Int} (h : NegP t C D X) (h' : NegP t C D X') : X = X' := by
 refine List.ext_getElem? fun p => ?_
 rcases Nat.lt_or_ge p D.length with hp | hp
 ·obtain ⟨d, hd⟩ := get_ex hp
  obtain ⟨x, hx⟩ := get_ex (l := t.Trips) (i := p) (by omega)
  rw [h.2 p x d hx hd, h'.2 p x d hx hd]
 ·rw [List.getElem?_eq_none (by rw [h.1]; exact hp), List.getElem?_eq_none (by rw [h'.1]; exact hp)]
theorem negI (hb : TB t) (hT : GoodT t) (hC : C.length ≤ 1000) (hc : ∀ e ∈ C, 0 ≤ tix t e) (hl : D.length = t.Trips.length) : Tot (iter (zq14_L1 t C) ((0 : Int), D)) fun X => NegP t C D X := by
 refine .iter (fun m (s : Int × List Int) => ∃ j : Nat, s.1 = (j : Int) ∧ m + j = C.length ∧ NegP t (C.take j) D s.2) (n := C.length) ⟨0, rfl, rfl, rfl, fun p x d hx hd => by simp [hd]⟩ ?_
 rintro m ⟨v, X⟩ ⟨j, e1, hm, hN⟩
 simp only at e1 hN
 subst e1
 unfold zq14_L1
 refine .iteP (fun h => ?_) (fun h => .dn (by rw [List.take_of_length_le (by omega)] at hN; exact hN))
 obtain ⟨e, he⟩ := get_ex (l := C) (i := j) (by omega)
 have hte := hc e (List.mem_of_getElem? he)
 have hta := tix_at hte
 obtain ⟨y, hy⟩ := get_ex (l := X) (i := (tix t e).toNat) (by rw [hN.1, hl]; exact hta.2.2.2)
 have hyi : idx X (tix t e) = some y := by rw [← hta.2.2.1]; exact ixs hy
 refine .eq (ixs he) (.eq (tripI hb e) (.eq hyi (.nx ⟨m - 1, by omega, j + 1, w64_succ (by omega), by omega, by simp only; rw [List.length_set]; exact hN.1, fun p x d hx hd => ?_⟩)))
 simp only
 rw [take_succ he]
 have hxi := tix_trip hT hx
 by_cases hp : (tix t e).toNat = p
 ·subst hp
  rw [hta.1] at hx; cases hx
  rw [List.getElem?_set_self (by rw [hN.1]; exact get_lt hd), hta.2.1]
  simp
 ·rw [List.getElem?_set_ne hp, hN.2 p x d hx hd]
  have : x.Id ≠ e := fun h => by rw [h] at hxi; omega
  simp [this]
theorem negS (hC : C.length ≤ 1000) (hn : t.Trips.length ≤ 1000) (hl : D.length = t.Trips.length) : Tot (iter (zq55_L1 t C) ((0 : Int), D)) fun X => NegP t C D X := by
 refine .iter (fun m (s : Int × List Int) => ∃ j : Nat, s.1 = (j : Int) ∧ m + j = D.length ∧ s.2.length = D.length ∧ (∀ (p : Nat) x d, p < j → t.Trips[p]? = some x → D[p]? = some d → s.2[p]? = some (if x.Id ∈ C then -1 else d)) ∧ ∀ p, j ≤ p → s.2[p]? = D[p]?) (n := D.length) ⟨0, rfl, rfl, rfl, fun p x d h => by omega, fun p _ => rfl⟩ ?_
 rintro m ⟨v, X⟩ ⟨j, e1, hm, g0, g1, g2⟩
 simp only at e1 g0 g1 g2
 subst e1
 unfold zq55_L1
 refine .iteP (fun h => ?_) (fun h => .dn ⟨g0, fun p x d hx hd => g1 p x d (by have := get_lt hd; omega) hx hd⟩)
 obtain ⟨x, hx⟩ := get_ex (l := t.Trips) (i := j) (by omega)
 obtain ⟨d, hd⟩ := get_ex (l := D) (i := j) (by omega)
 have hy : X[j]? = some d := by rw [g2 j (Nat.le_refl _)]; exact hd
 refine .call (P := fun o => o.length = D.length ∧ (∀ (p : Nat) x d, p < j + 1 → t.Trips[p]? = some x → D[p]? = some d → o[p]? = some (if x.Id ∈ C then -1 else d)) ∧ ∀ p, j + 1 ≤ p → o[p]? = D[p]?) (.eq (ixs hx) (.eq (l1Has_eq C (by omega) x.Id) (.iteP (fun hm' => .eq (ixs hy) (.ok ⟨by rw [List.length_set]; exact g0, fun p x' d' hp hx' hd' => ?_, fun p hp => ?_⟩)) (fun hm' => .ok ⟨g0, fun p x' d' hp hx' hd' => ?_, fun p hp => g2 p (by omega)⟩)))) fun o ⟨k1, k2, k3⟩ => .nx ⟨m - 1, by omega, j + 1, w64_succ (by omega), by omega, k1, k2, k3⟩
 ·rw [Int.toNat_natCast]
  by_cases hpj : p = j
  ·subst hpj
   rw [hx] at hx'; cases hx'
   rw [List.getElem?_set_self (by omega), if_pos hm']
  ·rw [List.getElem?_set_ne (by omega)]
   exact g1 p x' d' (by omega) hx' hd'
 ·rw [Int.toNat_natCast, List.getElem?_set_ne (by omega)]
  exact g2 p (by omega)
 ·by_cases hpj : p = j
  ·subst hpj
   rw [hx] at hx'; cases hx'
   rw [hd] at hd'; cases hd'
   rw [hy, if_neg hm']
  ·exact g1 p x' d' (by omega) hx' hd'
theorem kept_flat (C : List Int) (B : List (List Int)) : (B.map (kept C)).flatten = kept C B.flatten := by
 unfold kept
 rw [List.filter_flatten]
theorem kept_inj (hP : BlocksP t f B) : InjB t (B.map (kept C)) := by
 refine inj_of ?_
 rw [kept_flat]
 exact List.Nodup.sublist (List.Sublist.map _ List.filter_sublist) hP.2.1
theorem choice_delays (hb : TB t) (hA : AskF t f) (hP : BlocksP t f B) (hB : BB B) (hC : C.length ≤ 1000) (hc : CancP t C) (hL : DelaysP L) (hLl : L.length ≤ 1000) :
  ∃ D X, D.length = t.Trips.length ∧ (∀ (p : Nat) d, D[p]? = some d → 0 ≤ d ∧ d ≤ 5000000) ∧ DelP t f L (B.map (kept C)) (B.map (kept C)).length 0 D ∧ NegP t C D X ∧ zq14 t f B L C = some X ∧ zq55 t f B L C = some X := by
 have hT := fun b h => (hP.1 b h).2.1
 have hT' := kept_tri (C := C) hT
 have hB' := kept_bb (C := C) hB
 obtain ⟨D, d1, d2, d3⟩ := delays_of hb hA hL hLl hB' (kept_inj (C := C) hP) hT'
 have hn := hA.1.2.1
 obtain ⟨X, x1, x2⟩ := negI hb hA.1 hC hc.1 d3.1
 obtain ⟨X', y1, y2⟩ := negS (C := C) (t := t) hC (by omega) d3.1
 have := neg_ext d3.1 x2 y2
 subst this
 refine ⟨D, X, d3.1, fun p d hd => del_bd hA hL hB' hT' d3 hd, d3, x2, ?_, ?_⟩
 ·unfold zq14
  simp only [keptI hC hB, Option.bind_some, d1, x1]
 ·unfold zq55
  simp only [keptAllS hC hB, Option.bind_some, d2, y1]
theorem sub_len : ∀ {l m : List Int}, l.Nodup → (∀ x ∈ l, x ∈ m) → l.length ≤ m.length
 | [], m, _, _ => by simp
 | a :: l, m, hd, h => by
  have ha := h a (List.mem_cons_self ..)
  have h1 := List.nodup_cons.1 hd
  have := sub_len (l := l) (m := m.erase a) h1.2 (fun x hx => (List.mem_erase_of_ne (fun e => h1.1 (by rw [← e]; exact hx))).2 (h x (List.mem_cons_of_mem _ hx)))
  rw [List.length_erase_of_mem ha] at this
  have := List.length_pos_of_mem ha
  simp only [List.length_cons]; omega
theorem filt_split (p : Int → Bool) : ∀ l : List Int, (l.filter fun x => !p x).length + (l.filter p).length = l.length
 | [] => rfl
 | a :: l => by
  have := filt_split p l
  cases h : p a <;> simp [h] <;> omega
theorem kept_count (hT : GoodT t) (hP : BlocksP t f B) (hc : CancP t C) : (B.map (kept C)).flatten.length + C.length = t.Trips.length := by
 have hfd : B.flatten.Nodup := by
  have := hP.2.1
  rw [List.Nodup, List.pairwise_map] at this
  exact this.imp fun h e => h (by rw [e])
 have hcd : C.Nodup := hc.2.imp fun h => by omega
 have h1 : C.length ≤ (B.flatten.filter fun e => decide (e ∈ C)).length := sub_len hcd fun e he => by
  refine List.mem_filter.2 ⟨?_, by simpa using he⟩
  have hte := tix_at (hc.1 e he)
  obtain ⟨i, b, k, hi, hk⟩ := place_ex hP hT hte.1
  rw [hte.2.1] at hk
  exact List.mem_flatten.2 ⟨b, List.mem_of_getElem? hi, List.mem_of_getElem? hk⟩
 have h2 : (B.flatten.filter fun e => decide (e ∈ C)).length ≤ C.length := sub_len (hfd.sublist List.filter_sublist) fun e he => by
  simpa using (List.mem_filter.1 he).2
 have h3 := filt_split (fun e => decide (e ∈ C)) B.flatten
 rw [kept_flat]
 unfold kept
 have := hP.2.2
 omega
theorem len_sum : ∀ M : List (List Int), (M.map fun b => (b.length : Int)).sum = (M.flatten.length : Int)
 | [] => rfl
 | b :: M => by
  have := len_sum M
  simp only [List.map_cons, List.sum_cons, List.flatten_cons, List.length_append]
  omega
def rid (X : List Int) : Nat → Int
 | 0 => 0
 | k + 1 => rid X k + 2 * (if X.getD k 0 < 0 then 7 else X.getD k 0)
theorem rid_bd {X : List Int} (h : ∀ (p : Nat) d, X[p]? = some d → d ≤ 5000000) : ∀ k, k ≤ X.length → 0 ≤ rid X k ∧ rid X k ≤ 10000000 * k
 | 0, _ => by unfold rid; omega
 | k + 1, hk => by
  have ih := rid_bd h k (by omega)
  obtain ⟨d, hd⟩ := get_ex (l := X) (i := k) (by omega)
  have := h k d hd
  unfold rid
  rw [getD0 hd]
  split <;> omega
theorem kept_loop2 (hn : t.Trips.length ≤ 12) {X : List Int} (hC : C.length ≤ 1000) (hl : X.length = t.Trips.length) (hb : ∀ (p : Nat) d, X[p]? = some d → d ≤ 5000000) (hN : ∀ (p : Nat) x d, t.Trips[p]? = some x → X[p]? = some d → (d < 0 ↔ x.Id ∈ C)) :
  iter (v_FnKept_L2 (t, f, B, L, C) (X, true)) ((0 : Int), (0 : Int), ([] : List Int)) = some (.go (rid X X.length, List.replicate X.length 2)) := by
 refine Tot.val (.iter (fun m (s : Int × Int × List Int) => ∃ p : Nat, s.2.1 = (p : Int) ∧ m + p = X.length ∧ s.1 = rid X p ∧ s.2.2 = List.replicate p 2) (n := X.length) ⟨0, rfl, rfl, rfl, rfl⟩ ?_)
 rintro m ⟨i2, v, sum⟩ ⟨p, e1, hm, e2, e3⟩
 simp only at e1 e2 e3
 subst e1 e2 e3
 unfold v_FnKept_L2
 refine .iteP (fun hc => ?_) (fun hc => .dn ?_)
 ·have hp : p < X.length := by simp only at hc; omega
  obtain ⟨d, hd⟩ := get_ex hp
  obtain ⟨x, hx⟩ := get_ex (l := t.Trips) (i := p) (by omega)
  have hck : chk ((List.replicate p (2 : Int)).length + ([2] : List Int).length ≤ 4294967296) = some () := chk_of (by simp; omega)
  have hvh : zq117 C x.Id = some (decide (d < 0)) := by
   rw [vHas_dec C (by omega)]
   exact congrArg some (decide_eq_decide.2 (hN p x d hx hd).symm)
  have hbd := rid_bd hb p (by omega)
  have hdb := hb p d hd
  refine .eq (a := (Fl.go (rid X (p + 1)) : Fl (Lp (Int × Int × List Int) (Fl Bool (Int × List Int))) Int)) ?_ (.nx ⟨m - 1, by omega, p + 1, w64_succ (by omega), by omega, rfl, ?_⟩)
  ·have hr : rid X (p + 1) = rid X p + 2 * (if d < 0 then 7 else d) := by conv => { lhs; unfold rid }; rw [getD0 hd]
   by_cases h0 : d < 0
   ·rw [if_pos h0] at hr
    simp only [hck, Option.bind_some, idx_nat, hd, hx, hvh, beq_self_eq_true, Bool.not_true, Bool.false_eq_true, if_false, h0, decide_true, if_true, w64_id (x := rid X p + 14) (by omega), hr]
    rfl
   ·rw [if_neg h0] at hr
    simp only [hck, Option.bind_some, idx_nat, hd, hx, hvh, beq_self_eq_true, Bool.not_true, Bool.false_eq_true, if_false, h0, decide_false, w64_id (x := 2 * d) (by omega), w64_id (x := rid X p + 2 * d) (by omega), hr]
  ·simp only
   rw [List.replicate_succ']
 ·have : p = X.length := by simp only at hc; omega
  rw [this]
theorem pass_loop (hn : t.Trips.length ≤ 12) {X : List Int} (hl : X.length = t.Trips.length) (hb : ∀ (p : Nat) d, X[p]? = some d → d ≤ 5000000) : iter (zq7_L1 (List.replicate X.length 2) 7 X) ((0 : Int), (0 : Int)) = some (.go (rid X X.length)) := by
 refine Tot.val (.iter (fun m (s : Int × Int) => ∃ p : Nat, s.2 = (p : Int) ∧ m + p = X.length ∧ s.1 = rid X p) (n := X.length) ⟨0, rfl, rfl, rfl⟩ ?_)
 rintro m ⟨s, v⟩ ⟨p, e1, hm, e2⟩
 simp only at e1 e2
 subst e1 e2
 unfold zq7_L1
 refine .iteP (fun hc => ?_) (fun hc => .dn (by rw [show p = X.length by omega]))
 have hp : p < X.length := by omega
 obtain ⟨d, hd⟩ := get_ex hp
 have h2 : (List.replicate X.length (2 : Int))[p]? = some 2 := by rw [List.getElem?_replicate]; simp [hp]
 have hw : zq36 2 0 1000 = some true := by rw [within_eq]; rfl
 have hbd := rid_bd hb p (by omega)
 have hdb := hb p d hd
 have hr : rid X (p + 1) = rid X p + 2 * (if d < 0 then 7 else d) := by conv => { lhs; unfold rid }; rw [getD0 hd]
 refine .eq (ixs hd) (.eq (ixs h2) (.eq hw ?_))
 simp only [Bool.not_true, Bool.false_eq_true, if_false]
 refine .call (P := fun v => v = if d < 0 then 7 else d) (.iteP (fun h => .ok (by rw [if_pos h])) (fun h => .ok (by rw [if_neg h]))) fun v hv => .eq (ixs h2) (.nx ⟨m - 1, by omega, p + 1, w64_succ (by omega), by omega, ?_⟩)
 subst hv
 simp only
 rw [hr]
 split
 ·rw [w64_id (x := 2 * 7) (by omega), w64_id (by omega)]
 ·rw [w64_id (x := 2 * d) (by omega), w64_id (by omega)]
end
theorem draw_choice {k : Nat} {c : l1Cur} {t : Timetable} (h : Cur k c) (hk : k ≤ 20000000) (hd : DT t) : Tot (zq67 c t) fun r => Cur (k + 1000) r.2 ∧ r.1.length ≤ 31 := by
 have hn := hd.2
 unfold zq67
 refine .call (P := fun o => Cur (k + 4 * t.Trips.length) ⟨o.1, o.2.1, ⟨o.2.2.1⟩⟩ ∧ o.2.2.2.length ≤ t.Trips.length) ?_ fun ⟨v9, v10, v11, v12⟩ ⟨hc1, hl⟩ => ?_
 ·refine .iter (fun q (s : Int × (List UInt8) × Int × Int × (List Int)) => s.1 = ((t.Trips.length - q : Nat) : Int) ∧ q ≤ t.Trips.length ∧ s.2.2.2.2.length ≤ t.Trips.length - q ∧ Cur (k + 4 * (t.Trips.length - q)) ⟨s.2.1, s.2.2.1, ⟨s.2.2.2.1⟩⟩) (n := t.Trips.length) ⟨by simp, Nat.le_refl _, by simp, h.mono (by omega)⟩ ?_
  rintro q ⟨v, w1, w2, w3, w4⟩ ⟨hv, hq, hl, hcur⟩
  simp only at hv hl hcur
  subst hv
  unfold zq67_L1
  refine .iteP (fun hcc => ?_) (fun hcc => .dn ⟨hcur.mono (by omega), by simp only; omega⟩)
  obtain ⟨x, hx⟩ := get_ex (l := t.Trips) (i := t.Trips.length - q) (by omega)
  refine .call (P := fun o => Cur (k + 4 * (t.Trips.length - q) + 4) ⟨o.1, o.2.1, ⟨o.2.2.1⟩⟩ ∧ o.2.2.2.length ≤ t.Trips.length - q + 1) (.call (t_one 4 hcur (by omega)) fun r hr => .ite (fun _ => .eq (ixs hx) (.chk (by simp; omega) (.ok ⟨hr.mono (by omega), by simp; omega⟩))) fun _ => .ok ⟨hr.mono (by omega), by dsimp only; omega⟩) fun ⟨v5, v6, v7, v8⟩ ⟨hc5, hl5⟩ => .nx ⟨q - 1, by omega, w64_dn hcc hq (by omega), by omega, ?_, hc5.mono (by omega)⟩
  simp only at hl5 ⊢; omega
 ·simp only at hl hc1
  refine .call (P := fun o => Cur (k + 1000) ⟨o.1, o.2.1, ⟨o.2.2.1⟩⟩ ∧ o.2.2.2.length ≤ 31) (.call (t_one 16 hc1 (by omega)) fun r hr => .ite (fun _ => .call (idOf_ok t hr (by omega)) fun r4 hr4 => .chk (by simp; omega) (.ok ⟨hr4.mono (by omega), by simp; omega⟩)) fun _ => .ok ⟨hr.mono (by omega), by dsimp only; omega⟩) fun ⟨v13, v14, v15, v16⟩ ⟨g1, g2⟩ => .ok ⟨g1, g2⟩
theorem draw_kept (code : List UInt8) : Tot (zq38 code) fun r => DT r.1 ∧ FB r.2.1 ∧ BB r.2.2.1 ∧ r.2.2.2.1.length ≤ 31 ∧ r.2.2.2.2.length ≤ 31 := by
 unfold zq38
 exact .call (planned_ok (cur0 code) (by omega)) fun r ⟨hc, hd, hf, hB⟩ => .call (delays_draw hc (by omega) hd) fun r3 ⟨hc3, hl⟩ => .call (draw_choice hc3 (by omega) hd) fun r4 ⟨_, hl4⟩ => .ok ⟨hd, hf, hB, hl, hl4⟩
theorem kept_true (code : List UInt8) : v_FnKept code = some true := by
 unfold v_FnKept
 rw [vBig_eq]
 simp only [Option.bind_some]
 split
 ·rfl
 ·obtain ⟨⟨t, f, B, L, C⟩, hr, hd, hf, hB, hL, hC⟩ := draw_kept code
  simp only at hd hf hB hL hC
  have hb := hd.tb
  rw [hr]
  simp only [Option.bind_some]
  have bad : zq0 t f B L C = some ([], false) → zq37 t f B L C = some ([], false) → ((zq0 t f B L C).bind fun r2 => (zq37 t f B L C).bind fun r3 => (if (!(r2.2 == r3.2)) = true then some true else (zq118 r2.1 r3.1).bind fun r4 => some (!r4)).bind fun (v : Bool) => if v = true then some false else if (!r2.2) = true then some ((r2.1.length : Int) == 0) else some false) = some true := fun e1 e2 => by
   rw [e1, e2]
   simp only [Option.bind_some, beq_self_eq_true, Bool.not_true, Bool.false_eq_true, if_false, vInts_refl [] (by simp), Bool.not_false, if_true]
   rfl
  obtain ⟨v, g1, hv⟩ := choice_both (C := C) hb hf hB (by omega) (L := L) (by omega)
  have fin : zq0 t f B L C = some ([], false) → zq37 t f B L C = some ([], false) → ∀ k : _ → _, ((zq0 t f B L C).bind fun r2 => (zq37 t f B L C).bind fun r3 => (if (!(r2.2 == r3.2)) = true then some true else (zq118 r2.1 r3.1).bind fun r4 => some (!r4)).bind fun (v : Bool) => if v = true then some false else if (!r2.2) = true then some ((r2.1.length : Int) == 0) else k r2) = some true := fun e1 e2 k => by
   rw [e1, e2]
   simp only [Option.bind_some, beq_self_eq_true, Bool.not_true, Bool.false_eq_true, if_false, vInts_refl [] (by simp), Bool.not_false, if_true]
   rfl
  rcases hv with ⟨rfl, g2⟩ | ⟨rfl, hA, hP, hcp, hpos, w, w1, w2, w3⟩
  ·refine fin ?_ ?_ _
   ·unfold zq0; simp only [g1, Option.bind_some, Bool.not_false, if_true]
   ·unfold zq37; simp only [g2, Option.bind_some, Bool.not_false, if_true]
  ·cases w with
   | false =>
    refine fin ?_ ?_ _
    ·unfold zq0; simp only [g1, w1, Option.bind_some, Bool.not_true, Bool.false_eq_true, if_false, Bool.not_false, if_true]
    ·unfold zq37; simp only [w2, Option.bind_some, Bool.not_false, if_true]
   | true =>
    have hDl := w3 rfl
    have hn := hA.1.2.1
    obtain ⟨D, X, d1, d2, d3, d4, d5, d6⟩ := choice_delays (C := C) hb hA hP hB (by omega) hcp hDl (by omega)
    have hXl : X.length = t.Trips.length := by rw [d4.1, d1]
    have hXv : ∀ (p : Nat) y, X[p]? = some y → ∃ x d, t.Trips[p]? = some x ∧ (0 ≤ d ∧ d ≤ 5000000) ∧ y = if x.Id ∈ C then -1 else d := fun p y hy => by
     have hp := get_lt hy
     obtain ⟨x, hx⟩ := get_ex (l := t.Trips) (i := p) (by omega)
     obtain ⟨d, hd⟩ := get_ex (l := D) (i := p) (by omega)
     have := d4.2 p x d hx hd
     rw [hy] at this
     exact ⟨x, d, hx, d2 p d hd, Option.some.inj this⟩
    have hXb : ∀ (p : Nat) y, X[p]? = some y → y ≤ 5000000 := fun p y hy => by
     obtain ⟨x, d, _, h2, h3⟩ := hXv p y hy
     rw [h3]; split <;> omega
    have hXn : ∀ (p : Nat) x y, t.Trips[p]? = some x → X[p]? = some y → (y < 0 ↔ x.Id ∈ C) := fun p x y hx hy => by
     obtain ⟨x', d, h1, h2, h3⟩ := hXv p y hy
     rw [hx] at h1; cases h1
     rw [h3]
     by_cases hm : x.Id ∈ C
     ·simp [hm]
     ·simp only [hm, if_false, iff_false]; omega
    have e1 : zq0 t f B L C = some (X, true) := by unfold zq0; simp only [g1, w1, Option.bind_some, Bool.not_true, Bool.false_eq_true, if_false, d5]
    have e2 : zq37 t f B L C = some (X, true) := by unfold zq37; simp only [w2, Option.bind_some, Bool.not_true, Bool.false_eq_true, if_false, d6]
    have e3 : zq6 t f B C = some (B.map (kept C), true) := by unfold zq6; simp only [g1, Option.bind_some, Bool.not_true, Bool.false_eq_true, if_false, keptI (C := C) (by omega) hB]
    have hB' := kept_bb (C := C) hB
    have e4 : iter (v_FnKept_L1 (B.map (kept C), true)) ((0 : Int), (0 : Int)) = some (((B.map (kept C)).flatten.length : Nat) : Int) := by
     rw [← len_sum]
     refine sum_loop (fun b : List Int => (b.length : Int)) _ (by have := hB'.1; omega) (fun b hb => by have := hB'.2 b hb; omega) (fun i s b hb => ?_) (fun s => by unfold v_FnKept_L1; simp)
     have := get_lt hb
     have hlt : decide ((i : Int) < ((B.map (kept C)).length : Int)) = true := by rw [decide_eq_true_eq]; omega
     simp only [v_FnKept_L1, hlt, if_true, idx_nat, hb, Option.bind_some]
    have e5 : zq7 t f B L C (List.replicate X.length 2) 7 = some (rid X X.length, true) := by
     have hne : (((List.replicate X.length (2 : Int)).length : Int) != (t.Trips.length : Int)) = false := by rw [List.length_replicate, hXl]; simp
     have hpen : zq22 7 = some true := by unfold zq22; rw [within_eq]; rfl
     unfold zq7
     simp only [g1, w1, Option.bind_some, Bool.not_true, Bool.false_eq_true, if_false, hne, hpen, d5, pass_loop hn hXl hXb, flb_go]
    have hct := kept_count hA.1 hP hcp
    have n1 : (((B.map (kept C)).length : Int) != (B.length : Int)) = false := by rw [List.length_map]; simp
    have n2 : ((X.length : Int) != (t.Trips.length : Int)) = false := by rw [hXl]; simp
    have n3 : (w64 ((((B.map (kept C)).flatten.length : Nat) : Int) + (C.length : Int)) == (t.Trips.length : Int)) = true := by
     rw [w64_id (by omega)]; exact beq_iff_eq.2 (by omega)
    simp only [e1, e2, e3, Option.bind_some, beq_self_eq_true, Bool.not_true, Bool.false_eq_true, if_false, vInts_refl X (by omega), n1, n2, e4, kept_loop2 hn (by omega) hXl hXb hXn, flb_go, e5, n3, if_true]
end Go.Proofs.YtaegkodcjpgndaaGreat
