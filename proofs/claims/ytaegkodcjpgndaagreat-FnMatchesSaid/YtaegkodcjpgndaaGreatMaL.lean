/- The plain law: what the models compute, no program in sight. -/
import Derived.Test.YtaegkodcjpgndaaGreatMaM
import Derived.Test.YtaegkodcjpgndaaGreatAbStb
namespace Go.Proofs.YtaegkodcjpgndaaGreat
open Go Go.Ab
set_option maxHeartbeats 4000000
set_option linter.unusedVariables false
set_option linter.unusedSimpArgs false
def Cur (k : Nat) (c : l1Cur) : Prop := 0 ≤ c.at_ ∧ c.at_ ≤ k
theorem Cur.mono {k k' : Nat} {c : l1Cur} (h : Cur k c) (hk : k ≤ k') : Cur k' c := ⟨h.1, by have := h.2; omega⟩
theorem next_ok {k : Nat} {c : l1Cur} (h : Cur k c) (hk : k ≤ 4000000000) : ∃ r, zq48 c = some r ∧ Cur (k + 1) r.2 ∧ 0 ≤ r.1 ∧ r.1 ≤ 255 := by
 obtain ⟨h0, h1⟩ := h
 have hw : w64 (c.at_ + 1) = c.at_ + 1 := w64_id (by omega)
 have hcur : ∀ s, Cur (k + 1) ⟨c.code_, w64 (c.at_ + 1), s⟩ := fun s => by rw [hw]; exact ⟨by show 0 ≤ c.at_ + 1; omega, by show c.at_ + 1 ≤ _; omega⟩
 unfold zq48
 have hv : ∃ v, (if (decide (c.at_ < (c.code_.length : Int))) = true then (idx c.code_ c.at_).bind fun e1 => some (w64 ((e1.toNat : Int))) else some 0) = some v ∧ 0 ≤ v ∧ v ≤ 255 := by
  by_cases hlt : c.at_ < c.code_.length
  ·obtain ⟨x, hx, _, _⟩ := idx_lt h0 hlt
   have := x.toNat_lt
   refine ⟨(x.toNat : Int), ?_, by omega, by omega⟩
   simp only [hlt, decide_true, if_true, hx, Option.bind_some]
   rw [w64_id (by omega)]
  ·exact ⟨0, by simp [hlt], by omega, by omega⟩
 obtain ⟨v, hv, hv0, hv1⟩ := hv
 rw [hv]
 simp only [Option.bind_some]
 split
 ·exact ⟨_, rfl, hcur _, hv0, hv1⟩
 ·rw [chk_of (by omega)]
  exact ⟨_, rfl, hcur _, and255 _⟩
theorem pick_ok {k : Nat} {c : l1Cur} (n : Int) (h : Cur k c) (hk : k ≤ 3000000000) : ∃ r, zq53 c n = some r ∧ Cur (k + 2) r.2 ∧ 0 ≤ r.1 ∧ (r.1 < n ∨ r.1 = 0) := by
 unfold zq53
 by_cases hn : n ≤ 1
 ·exact ⟨(0, c), by simp [hn], h.mono (by omega), by simp, .inr rfl⟩
 ·obtain ⟨r, hr, hc, h0, h1⟩ := next_ok h (by omega)
  have hn' : decide (n ≤ 1) = false := by simpa using hn
  simp only [hn', Bool.false_eq_true, if_false, hr, Option.bind_some]
  have hne : chk (n ≠ 0) = some () := chk_of (by omega)
  by_cases h2 : 200 < n
  ·obtain ⟨r', hr', hc', h0', h1'⟩ := next_ok hc (by omega)
   have e1 : w64 (r.1 * 256) = r.1 * 256 := w64_id (by omega)
   have e2 : w64 (r.1 * 256 + r'.1) = r.1 * 256 + r'.1 := w64_id (by omega)
   have h3 := tmod_rng (a := r.1 * 256 + r'.1) (b := n) (by omega) (by omega)
   simp only [h2, decide_true, if_true, hr', Option.bind_some, hne, e1, e2]
   exact ⟨_, rfl, hc'.mono (by omega), h3.1, .inl h3.2⟩
  ·have h2' : decide (200 < n) = false := by simpa using h2
   have h3 := tmod_rng (a := r.1) (b := n) (by omega) (by omega)
   simp only [h2', Bool.false_eq_true, if_false, Option.bind_some, hne]
   exact ⟨_, rfl, hc.mono (by omega), h3.1, .inl h3.2⟩
theorem amongw_ok {k : Nat} {c : l1Cur} (l : List Int) (hl : l ≠ []) (h : Cur k c) (hk : k ≤ 3000000000) : ∃ r, zq40 c l = some r ∧ Cur (k + 2) r.2 ∧ r.1 ∈ l := by
 unfold zq40
 obtain ⟨r, hr, hc, h0, h1⟩ := pick_ok (l.length : Int) h hk
 have hpos : 0 < l.length := List.length_pos_iff.2 hl
 obtain ⟨x, hx, _, hm⟩ := idx_lt (l := l) h0 (by omega)
 simp only [hr, Option.bind_some, hx]
 exact ⟨_, rfl, hc, hm⟩
theorem among_ok {k : Nat} {c : l1Cur} (l : List Int) (hl : l ≠ []) (h : Cur k c) (hk : k ≤ 3000000000) : ∃ r, zq39 c l = some r ∧ Cur (k + 2) r.2 ∧ r.1 ∈ l := by
 have : zq39 c l = zq40 c l := rfl
 rw [this]; exact amongw_ok l hl h hk
theorem one_ok {k : Nat} {c : l1Cur} (n : Int) (h : Cur k c) (hk : k ≤ 3000000000) : ∃ r, zq52 c n = some r ∧ Cur (k + 2) r.2 := by
 unfold zq52
 obtain ⟨r, hr, hc, _, _⟩ := pick_ok n h hk
 simp only [hr, Option.bind_some]
 exact ⟨_, rfl, hc⟩
theorem of_ok {k : Nat} {c : l1Cur} (l : List ByteArray) (hl : l ≠ []) (h : Cur k c) (hk : k ≤ 3000000000) : ∃ r, zq50 c l = some r ∧ Cur (k + 2) r.2 ∧ r.1 ∈ l := by
 unfold zq50
 obtain ⟨r, hr, hc, h0, h1⟩ := pick_ok (l.length : Int) h hk
 have hpos : 0 < l.length := List.length_pos_iff.2 hl
 obtain ⟨x, hx, _, hm⟩ := idx_lt (l := l) h0 (by omega)
 simp only [hr, Option.bind_some, hx]
 exact ⟨_, rfl, hc, hm⟩
theorem ofw_ok {k : Nat} {c : l1Cur} (l : List ByteArray) (hl : l ≠ []) (h : Cur k c) (hk : k ≤ 3000000000) : ∃ r, zq51 c l = some r ∧ Cur (k + 2) r.2 ∧ r.1 ∈ l := by
 have : zq51 c l = zq50 c l := rfl
 rw [this]; exact of_ok l hl h hk
theorem cur0 (code : List UInt8) : Cur 0 ⟨code, 0, ⟨0⟩⟩ := ⟨by show (0 : Int) ≤ 0; omega, by show (0 : Int) ≤ _; omega⟩
theorem within_eq (n lo hi : Int) : zq32 n lo hi = some (decide (lo ≤ n ∧ n ≤ hi)) := by
 unfold zq32
 by_cases h : lo ≤ n <;> simp [h]
theorem l1In_eq (n lo hi : Int) : zq59 n lo hi = some (decide (lo ≤ n ∧ n ≤ hi)) := by
 unfold zq59
 by_cases h : lo ≤ n <;> simp [h]
def ChOK (i : Nat) (c : UInt8) : Prop := (97 ≤ (c.toNat : Int) ∧ (c.toNat : Int) ≤ 122) ∨ (i ≠ 0 ∧ 48 ≤ (c.toNat : Int) ∧ (c.toNat : Int) ≤ 57)
def NameOK (s : ByteArray) : Prop := (1 ≤ s.size ∧ s.size ≤ 8) ∧ ∀ (i : Nat) c, s.data.toList[i]? = some c → ChOK i c
open Classical in
noncomputable instance (s : ByteArray) : Decidable (NameOK s) := Classical.propDecidable _
theorem size_list (s : ByteArray) : s.data.toList.length = s.size := by simp
theorem getD_of {α : Type} {l : List α} {i : Nat} {x d : α} (h : l[i]? = some x) : l.getD i d = x := by rw [List.getD_eq_getElem?_getD, h]; rfl
theorem isName_eq (s : ByteArray) : zq21 s = some (decide (NameOK s)) := by
 unfold zq21
 by_cases h1 : 1 ≤ s.size ∧ s.size ≤ 8
 ·have e1 : decide ((s.size : Int) < 1) = false := by simp; omega
  have e2 : decide (8 < (s.size : Int)) = false := by simp; omega
  simp only [e1, e2, Bool.false_eq_true, if_false, Option.bind_some]
  have hsz := size_list s
  have key := all_loop s.data.toList ChOK (step := zq21_L1 s) ?_ ?_ 0 0 rfl (by omega)
  ·rcases key with ⟨g1, g2⟩ | ⟨g1, g2⟩
   ·rw [g1, flb_go]
    have : NameOK s := ⟨h1, fun i c hc => g2 i c (by omega) hc⟩
    simp [this]
   ·rw [g1, flb_ret]
    have : ¬ NameOK s := fun hn => g2 fun i c _ hc => hn.2 i c hc
    simp [this]
  ·intro i x hx
   have hi := (List.getElem?_eq_some_iff.1 hx).1
   have hg : s.data.toList.getD (i : Int).toNat 0 = x := by rw [Int.toNat_natCast]; exact getD_of hx
   have hc : chk ((0 : Int) ≤ (i : Int) ∧ (i : Int) < (s.size : Int)) = some () := chk_of (by omega)
   have hlt : decide ((i : Int) < (s.size : Int)) = true := by simp; omega
   unfold zq21_L1
   simp only [hlt, if_true, hc, hg, Option.bind_some, w64_succ (n := i) (by omega)]
   unfold ChOK
   by_cases a1 : (97 : Int) ≤ (x.toNat : Int)
   ·by_cases a2 : (x.toNat : Int) ≤ 122
    ·left; refine ⟨by simp [a1, a2], .inl ⟨a1, a2⟩⟩
    ·right
     refine ⟨?_, by omega⟩
     have b1 : decide ((x.toNat : Int) < 48) = false := by simp; omega
     have b2 : decide ((57 : Int) < (x.toNat : Int)) = true := by simp; omega
     have c1 : ¬ (x.toNat : Int) < 48 := by omega
     have c2 : (57 : Int) < (x.toNat : Int) := by omega
     by_cases hi0 : i = 0
     ·simp [a1, a2, hi0]
     ·have hi0' : ((i : Int) == 0) = false := by simp; omega
      simp [a1, a2, hi0', c1, c2]
   ·by_cases hi0 : i = 0
    ·right
     refine ⟨by simp [a1, hi0], by omega⟩
    ·have hi0' : ((i : Int) == 0) = false := by simp; omega
     by_cases b1 : (x.toNat : Int) < 48
     ·right
      refine ⟨by simp [a1, hi0', b1], by omega⟩
     ·by_cases b2 : (57 : Int) < (x.toNat : Int)
      ·right
       refine ⟨by simp [a1, hi0', b1, b2], by omega⟩
      ·left
       refine ⟨by simp [a1, hi0', b1, b2], .inr ⟨hi0, by omega, by omega⟩⟩
  ·unfold zq21_L1
   rw [hsz]
   simp
 ·have : ¬ NameOK s := fun h => h1 h.1
  have e : (if (decide ((s.size : Int) < 1)) = true then some true else some (decide (8 < (s.size : Int)))) = some true := by
   by_cases h2 : s.size < 1
   ·have : decide ((s.size : Int) < 1) = true := by simp; omega
    simp [this]
   ·have e1 : decide ((s.size : Int) < 1) = false := by simp; omega
    have e2 : decide (8 < (s.size : Int)) = true := by simp; omega
    simp [e1, e2]
  rw [e]
  simp [this]
theorem l2Name_eq (s : ByteArray) : zq79 s = some (decide (NameOK s)) := by
 unfold zq79
 rw [l1In_eq]
 simp only [Option.bind_some]
 by_cases h1 : 1 ≤ s.size ∧ s.size ≤ 8
 ·have e1 : decide ((1 : Int) ≤ (s.size : Int) ∧ (s.size : Int) ≤ 8) = true := by simp; omega
  have hsz := size_list s
  obtain ⟨x0, hx0⟩ := get_ex (l := s.data.toList) (i := 0) (by omega)
  have hg0 : s.data.toList.getD (0 : Int).toNat 0 = x0 := getD_of hx0
  have hc0 : chk ((0 : Int) ≤ 0 ∧ 0 < (s.size : Int)) = some () := chk_of (by omega)
  simp only [e1, Bool.not_true, Bool.false_eq_true, if_false, hc0, hg0, Option.bind_some]
  by_cases a0 : 97 ≤ (x0.toNat : Int) ∧ (x0.toNat : Int) ≤ 122
  ·have b1 : decide ((x0.toNat : Int) < 97) = false := by simp; omega
   have b2 : decide ((122 : Int) < (x0.toNat : Int)) = false := by simp; omega
   simp only [b1, b2, Bool.false_eq_true, if_false, Option.bind_some]
   have key := all_loop s.data.toList ChOK (step := zq79_L1 s) ?_ ?_ 0 0 rfl (by omega)
   ·rcases key with ⟨g1, g2⟩ | ⟨g1, g2⟩
    ·rw [g1, flb_go]
     have : NameOK s := ⟨h1, fun i c hc => g2 i c (by omega) hc⟩
     simp [this]
    ·rw [g1, flb_ret]
     have : ¬ NameOK s := fun hn => g2 fun i c _ hc => hn.2 i c hc
     simp [this]
   ·intro i x hx
    have hi := (List.getElem?_eq_some_iff.1 hx).1
    have hg : s.data.toList.getD (i : Int).toNat 0 = x := by rw [Int.toNat_natCast]; exact getD_of hx
    have hc : chk ((0 : Int) ≤ (i : Int) ∧ (i : Int) < (s.size : Int)) = some () := chk_of (by omega)
    have hlt : decide ((i : Int) < (s.size : Int)) = true := by simp; omega
    have h0 : i = 0 → x = x0 := fun h => by subst h; rw [hx0] at hx; cases hx; rfl
    unfold zq79_L1
    simp only [hlt, if_true, hc, hg, Option.bind_some, w64_succ (n := i) (by omega)]
    unfold ChOK
    by_cases a1 : (x.toNat : Int) < 97
    ·have hi0 : i ≠ 0 := fun h => by have := h0 h; subst this; omega
     by_cases c1 : (x.toNat : Int) < 48
     ·right; refine ⟨by simp [a1, c1], by omega⟩
     ·by_cases c2 : (57 : Int) < (x.toNat : Int)
      ·right; refine ⟨by simp [a1, c1, c2], by omega⟩
      ·left; refine ⟨by simp [a1, c1, c2], .inr ⟨hi0, by omega, by omega⟩⟩
    ·by_cases a2 : (122 : Int) < (x.toNat : Int)
     ·right
      have c1 : ¬ (x.toNat : Int) < 48 := by omega
      have c2 : (57 : Int) < (x.toNat : Int) := by omega
      refine ⟨by simp [a1, a2, c1, c2], by omega⟩
     ·left; refine ⟨by simp [a1, a2], .inl ⟨by omega, by omega⟩⟩
   ·unfold zq79_L1
    rw [hsz]
    simp
  ·have : ¬ NameOK s := fun hn => by
    have := hn.2 0 x0 hx0
    unfold ChOK at this
    omega
   have e : (if (decide ((x0.toNat : Int) < 97)) = true then some true else some (decide ((122 : Int) < (x0.toNat : Int)))) = some true := by
    by_cases h2 : (x0.toNat : Int) < 97
    ·simp [h2]
    ·have : (122 : Int) < (x0.toNat : Int) := by omega
     simp [h2, this]
   rw [e]
   simp [this]
 ·have e1 : decide ((1 : Int) ≤ (s.size : Int) ∧ (s.size : Int) ≤ 8) = false := by simp; omega
  have : ¬ NameOK s := fun h => h1 h.1
  simp [e1, this]
theorem index_str_eq (l : List ByteArray) (hl : l.length ≤ 4000000000) (v : ByteArray) : zq99 l v = some (fixI (fun e => v.toList == e.toList) l) := by
 unfold zq99
 refine find_val l (fun e => v.toList == e.toList) (fun i x hx => ?_) (by unfold zq99_L1; simp)
 have hi := (List.getElem?_eq_some_iff.1 hx).1
 unfold zq99_L1
 have hlt : decide ((i : Int) < (l.length : Int)) = true := by simp; omega
 simp only [hlt, if_true, idx_nat, hx, Option.bind_some, w64_succ (n := i) (by omega)]
 split <;> rfl
theorem index_int_eq (l : List Int) (hl : l.length ≤ 4000000000) (v : Int) : zq98 l v = some (fixI (fun e => v == e) l) := by
 unfold zq98
 refine find_val l (fun e => v == e) (fun i x hx => ?_) (by unfold zq98_L1; simp)
 have hi := (List.getElem?_eq_some_iff.1 hx).1
 unfold zq98_L1
 have hlt : decide ((i : Int) < (l.length : Int)) = true := by simp; omega
 simp only [hlt, if_true, idx_nat, hx, Option.bind_some, w64_succ (n := i) (by omega)]
 split <;> rfl
theorem l2Place_eq (x : Line) (hl : x.Stops.length ≤ 4000000000) (v : Int) : zq82 x v = some (fixI (fun e => v == e) x.Stops) := by
 have hc : fixI (fun e => v == e) x.Stops = fixI (fun e => e == v) x.Stops := fixI_congr _ fun e => BEq.comm
 rw [hc]
 unfold zq82
 refine find_val x.Stops (fun e => e == v) (fun i y hx => ?_) (by unfold zq82_L1; simp)
 have hi := (List.getElem?_eq_some_iff.1 hx).1
 unfold zq82_L1
 have hlt : decide ((i : Int) < (x.Stops.length : Int)) = true := by simp; omega
 simp only [hlt, if_true, idx_nat, hx, Option.bind_some, w64_succ (n := i) (by omega)]
 split <;> rfl
theorem bl_comm (a b : List UInt8) : (a == b) = (b == a) := BEq.comm
theorem l2Find_eq (l : List ByteArray) (hl : l.length ≤ 4000000000) (v : ByteArray) : zq75 l v = some (fixI (fun e => v.toList == e.toList) l) := by
 rw [fixI_congr l (q := fun e => e.toList == v.toList) fun e => bl_comm _ _]
 unfold zq75
 refine find_val l (fun e => e.toList == v.toList) (fun i x hx => ?_) (by unfold zq75_L1; simp)
 have hi := (List.getElem?_eq_some_iff.1 hx).1
 unfold zq75_L1
 have hlt : decide ((i : Int) < (l.length : Int)) = true := by simp; omega
 simp only [hlt, if_true, idx_nat, hx, Option.bind_some, w64_succ (n := i) (by omega)]
 split <;> rfl
theorem l2LineNamed_eq (n : Network) (hl : n.Lines.length ≤ 4000000000) (v : ByteArray) : zq78 n v = some (fixI (fun e => v.toList == e.toList) (n.Lines.map (·.Name))) := by
 rw [fixI_map, fixI_congr n.Lines (q := fun e => e.Name.toList == v.toList) fun e => bl_comm _ _]
 unfold zq78
 refine find_val n.Lines (fun e => e.Name.toList == v.toList) (fun i x hx => ?_) (by unfold zq78_L1; simp)
 have hi := (List.getElem?_eq_some_iff.1 hx).1
 unfold zq78_L1
 have hlt : decide ((i : Int) < (n.Lines.length : Int)) = true := by simp; omega
 simp only [hlt, if_true, idx_nat, hx, Option.bind_some, w64_succ (n := i) (by omega)]
 split <;> rfl
def NamesP (l : List ByteArray) : Prop := ∀ (i : Nat) x, l[i]? = some x → NameOK x ∧ fixI (fun e => x.toList == e.toList) l = (i : Int)
def LineP (st : Nat) (x : Line) : Prop := (2 ≤ x.Stops.length ∧ x.Stops.length ≤ 6) ∧ (x.Runs.length : Int) = (x.Stops.length : Int) - 1 ∧
 (∀ (i : Nat) e, x.Stops[i]? = some e → (0 ≤ e ∧ e < (st : Int)) ∧ fixI (fun y => e == y) x.Stops = (i : Int)) ∧ ∀ (i : Nat) r, x.Runs[i]? = some r → 1 ≤ r ∧ r ≤ 60
def Good (n : Network) : Prop := (2 ≤ n.Stops.length ∧ n.Stops.length ≤ 8) ∧ (1 ≤ n.Lines.length ∧ n.Lines.length ≤ 5) ∧ NamesP n.Stops ∧ NamesP (n.Lines.map (·.Name)) ∧ ∀ (i : Nat) x, n.Lines[i]? = some x → LineP n.Stops.length x
noncomputable instance (l : List ByteArray) : Decidable (NamesP l) := Classical.propDecidable _
noncomputable instance (st : Nat) (x : Line) : Decidable (LineP st x) := Classical.propDecidable _
noncomputable instance (n : Network) : Decidable (Good n) := Classical.propDecidable _
def Bd (n : Network) : Prop := n.Stops.length ≤ 1000 ∧ n.Lines.length ≤ 1000 ∧ ∀ x ∈ n.Lines, x.Stops.length ≤ 1000 ∧ x.Runs.length ≤ 1000
theorem areNames_eq (l : List ByteArray) (hl : l.length ≤ 1000) : zq14 l = some (decide (NamesP l)) := by
 unfold zq14
 rw [all_val (hd := Classical.propDecidable _) l (fun i x => NameOK x ∧ fixI (fun e => x.toList == e.toList) l = (i : Int)) (fun i x hx => ?_) (by unfold zq14_L1; simp)]
 ·by_cases h : NamesP l
  ·rw [if_pos (show ∀ (i : Nat) x, l[i]? = some x → NameOK x ∧ fixI (fun e => x.toList == e.toList) l = (i : Int) from h)]; simp [h]
  ·rw [if_neg (show ¬ ∀ (i : Nat) x, l[i]? = some x → NameOK x ∧ fixI (fun e => x.toList == e.toList) l = (i : Int) from h)]; simp [h]
 ·have hi := (List.getElem?_eq_some_iff.1 hx).1
  unfold zq14_L1
  have hlt : decide ((i : Int) < (l.length : Int)) = true := by simp; omega
  simp only [hlt, if_true, idx_nat, hx, Option.bind_some, isName_eq, index_str_eq l (by omega), w64_succ (n := i) (by omega)]
  by_cases h1 : NameOK x
  ·by_cases h2 : fixI (fun e => x.toList == e.toList) l = (i : Int)
   ·left; simp [h1, h2]
   ·right; simp [h1, h2]
  ·right; simp [h1]
theorem lineNames_eq (n : Network) (hl : n.Lines.length ≤ 1000) : zq26 n = some (n.Lines.map (·.Name)) := by
 unfold zq26
 rw [chk_of (by omega)]
 simp only [Option.bind_some]
 rw [fill_loop (fun x : Line => x.Name) n.Lines _ (by simp) (fun i a x y ha hy hx => ?_) (fun a ha => ?_)]
 ·rfl
 ·have hi := (List.getElem?_eq_some_iff.1 hx).1
  unfold zq26_L1
  have hlt : decide ((i : Int) < (n.Lines.length : Int)) = true := by simp; omega
  simp only [hlt, if_true, idx_nat, hx, hy, Option.bind_some, w64_succ (n := i) (by omega), Int.toNat_natCast]
 ·unfold zq26_L1; simp
theorem isStop_eq (n : Network) (e : Int) : zq23 n e = some (decide (0 ≤ e ∧ e < (n.Stops.length : Int))) := by
 unfold zq23
 by_cases h : 0 ≤ e <;> simp [h]
theorem isLine_eq (n : Network) (e : Int) : zq20 n e = some (decide (0 ≤ e ∧ e < (n.Lines.length : Int))) := by
 unfold zq20
 by_cases h : 0 ≤ e <;> simp [h]
theorem isValidLine_eq (n : Network) (l : Line) (h1 : l.Stops.length ≤ 1000) (h2 : l.Runs.length ≤ 1000) : zq24 n l = some (decide (LineP n.Stops.length l)) := by
 unfold zq24
 rw [within_eq]
 have e0 : w64 ((l.Stops.length : Int) - 1) = (l.Stops.length : Int) - 1 := w64_id (by omega)
 simp only [Option.bind_some, e0]
 by_cases a1 : 2 ≤ l.Stops.length ∧ l.Stops.length ≤ 6
 ·have d1 : decide ((2 : Int) ≤ (l.Stops.length : Int) ∧ (l.Stops.length : Int) ≤ 6) = true := by simp; omega
  simp only [d1, Bool.not_true, Bool.false_eq_true, if_false]
  by_cases a2 : (l.Runs.length : Int) = (l.Stops.length : Int) - 1
  ·have d2 : ((l.Runs.length : Int) != (l.Stops.length : Int) - 1) = false := by simp [a2]
   simp only [d2, Option.bind_some, Bool.false_eq_true, if_false]
   rw [all_val (hd := Classical.propDecidable _) l.Stops (fun i e => (0 ≤ e ∧ e < (n.Stops.length : Int)) ∧ fixI (fun y => e == y) l.Stops = (i : Int)) (fun i x hx => ?_) (by unfold zq24_L1; simp)]
   ·rw [all_val (hd := Classical.propDecidable _) l.Runs (fun i r => 1 ≤ r ∧ r ≤ 60) (fun i x hx => ?_) (by unfold zq24_L2; simp)]
    ·by_cases b1 : ∀ (i : Nat) e, l.Stops[i]? = some e → (0 ≤ e ∧ e < (n.Stops.length : Int)) ∧ fixI (fun y => e == y) l.Stops = (i : Int)
     ·rw [if_pos b1]
      by_cases b2 : ∀ (i : Nat) r, l.Runs[i]? = some r → 1 ≤ r ∧ r ≤ 60
      ·rw [if_pos b2]
       have : LineP n.Stops.length l := ⟨a1, a2, b1, b2⟩
       simp [this]
      ·rw [if_neg b2]
       have : ¬ LineP n.Stops.length l := fun h => b2 h.2.2.2
       simp [this]
     ·rw [if_neg b1]
      have : ¬ LineP n.Stops.length l := fun h => b1 h.2.2.1
      simp [this]
    ·have hi := (List.getElem?_eq_some_iff.1 hx).1
     unfold zq24_L2
     have hlt : decide ((i : Int) < (l.Runs.length : Int)) = true := by simp; omega
     simp only [hlt, if_true, idx_nat, hx, Option.bind_some, within_eq, w64_succ (n := i) (by omega)]
     by_cases b : 1 ≤ x ∧ x ≤ 60
     ·left; simp [b]
     ·right; simp [b]
   ·have hi := (List.getElem?_eq_some_iff.1 hx).1
    unfold zq24_L1
    have hlt : decide ((i : Int) < (l.Stops.length : Int)) = true := by simp; omega
    simp only [hlt, if_true, idx_nat, hx, Option.bind_some, isStop_eq, index_int_eq l.Stops (by omega), w64_succ (n := i) (by omega)]
    by_cases b1 : 0 ≤ x ∧ x < (n.Stops.length : Int)
    ·by_cases b2 : fixI (fun y => x == y) l.Stops = (i : Int)
     ·left; simp [b1, b2]
     ·right; simp [b1, b2]
    ·right; simp [b1]
  ·have d2 : ((l.Runs.length : Int) != (l.Stops.length : Int) - 1) = true := by simp [a2]
   have : ¬ LineP n.Stops.length l := fun h => a2 h.2.1
   simp [d2, this]
 ·have d1 : decide ((2 : Int) ≤ (l.Stops.length : Int) ∧ (l.Stops.length : Int) ≤ 6) = false := by simp; omega
  have : ¬ LineP n.Stops.length l := fun h => a1 h.1
  simp [d1, this]
theorem l2Line_eq (l : Line) (st : Nat) (hst : st ≤ 1000) (h1 : l.Stops.length ≤ 1000) (h2 : l.Runs.length ≤ 1000) : zq77 l (st : Int) = some (decide (NameOK l.Name ∧ LineP st l)) := by
 unfold zq77
 rw [l2Name_eq]
 have e0 : w64 ((l.Stops.length : Int) - 1) = (l.Stops.length : Int) - 1 := w64_id (by omega)
 have e1 : w64 ((st : Int) - 1) = (st : Int) - 1 := w64_id (by omega)
 simp only [Option.bind_some, e0, l1In_eq]
 by_cases a0 : NameOK l.Name
 ·simp only [a0, decide_true, Bool.not_true, Bool.false_eq_true, if_false, true_and]
  by_cases a1 : 2 ≤ l.Stops.length ∧ l.Stops.length ≤ 6
  ·have d1 : decide ((2 : Int) ≤ (l.Stops.length : Int) ∧ (l.Stops.length : Int) ≤ 6) = true := by simp; omega
   simp only [d1, Bool.not_true, Bool.false_eq_true, if_false]
   by_cases a2 : (l.Runs.length : Int) = (l.Stops.length : Int) - 1
   ·have d2 : ((l.Runs.length : Int) != (l.Stops.length : Int) - 1) = false := by simp [a2]
    simp only [d2, Option.bind_some, Bool.false_eq_true, if_false]
    rw [all_val (hd := Classical.propDecidable _) l.Stops (fun i e => (0 ≤ e ∧ e < (st : Int)) ∧ fixI (fun y => e == y) l.Stops = (i : Int)) (fun i x hx => ?_) (by unfold zq77_L1; simp)]
    ·rw [all_val (hd := Classical.propDecidable _) l.Runs (fun i r => 1 ≤ r ∧ r ≤ 60) (fun i x hx => ?_) (by unfold zq77_L2; simp)]
     ·by_cases b1 : ∀ (i : Nat) e, l.Stops[i]? = some e → (0 ≤ e ∧ e < (st : Int)) ∧ fixI (fun y => e == y) l.Stops = (i : Int)
      ·rw [if_pos b1]
       by_cases b2 : ∀ (i : Nat) r, l.Runs[i]? = some r → 1 ≤ r ∧ r ≤ 60
       ·rw [if_pos b2]
        have : LineP st l := ⟨a1, a2, b1, b2⟩
        simp [this]
       ·rw [if_neg b2]
        have : ¬ LineP st l := fun h => b2 h.2.2.2
        simp [this]
      ·rw [if_neg b1]
       have : ¬ LineP st l := fun h => b1 h.2.2.1
       simp [this]
     ·have hi := (List.getElem?_eq_some_iff.1 hx).1
      unfold zq77_L2
      have hlt : decide ((i : Int) < (l.Runs.length : Int)) = true := by simp; omega
      simp only [hlt, if_true, idx_nat, hx, Option.bind_some, l1In_eq, w64_succ (n := i) (by omega)]
      by_cases b : 1 ≤ x ∧ x ≤ 60
      ·left; simp [b]
      ·right; simp [b]
    ·have hi := (List.getElem?_eq_some_iff.1 hx).1
     unfold zq77_L1
     have hlt : decide ((i : Int) < (l.Stops.length : Int)) = true := by simp; omega
     simp only [hlt, if_true, idx_nat, hx, Option.bind_some, l1In_eq, e1, l2Place_eq l (by omega), w64_succ (n := i) (by omega)]
     by_cases b1 : 0 ≤ x ∧ x < (st : Int)
     ·have d3 : decide (0 ≤ x ∧ x ≤ (st : Int) - 1) = true := by simp; omega
      by_cases b2 : fixI (fun y => x == y) l.Stops = (i : Int)
      ·left; simp only [d3]; simp [b1, b2]
      ·right; simp only [d3]; simp [b1, b2]
     ·have d3 : decide (0 ≤ x ∧ x ≤ (st : Int) - 1) = false := by simp; omega
      right; simp only [d3]; simp [b1]
   ·have d2 : ((l.Runs.length : Int) != (l.Stops.length : Int) - 1) = true := by simp [a2]
    have : ¬ LineP st l := fun h => a2 h.2.1
    simp [d2, this]
  ·have d1 : decide ((2 : Int) ≤ (l.Stops.length : Int) ∧ (l.Stops.length : Int) ≤ 6) = false := by simp; omega
   have : ¬ LineP st l := fun h => a1 h.1
   simp [d1, this]
 ·simp [a0]
theorem valid_eq (n : Network) (h : Bd n) : zq3 n = some (decide (Good n)) := by
 obtain ⟨h1, h2, h3⟩ := h
 unfold zq3
 simp only [within_eq, Option.bind_some, areNames_eq n.Stops h1, lineNames_eq n h2, areNames_eq (n.Lines.map (·.Name)) (by simpa using h2)]
 by_cases a1 : 2 ≤ n.Stops.length ∧ n.Stops.length ≤ 8
 ·have d1 : decide ((2 : Int) ≤ (n.Stops.length : Int) ∧ (n.Stops.length : Int) ≤ 8) = true := by simp; omega
  simp only [d1, Bool.not_true, Bool.false_eq_true, if_false]
  by_cases a2 : 1 ≤ n.Lines.length ∧ n.Lines.length ≤ 5
  ·have d2 : decide ((1 : Int) ≤ (n.Lines.length : Int) ∧ (n.Lines.length : Int) ≤ 5) = true := by simp; omega
   simp only [d2, Bool.not_true, Bool.false_eq_true, if_false]
   by_cases a3 : NamesP n.Stops
   ·simp only [a3, decide_true, Bool.not_true, Bool.false_eq_true, if_false]
    by_cases a4 : NamesP (n.Lines.map (·.Name))
    ·simp only [a4, decide_true, Bool.not_true, Option.bind_some, Bool.false_eq_true, if_false]
     rw [all_val (hd := Classical.propDecidable _) n.Lines (fun i x => LineP n.Stops.length x) (fun i x hx => ?_) (by unfold zq3_L1; simp)]
     ·by_cases b1 : ∀ (i : Nat) x, n.Lines[i]? = some x → LineP n.Stops.length x
      ·rw [if_pos b1]
       have : Good n := ⟨a1, a2, a3, a4, b1⟩
       simp [this]
      ·rw [if_neg b1]
       have : ¬ Good n := fun h => b1 h.2.2.2.2
       simp [this]
     ·have hi := (List.getElem?_eq_some_iff.1 hx).1
      obtain ⟨g1, g2⟩ := h3 x (List.mem_of_getElem? hx)
      unfold zq3_L1
      have hlt : decide ((i : Int) < (n.Lines.length : Int)) = true := by simp; omega
      simp only [hlt, if_true, idx_nat, hx, Option.bind_some, isValidLine_eq n x g1 g2, w64_succ (n := i) (by omega)]
      by_cases b : LineP n.Stops.length x
      ·left; simp [b]
      ·right; simp [b]
    ·have : ¬ Good n := fun h => a4 h.2.2.2.1
     simp [a4, this]
   ·have : ¬ Good n := fun h => a3 h.2.2.1
    simp [a3, this]
  ·have d2 : decide ((1 : Int) ≤ (n.Lines.length : Int) ∧ (n.Lines.length : Int) ≤ 5) = false := by simp; omega
   have : ¬ Good n := fun h => a2 h.2.1
   simp [d2, this]
 ·have d1 : decide ((2 : Int) ≤ (n.Stops.length : Int) ∧ (n.Stops.length : Int) ≤ 8) = false := by simp; omega
  have : ¬ Good n := fun h => a1 h.1
  simp [d1, this]
theorem good_eq (n : Network) (h : Bd n) : zq76 n = some (decide (Good n)) := by
 obtain ⟨h1, h2, h3⟩ := h
 unfold zq76
 simp only [l1In_eq, Option.bind_some]
 by_cases a1 : 2 ≤ n.Stops.length ∧ n.Stops.length ≤ 8
 ·have d1 : decide ((2 : Int) ≤ (n.Stops.length : Int) ∧ (n.Stops.length : Int) ≤ 8) = true := by simp; omega
  simp only [d1, Bool.not_true, Bool.false_eq_true, if_false]
  by_cases a2 : 1 ≤ n.Lines.length ∧ n.Lines.length ≤ 5
  ·have d2 : decide ((1 : Int) ≤ (n.Lines.length : Int) ∧ (n.Lines.length : Int) ≤ 5) = true := by simp; omega
   simp only [d2, Bool.not_true, Option.bind_some, Bool.false_eq_true, if_false]
   rw [all_val (hd := Classical.propDecidable _) n.Stops (fun i x => NameOK x ∧ fixI (fun e => x.toList == e.toList) n.Stops = (i : Int)) (fun i x hx => ?_) (by unfold zq76_L1; simp)]
   ·rw [all_val (hd := Classical.propDecidable _) n.Lines (fun i x => (NameOK x.Name ∧ LineP n.Stops.length x) ∧ fixI (fun e => x.Name.toList == e.toList) (n.Lines.map (·.Name)) = (i : Int)) (fun i x hx => ?_) (by unfold zq76_L2; simp)]
    ·by_cases b1 : NamesP n.Stops
     ·rw [if_pos (show ∀ (i : Nat) x, n.Stops[i]? = some x → NameOK x ∧ fixI (fun e => x.toList == e.toList) n.Stops = (i : Int) from b1)]
      by_cases b2 : ∀ (i : Nat) x, n.Lines[i]? = some x → (NameOK x.Name ∧ LineP n.Stops.length x) ∧ fixI (fun e => x.Name.toList == e.toList) (n.Lines.map (·.Name)) = (i : Int)
      ·rw [if_pos b2]
       have : Good n := ⟨a1, a2, b1, fun i y hy => by
        rw [List.getElem?_map] at hy
        obtain ⟨x, hx, rfl⟩ := Option.map_eq_some_iff.1 hy
        exact ⟨(b2 i x hx).1.1, (b2 i x hx).2⟩, fun i x hx => (b2 i x hx).1.2⟩
       simp [this]
      ·rw [if_neg b2]
       have : ¬ Good n := fun h => b2 fun i x hx => by
        have h4 := h.2.2.2.1 i x.Name (by rw [List.getElem?_map, hx]; rfl)
        exact ⟨⟨h4.1, h.2.2.2.2 i x hx⟩, h4.2⟩
       simp [this]
     ·rw [if_neg (show ¬ ∀ (i : Nat) x, n.Stops[i]? = some x → NameOK x ∧ fixI (fun e => x.toList == e.toList) n.Stops = (i : Int) from b1)]
      have : ¬ Good n := fun h => b1 h.2.2.1
      simp [this]
    ·have hi := (List.getElem?_eq_some_iff.1 hx).1
     obtain ⟨g1, g2⟩ := h3 x (List.mem_of_getElem? hx)
     unfold zq76_L2
     have hlt : decide ((i : Int) < (n.Lines.length : Int)) = true := by simp; omega
     simp only [hlt, if_true, idx_nat, hx, Option.bind_some, l2Line_eq x n.Stops.length h1 g1 g2, l2LineNamed_eq n (by omega), w64_succ (n := i) (by omega)]
     by_cases b1 : NameOK x.Name ∧ LineP n.Stops.length x
     ·by_cases b2 : fixI (fun e => x.Name.toList == e.toList) (n.Lines.map (·.Name)) = (i : Int)
      ·left; simp [b1, b2]
      ·right; simp [b1, b2]
     ·right; simp [b1]
   ·have hi := (List.getElem?_eq_some_iff.1 hx).1
    unfold zq76_L1
    have hlt : decide ((i : Int) < (n.Stops.length : Int)) = true := by simp; omega
    simp only [hlt, if_true, idx_nat, hx, Option.bind_some, l2Name_eq, l2Find_eq n.Stops (by omega), w64_succ (n := i) (by omega)]
    by_cases b1 : NameOK x
    ·by_cases b2 : fixI (fun e => x.toList == e.toList) n.Stops = (i : Int)
     ·left; simp [b1, b2]
     ·right; simp [b1, b2]
    ·right; simp [b1]
  ·have d2 : decide ((1 : Int) ≤ (n.Lines.length : Int) ∧ (n.Lines.length : Int) ≤ 5) = false := by simp; omega
   have : ¬ Good n := fun h => a2 h.2.1
   simp [d2, this]
 ·have d1 : decide ((2 : Int) ≤ (n.Stops.length : Int) ∧ (n.Stops.length : Int) ≤ 8) = false := by simp; omega
  have : ¬ Good n := fun h => a1 h.1
  simp [d1, this]
theorem l1Own_eq (l : List Int) (h : l.length ≤ 1000) : zq63 l = some l := by
 unfold zq63
 rw [chk_of (by simp; omega)]; rfl
theorem l2Own_eq (n : Network) (h : Bd n) : zq80 n = some n := by
 obtain ⟨h1, h2, h3⟩ := h
 unfold zq80
 rw [chk_of (by simp; omega)]
 simp only [Option.bind_some]
 rw [app_loop (fun x : Line => x) n.Lines (fun i a x ha hx => ?_) (fun a ha => ?_)]
 ·simp only [Option.bind_some, List.map_id', List.nil_append]
 ·have hi := (List.getElem?_eq_some_iff.1 hx).1
  obtain ⟨g1, g2⟩ := h3 x (List.mem_of_getElem? hx)
  unfold zq80_L1
  have hlt : decide ((i : Int) < (n.Lines.length : Int)) = true := by simp; omega
  have hch : ∀ y : Line, chk (a.length + ([y] : List Line).length ≤ 4294967296) = some () := fun y => chk_of (by simp; omega)
  simp only [hlt, if_true, idx_nat, hx, Option.bind_some, l1Own_eq _ g1, l1Own_eq _ g2, hch, w64_succ (n := i) (by omega)]
 ·unfold zq80_L1; simp
theorem l2Own_t_eq (n : Network) (h : Bd n) : zq81 n = some n := by
 have : zq81 n = zq80 n := rfl
 rw [this]; exact l2Own_eq n h
theorem l2Back_eq (s : List Int) (hs : s.length ≤ 1000) : zq73 s = some s.reverse := by
 unfold zq73
 have e0 : w64 ((s.length : Int) - 1) = (s.length : Int) - 1 := w64_id (by omega)
 rw [e0]
 have h := iter_rule (step := zq73_L1 s) (fun m a => ∃ j : Nat, a.1 = (s.length : Int) - 1 - j ∧ m + j = s.length ∧ a.2 = s.reverse.take j) (fun b => b = s.reverse) ?_ (k := s.length) (a := ((s.length : Int) - 1, [])) ⟨0, by simp, by omega, by simp⟩
 ·obtain ⟨b, hb, rfl⟩ := h
  rw [hb]; rfl
 rintro m ⟨v, i⟩ ⟨j, hv, hm, hi⟩
 simp only at hv hi
 subst hv
 by_cases hlt : j < s.length
 ·left
  have ev : (s.length : Int) - 1 - j = ((s.length - 1 - j : Nat) : Int) := by omega
  rw [ev]
  obtain ⟨e, he⟩ := get_ex (l := s) (i := s.length - 1 - j) (by omega)
  have hd : decide ((0 : Int) ≤ ((s.length - 1 - j : Nat) : Int)) = true := by simp
  have hlen : i.length = j := by rw [hi]; simp; omega
  have hch : chk (i.length + ([e] : List Int).length ≤ 4294967296) = some () := chk_of (by simp; omega)
  have ev2 : w64 (((s.length - 1 - j : Nat) : Int) - 1) = (s.length : Int) - 1 - ((j + 1 : Nat) : Int) := by rw [w64_id (by omega)]; omega
  refine ⟨((s.length : Int) - 1 - ((j + 1 : Nat) : Int), i ++ [e]), m - 1, ?_, by omega, j + 1, rfl, by omega, ?_⟩
  ·unfold zq73_L1
   simp only [hd, if_true, idx_nat, he, hch, Option.bind_some, ev2]
  ·show i ++ [e] = _
   rw [take_succ (x := e) (by rw [List.getElem?_reverse hlt]; exact he), hi]
 ·right
  have ej : j = s.length := by omega
  subst ej
  have hd : decide ((0 : Int) ≤ (s.length : Int) - 1 - (s.length : Int)) = false := by simp; omega
  refine ⟨i, by unfold zq73_L1; simp only [hd, Bool.false_eq_true, if_false], ?_⟩
  rw [hi, List.take_of_length_le (by simp)]
theorem l2BackF_eq (s : List Int) (hs : s.length ≤ 1000) : zq74 s = some s.reverse := l2Back_eq s hs
def LB (x : Line) : Prop := (2 ≤ x.Stops.length ∧ x.Stops.length ≤ 10) ∧ 1 ≤ x.Runs.length ∧ x.Runs.length ≤ 10
def NB (n : Network) : Prop := (2 ≤ n.Stops.length ∧ n.Stops.length ≤ 6) ∧ (1 ≤ n.Lines.length ∧ n.Lines.length ≤ 8) ∧ ∀ x ∈ n.Lines, LB x
theorem NB.bd {n : Network} (h : NB n) : Bd n := ⟨by have := h.1; omega, by have := h.2.1; omega, fun x hx => by have := h.2.2 x hx; unfold LB at this; omega⟩
theorem l1Num_ok (n : Int) (h0 : 0 ≤ n) (h1 : n < 10) : ∃ r, zq61 n = some r ∧ r.size ≤ 10 := by
 have e : zq61 n = zq61_F (zq61_k 4294967295) n := rfl
 rw [e]
 unfold zq61_F
 have d1 : decide (n < 0) = false := by simp; omega
 have d2 : decide (n < 10) = true := by simp; omega
 have e1 : w64 (n + 1) = n + 1 := w64_id (by omega)
 have hs : (str [48, 49, 50, 51, 52, 53, 54, 55, 56, 57]).size = 10 := rfl
 simp only [d1, d2, Bool.false_eq_true, if_false, if_true, e1, hs]
 rw [chk_of (by omega)]
 refine ⟨_, rfl, ?_⟩
 rw [ByteArray.size_extract, hs]
 omega
theorem line_ok {k : Nat} {c : l1Cur} (name : ByteArray) (stops : Int) (hs : 2 ≤ stops ∧ stops ≤ 1000) (h : Cur k c) (hk : k ≤ 1000000000) : ∃ r, zq44 c name stops = some r ∧ Cur (k + 40) r.2 ∧ LB r.1 := by
 unfold zq44
 obtain ⟨r, hr, hc, h0, h1⟩ := pick_ok stops h (by omega)
 obtain ⟨r1, hr1, hc1, h10, h11⟩ := pick_ok 3 hc (by omega)
 simp only [hr, hr1, Option.bind_some]
 have e1 : w64 (2 + r1.1) = ((2 + r1.1.toNat : Nat) : Int) := by rw [w64_id (by omega)]; omega
 rw [e1]
 have loop : ∃ b, iter (zq44_L1 name stops) (r.1, ((2 + r1.1.toNat : Nat) : Int), r1.2.code_, r1.2.at_, r1.2.seed_.v, []) = some b ∧ (Cur (k + 4 + 2 * 4) ⟨b.1, b.2.1, ⟨b.2.2.1⟩⟩ ∧ 1 ≤ b.2.2.2.length ∧ b.2.2.2.length ≤ 4) := by
  refine iter_rule (fun m a => (0 ≤ a.1 ∧ a.1 < stops) ∧ a.2.1 = (m : Int) ∧ m + a.2.2.2.2.2.length ≤ 4 ∧ (1 ≤ m ∨ 1 ≤ a.2.2.2.2.2.length) ∧ Cur (k + 4 + 2 * (4 - m)) ⟨a.2.2.1, a.2.2.2.1, ⟨a.2.2.2.2.1⟩⟩) _ ?_ (k := 2 + r1.1.toNat) ⟨⟨h0, by show r.1 < stops; omega⟩, rfl, by simp; omega, .inl (by omega), hc1.mono (by omega)⟩
  rintro m ⟨v, v1, v2, v3, v4, v5⟩ ⟨hv, hv1, hl, hne, hcur⟩
  simp only at hv hv1 hl hne hcur
  subst hv1
  unfold zq44_L1
  cases m with
  | zero => right; exact ⟨_, by simp; rfl, hcur, by show 1 ≤ v5.length; omega, by show v5.length ≤ 4; omega⟩
  | succ m =>
   left
   have hpos : decide ((0 : Int) < ((m + 1 : Nat) : Int)) = true := by simp
   obtain ⟨r3, hr3, hc3, h30, h31⟩ := pick_ok 2 hcur (by omega)
   have hpl := l2Place_eq (⟨name, v5, []⟩ : Line) (by show v5.length ≤ _; omega) v
   have hch : chk (v5.length + ([v] : List Int).length ≤ 4294967296) = some () := chk_of (by simp; omega)
   have hne0 : chk (stops ≠ 0) = some () := chk_of (by omega)
   have w1 : w64 (v + 1) = v + 1 := w64_id (by omega)
   have w2 : w64 (v + 1 + r3.1) = v + 1 + r3.1 := w64_id (by omega)
   have ht := tmod_rng (a := v + 1 + r3.1) (b := stops) (by omega) (by omega)
   simp only [hpos, if_true, hpl, hch, hr3, hne0, w1, w2, Option.bind_some]
   have w3 : w64 (((m + 1 : Nat) : Int) - 1) = (m : Int) := w64_pred (by omega)
   split
   ·refine ⟨_, m, by simp only [Option.bind_some]; rfl, by omega, ht, w3, ?_, .inr ?_, ?_⟩
    ·simp; omega
    ·simp
    ·exact hc3.mono (by omega)
   ·rename_i hn
    refine ⟨_, m, by simp only [Option.bind_some]; rfl, by omega, ht, w3, ?_, .inr ?_, ?_⟩
    ·show m + v5.length ≤ 4; omega
    ·show 1 ≤ v5.length
     cases v5 with
     | nil => simp [fixI] at hn
     | cons a l => simp
    ·exact hc3.mono (by omega)
 obtain ⟨⟨v7, v8, v9, v10⟩, hb, hcb, hlb⟩ := loop
 simp only at hcb hlb
 rw [hb]
 simp only [Option.bind_some]
 -- at least two stops
 have two : ∃ v11 : List Int, (if decide ((v10.length : Int) < 2) = true then (idx v10 0).bind fun e1 => (chk ((stops : Int) ≠ 0)).bind fun u4 => (chk (v10.length + ([((w64 (e1 + 1)).tmod stops)] : List Int).length ≤ 4294967296)).bind fun u5 => some (v10 ++ ([((w64 (e1 + 1)).tmod stops)] : List Int)) else some v10) = some v11 ∧ 2 ≤ v11.length ∧ v11.length ≤ 5 := by
  by_cases h2 : (v10.length : Int) < 2
  ·obtain ⟨e, he, _⟩ := idx_lt (l := v10) (i := 0) (by omega) (by omega)
   have hch : ∀ y : Int, chk (v10.length + ([y] : List Int).length ≤ 4294967296) = some () := fun y => chk_of (by simp; omega)
   have hne0 : chk (stops ≠ 0) = some () := chk_of (by omega)
   refine ⟨v10 ++ [(w64 (e + 1)).tmod stops], by simp only [h2, decide_true, if_true, he, hne0, hch, Option.bind_some], ?_, ?_⟩
   ·simp; omega
   ·simp; omega
  ·exact ⟨v10, by simp [h2], by omega, by omega⟩
 obtain ⟨v11, hv11, l1, l2⟩ := two
 rw [hv11]
 simp only [Option.bind_some]
 have loop2 : ∃ b, iter (zq44_L2 v11) (1, v7, v8, v9, []) = some b ∧ (Cur (k + 40) ⟨b.1, b.2.1, ⟨b.2.2.1⟩⟩ ∧ b.2.2.2.length + 1 = v11.length) := by
  refine iter_rule (fun m a => ∃ i : Nat, a.1 = (i : Int) ∧ m + i = v11.length ∧ a.2.2.2.2.length + 1 = i ∧ Cur (k + 12 + 2 * i) ⟨a.2.1, a.2.2.1, ⟨a.2.2.2.1⟩⟩) _ ?_ (k := v11.length - 1) ⟨1, rfl, by omega, rfl, hcb.mono (by omega)⟩
  rintro m ⟨v12, v13, v14, v15, v16⟩ ⟨i, hi, hm, hl, hcur⟩
  simp only at hi hl hcur
  subst hi
  unfold zq44_L2
  by_cases hlt : i < v11.length
  ·left
   have hd : decide ((i : Int) < (v11.length : Int)) = true := by simp; omega
   obtain ⟨r5, hr5, hc5, _⟩ := pick_ok 12 hcur (by omega)
   have hch : ∀ y : Int, chk (v16.length + ([y] : List Int).length ≤ 4294967296) = some () := fun y => chk_of (by simp; omega)
   refine ⟨_, m - 1, by simp only [hd, if_true, hr5, hch, Option.bind_some, w64_succ (n := i) (by omega)]; rfl, by omega, i + 1, rfl, by omega, ?_, ?_⟩
   ·simp; omega
   ·exact hc5.mono (by omega)
  ·right
   have hd : decide ((i : Int) < (v11.length : Int)) = false := by simp; omega
   refine ⟨_, by simp only [hd, Bool.false_eq_true, if_false]; rfl, ?_, ?_⟩
   ·exact hcur.mono (by omega)
   ·show v16.length + 1 = _; omega
 obtain ⟨⟨v17, v18, v19, v20⟩, hb2, hcb2, hl2⟩ := loop2
 simp only at hcb2 hl2
 rw [hb2]
 simp only [Option.bind_some]
 exact ⟨_, rfl, hcb2, ⟨l1, by show v11.length ≤ 10; omega⟩, by show 1 ≤ v20.length; omega, by show v20.length ≤ 10; omega⟩
theorem lineF_ok {k : Nat} {c : l1Cur} (name : ByteArray) (stops : Int) (hs : 2 ≤ stops ∧ stops ≤ 1000) (h : Cur k c) (hk : k ≤ 1000000000) : ∃ r, zq45 c name stops = some r ∧ Cur (k + 40) r.2 ∧ LB r.1 := line_ok name stops hs h hk
theorem six_len (i : Nat) (h2 : 2 ≤ i) (h6 : i ≤ 6) (l : List ByteArray) (hl : l.length = 6) : 2 ≤ ((l.take i).drop (0 : Int).toNat).length ∧ ((l.take i).drop (0 : Int).toNat).length ≤ 6 := by
 simp; omega
theorem networkT_ok {k : Nat} {c : l1Cur} (h : Cur k c) (hk : k ≤ 500000000) : ∃ r, zq47 c = some r ∧ Cur (k + 300) r.2 ∧ NB r.1 := by
 unfold zq47
 obtain ⟨r, hr, hc, h0, h1⟩ := pick_ok 5 h (by omega)
 have e1 : w64 (2 + r.1) = 2 + r.1 := w64_id (by omega)
 have hsix : ([(str [112, 111, 114, 116]), (str [109, 105, 108, 108]), (str [112, 97, 114, 107]), (str [104, 97, 108, 108]), (str [100, 111, 99, 107]), (str [102, 97, 105, 114])] : List ByteArray).length = 6 := rfl
 simp only [hr, Option.bind_some, e1, hsix]
 rw [chk_of (by omega)]
 obtain ⟨r1, hr1, hc1, h10, h11⟩ := pick_ok 3 hc (by omega)
 have e2 : w64 (1 + r1.1) = ((1 + r1.1.toNat : Nat) : Int) := by rw [w64_id (by omega)]; omega
 simp only [hr1, Option.bind_some, e2]
 have loop : ∃ b, iter (zq47_L1 r) (((1 + r1.1.toNat : Nat) : Int), r1.2.code_, r1.2.at_, r1.2.seed_.v, []) = some b ∧ (Cur (k + 4 + 40 * 3) ⟨b.1, b.2.1, ⟨b.2.2.1⟩⟩ ∧ (1 ≤ b.2.2.2.length ∧ b.2.2.2.length ≤ 3) ∧ ∀ x ∈ b.2.2.2, LB x) := by
  refine iter_rule (fun m a => a.1 = (m : Int) ∧ m + a.2.2.2.2.length ≤ 3 ∧ 1 ≤ m + a.2.2.2.2.length ∧ (∀ x ∈ a.2.2.2.2, LB x) ∧ Cur (k + 4 + 40 * (3 - m)) ⟨a.2.1, a.2.2.1, ⟨a.2.2.2.1⟩⟩) _ ?_ (k := 1 + r1.1.toNat) ⟨rfl, by simp; omega, by simp, by simp, hc1.mono (by omega)⟩
  rintro m ⟨x, v, v1, v2, v3⟩ ⟨hx, hl, hl1, hlb, hcur⟩
  simp only at hx hl hl1 hlb hcur
  subst hx
  unfold zq47_L1
  cases m with
  | zero => right; exact ⟨_, by simp; rfl, hcur, ⟨by show 1 ≤ v3.length; omega, by show v3.length ≤ 3; omega⟩, hlb⟩
  | succ m =>
   left
   have hpos : decide ((0 : Int) < ((m + 1 : Nat) : Int)) = true := by simp
   obtain ⟨r4, hr4, hs4⟩ := l1Num_ok ((m + 1 : Nat) : Int) (by omega) (by omega)
   have hs : (str [108]).size = 1 := rfl
   have hch : chk ((str [108]).size + r4.size ≤ 4294967296) = some () := chk_of (by omega)
   obtain ⟨r5, hr5, hc5, hb5⟩ := lineF_ok (str [108] ++ r4) (2 + r.1) (by omega) hcur (by omega)
   have hch2 : ∀ y : Line, chk (v3.length + ([y] : List Line).length ≤ 4294967296) = some () := fun y => chk_of (by simp; omega)
   refine ⟨_, m, by simp only [hpos, if_true, hr4, hch, e1, hr5, hch2, Option.bind_some]; rfl, by omega, ?_, ?_, ?_, ?_, ?_⟩
   ·exact w64_pred (by omega)
   ·simp; omega
   ·simp; omega
   ·intro y hy
    rcases List.mem_append.1 hy with hy | hy
    ·exact hlb y hy
    ·simp at hy; subst hy; exact hb5
   ·exact hc5.mono (by omega)
 obtain ⟨⟨v4, v5, v6, v7⟩, hb, hcb, hlb, hall⟩ := loop
 simp only at hcb hlb hall
 rw [hb]
 simp only [Option.bind_some]
 obtain ⟨r6, hr6, hc6⟩ := one_ok 2 hcb (by omega)
 simp only [hr6, Option.bind_some]
 have fin : ∀ (v8 : List UInt8) (v9 v10 : Int) (v11 : List Line), Cur (k + 200) ⟨v8, v9, ⟨v10⟩⟩ → (1 ≤ v11.length ∧ v11.length ≤ 8) → (∀ x ∈ v11, LB x) →
   ∃ r', ((zq81 (⟨((([(str [112, 111, 114, 116]), (str [109, 105, 108, 108]), (str [112, 97, 114, 107]), (str [104, 97, 108, 108]), (str [100, 111, 99, 107]), (str [102, 97, 105, 114])] : List ByteArray).take (2 + r.1).toNat).drop (0 : Int).toNat), v11⟩ : Network)).bind fun r11 => some ((⟨r11.Stops, r11.Lines⟩ : Network), (⟨v8, v9, (⟨v10⟩ : IK .u64)⟩ : l1Cur))) = some r' ∧ Cur (k + 300) r'.2 ∧ NB r'.1 := by
  intro v8 v9 v10 v11 g1 g2 g3
  have hst := six_len (2 + r.1).toNat (by omega) (by omega) _ hsix
  have hnb : NB (⟨((([(str [112, 111, 114, 116]), (str [109, 105, 108, 108]), (str [112, 97, 114, 107]), (str [104, 97, 108, 108]), (str [100, 111, 99, 107]), (str [102, 97, 105, 114])] : List ByteArray).take (2 + r.1).toNat).drop (0 : Int).toNat), v11⟩ : Network) := ⟨hst, g2, g3⟩
  rw [l2Own_t_eq _ hnb.bd]
  exact ⟨_, rfl, g1.mono (by omega), hnb⟩
 split
 ·obtain ⟨e, he, _, hem⟩ := idx_lt (l := v7) (i := 0) (by omega) (by omega)
  obtain ⟨g1, g2⟩ := hall e hem
  have hch2 : ∀ y : Line, chk (v7.length + ([y] : List Line).length ≤ 4294967296) = some () := fun y => chk_of (by simp; omega)
  simp only [he, l2BackF_eq e.Stops (by omega), l2BackF_eq e.Runs (by omega), hch2, Option.bind_some]
  refine fin _ _ _ _ (hc6.mono (by omega)) (by simp; omega) fun y hy => ?_
  rcases List.mem_append.1 hy with hy | hy
  ·exact hall y hy
  ·simp at hy; subst hy
   exact ⟨by simpa using g1, by simpa using g2⟩
 ·simp only [Option.bind_some]
  exact fin _ _ _ _ (hc6.mono (by omega)) (by omega) hall
theorem anyNetwork_ok {k : Nat} {c : l1Cur} (h : Cur k c) (hk : k ≤ 200000000) : ∃ r, zq41 c = some r ∧ Cur (k + 1000) r.2 ∧ Bd r.1 := by
 unfold zq41
 obtain ⟨r, hr, hc, hnb⟩ := networkT_ok h (by omega)
 obtain ⟨n1, n2, n3⟩ := hnb
 obtain ⟨r1, hr1, hc1, h10, h11⟩ := pick_ok (r.1.Lines.length : Int) hc (by omega)
 obtain ⟨e, he, he2, hem⟩ := idx_lt (l := r.1.Lines) (i := r1.1) h10 (by omega)
 obtain ⟨g1, g2⟩ := n3 e hem
 obtain ⟨r2, hr2, hc2, _⟩ := pick_ok 24 hc1 (by omega)
 simp only [hr, hr1, he, hr2, Option.bind_some]
 have fin : ∀ (v : List UInt8) (v1 v2 : Int) (v3 : ByteArray) (v4 : List ByteArray) (v5 : List Line) (v6 : List Int), Cur (k + 900) ⟨v, v1, ⟨v2⟩⟩ → v4.length ≤ 6 → v5.length = r.1.Lines.length → (∀ x ∈ v5, LB x) → v6.length ≤ 11 →
   ∃ r', ((idx v5 r1.1).bind fun e9 => some ((⟨v4, (v5.set r1.1.toNat (⟨v3, e9.Stops, v6⟩ : Line))⟩ : Network), (⟨v, v1, (⟨v2⟩ : IK .u64)⟩ : l1Cur))) = some r' ∧ Cur (k + 1000) r'.2 ∧ Bd r'.1 := by
  intro v v1 v2 v3 v4 v5 v6 q1 q2 q3 q4 q5
  obtain ⟨e9, he9, _, hm9⟩ := idx_lt (l := v5) (i := r1.1) h10 (by omega)
  rw [he9]
  refine ⟨_, rfl, q1.mono (by omega), by show v4.length ≤ _; omega, by simp; omega, fun x hx => ?_⟩
  rcases List.mem_or_eq_of_mem_set hx with hx | hx
  ·have := q4 x hx
   unfold LB at this; omega
  ·subst hx
   have := q4 e9 hm9
   unfold LB at this
   exact ⟨by show e9.Stops.length ≤ _; omega, by show v6.length ≤ _; omega⟩
 split
 ·obtain ⟨r4, hr4, hc4, _⟩ := ofw_ok ([(str [109, 105, 108, 108]), (str []), (str [65]), (str [97, 98, 99, 100, 101, 102, 103, 104]), (str [97, 98, 99, 100, 101, 102, 103, 104, 105])] : List ByteArray) (by simp) hc2 (by omega)
  obtain ⟨e2, he2', _⟩ := idx_lt (l := r.1.Stops) (i := 0) (by omega) (by omega)
  simp only [hr4, he2', Option.bind_some, flb_go]
  exact fin _ _ _ _ _ _ _ (hc4.mono (by omega)) (by simp; omega) rfl n3 (by omega)
 split
 ·obtain ⟨r5, hr5, hc5, _⟩ := ofw_ok ([(str [114, 49]), (str [108, 49]), (str []), (str [88])] : List ByteArray) (by simp) hc2 (by omega)
  simp only [hr5, Option.bind_some, flb_go]
  exact fin _ _ _ _ _ _ _ (hc5.mono (by omega)) (by omega) rfl n3 (by omega)
 split
 ·obtain ⟨r8, hr8, hc8, h80, h81⟩ := pick_ok (e.Stops.length : Int) hc2 (by omega)
  obtain ⟨r9, hr9, hc9, _⟩ := pick_ok 10 hc8 (by omega)
  obtain ⟨e4, he4, _⟩ := idx_lt (l := e.Stops) (i := r8.1) h80 (by omega)
  simp only [hr8, hr9, he4, Option.bind_some, flb_go]
  refine fin _ _ _ _ _ _ _ (hc9.mono (by omega)) (by omega) (by simp) (fun x hx => ?_) (by show e.Runs.length ≤ 11; omega)
  rcases List.mem_or_eq_of_mem_set hx with hx | hx
  ·exact n3 x hx
  ·subst hx; exact ⟨by simpa using g1, g2⟩
 split
 ·obtain ⟨r12, hr12, hc12, h120, h121⟩ := pick_ok (e.Runs.length : Int) hc2 (by omega)
  obtain ⟨r13, hr13, hc13, _⟩ := amongw_ok ([0, 60, 61, (-1)] : List Int) (by simp) hc12 (by omega)
  obtain ⟨e6, he6, _⟩ := idx_lt (l := e.Runs) (i := r12.1) h120 (by omega)
  simp only [hr12, hr13, he6, Option.bind_some, flb_go]
  refine fin _ _ _ _ _ _ _ (hc13.mono (by omega)) (by omega) (by simp) (fun x hx => ?_) (by simp; omega)
  rcases List.mem_or_eq_of_mem_set hx with hx | hx
  ·exact n3 x hx
  ·subst hx; exact ⟨g1, by simpa using g2⟩
 split
 ·have hch : chk (e.Runs.length + ([3] : List Int).length ≤ 4294967296) = some () := chk_of (by simp; omega)
  simp only [hch, Option.bind_some, flb_go]
  exact fin _ _ _ _ _ _ _ (hc2.mono (by omega)) (by omega) rfl n3 (by simp; omega)
 split
 ·simp only [flb_ret]
  exact ⟨_, rfl, hc2.mono (by omega), by show r.1.Stops.length ≤ _; omega, by simp, by simp⟩
 split
 ·have loop : ∃ b, iter (zq41_L1 r) (0, r2.2.code_, r2.2.at_, r2.2.seed_.v, r.1.Lines) = some b ∧ (Cur (k + 900) ⟨b.1, b.2.1, ⟨b.2.2.1⟩⟩ ∧ b.2.2.2.length ≤ 20 ∧ ∀ x ∈ b.2.2.2, LB x) := by
   refine iter_rule (fun m a => ∃ i : Nat, a.1 = (i : Int) ∧ m + i = 8 ∧ i ≤ 7 ∧ a.2.2.2.2.length ≤ 8 + i ∧ (∀ x ∈ a.2.2.2.2, LB x) ∧ Cur (k + 310 + 50 * i) ⟨a.2.1, a.2.2.1, ⟨a.2.2.2.1⟩⟩) _ ?_ (k := 8) ⟨0, rfl, rfl, by omega, by simpa using n2.2, n3, hc2.mono (by omega)⟩
   rintro m ⟨v7, v8, v9, v10, v11⟩ ⟨i, hi, hm, hi7, hl, hlb, hcur⟩
   simp only at hi hl hlb hcur
   subst hi
   unfold zq41_L1
   obtain ⟨r16, hr16, hc16, h160, h161⟩ := pick_ok 2 hcur (by omega)
   have w1 : w64 (5 + r16.1) = 5 + r16.1 := w64_id (by omega)
   simp only [hr16, w1, Option.bind_some]
   by_cases a1 : (v11.length : Int) < 5 + r16.1 ∧ (i : Int) < 7
   ·left
    have d1 : decide ((v11.length : Int) < 5 + r16.1) = true := by simp; omega
    have d2 : decide ((i : Int) < 7) = true := by simp; omega
    obtain ⟨r19, hr19, hs19⟩ := l1Num_ok (i : Int) (by omega) (by omega)
    have hs : (str [120]).size = 1 := rfl
    have hch : chk ((str [120]).size + r19.size ≤ 4294967296) = some () := chk_of (by omega)
    obtain ⟨r20, hr20, hc20, hb20⟩ := line_ok (str [120] ++ r19) (r.1.Stops.length : Int) (by omega) hc16 (by omega)
    have hch2 : ∀ y : Line, chk (v11.length + ([y] : List Line).length ≤ 4294967296) = some () := fun y => chk_of (by simp; omega)
    refine ⟨_, m - 1, by simp only [d1, d2, if_true, hr19, hch, hr20, hch2, Option.bind_some, w64_succ (n := i) (by omega)]; rfl, by omega, i + 1, rfl, by omega, by omega, ?_, fun x hx => ?_, ?_⟩
    ·simp; omega
    ·rcases List.mem_append.1 hx with hx | hx
     ·exact hlb x hx
     ·simp at hx; subst hx; exact hb20
    ·exact hc20.mono (by omega)
   ·right
    have hcond : (if decide ((v11.length : Int) < 5 + r16.1) = true then some (decide ((i : Int) < 7)) else some false) = some false := by
     by_cases b1 : (v11.length : Int) < 5 + r16.1
     ·have : decide ((i : Int) < 7) = false := by simp; omega
      simp [b1, this]
     ·simp [b1]
    refine ⟨_, by simp only [hcond, Option.bind_some, Bool.false_eq_true, if_false]; rfl, ?_, ?_, hlb⟩
    ·exact hc16.mono (by omega)
    ·show v11.length ≤ 20; omega
  obtain ⟨⟨v13, v14, v15, v16⟩, hb, hcb, hlb, hall⟩ := loop
  simp only at hcb hlb hall
  rw [hb]
  simp only [Option.bind_some, flb_ret]
  refine ⟨_, rfl, hcb.mono (by omega), by show r.1.Stops.length ≤ _; omega, by show v16.length ≤ _; omega, fun x hx => ?_⟩
  have := hall x hx
  unfold LB at this; omega
 ·simp only [flb_go]
  exact fin _ _ _ _ _ _ _ (hc2.mono (by omega)) (by omega) rfl n3 (by omega)
def TB (t : Timetable) : Prop := Bd t.Network ∧ t.Trips.length ≤ 1000
def TripP (n : Network) (x : Trip) : Prop := (1 ≤ x.Id ∧ x.Id ≤ 999) ∧ ∃ l, idx n.Lines x.Line = some l ∧ (0 ≤ x.Start ∧ x.Start ≤ 1799) ∧ 0 ≤ x.Start + l.Runs.sum ∧ x.Start + l.Runs.sum ≤ 1799
def GoodT (t : Timetable) : Prop := Good t.Network ∧ t.Trips.length ≤ 12 ∧ (∀ (i : Nat) x, t.Trips[i]? = some x → TripP t.Network x) ∧ ∀ (i : Nat) a b, t.Trips[i]? = some a → t.Trips[i + 1]? = some b → a.Id < b.Id
noncomputable instance (t : Timetable) : Decidable (GoodT t) := Classical.propDecidable _
noncomputable instance (n : Network) (x : Trip) : Decidable (TripP n x) := Classical.propDecidable _
theorem time_eq (t : Int) : zq5 t = some (decide (0 ≤ t ∧ t ≤ 1799)) := by
 unfold zq5; rw [within_eq]; rfl
theorem l4Time_eq (t : Int) : zq84 t = some (decide (0 ≤ t ∧ t ≤ 1799)) := by
 unfold zq84; rw [l1In_eq]; rfl
theorem total_eq (l : List Int) (h1 : l.length ≤ 1000000) (h2 : ∀ x ∈ l, 0 ≤ x ∧ x ≤ 1000000) : zq31 l = some l.sum := by
 unfold zq31
 rw [sum_loop (fun x : Int => x) l h1 h2 (fun i s x hx => ?_) (fun s => ?_)]
 ·simp
 ·have := get_lt hx
  unfold zq31_L1
  simp (disch := omega) only [if_pos, if_neg, decide_eq_true_eq, decide_true, decide_false, Bool.not_true, Bool.not_false, Bool.false_eq_true, Bool.not_eq_true', decide_eq_false_iff_not, if_true, if_false, w64_id, chk_of, idx_nat, Option.bind_some, Option.map_some, Int.toNat_natCast, not_true_eq_false, not_false_eq_true, true_and, and_true, and_self, false_and, and_false, reduceIte, flb_go, flb_ret, beq_self_eq_true, ne_eq, bne_self_eq_false, Int.ofNat_lt.2 this, hx]
 ·unfold zq31_L1; simp
theorem l2Run_eq (x : Line) (a b : Nat) (hab : a ≤ b) (hb : b ≤ x.Runs.length) (hl : x.Runs.length ≤ 1000) (h2 : ∀ r ∈ x.Runs, 0 ≤ r ∧ r ≤ 1000000) : zq83 x (a : Int) (b : Int) = some (((x.Runs.take b).drop a).sum) := by
 unfold zq83
 refine Tot.val (.call (P := fun v => v = ((x.Runs.take b).drop a).sum) ?_ fun v h => .ok h)
 refine .iter (fun m s => ∃ k : Nat, s.2 = ((a + k : Nat) : Int) ∧ m + k = b - a ∧ s.1 = (((x.Runs.take b).drop a).take k).sum) (n := b - a) ⟨0, by simp, by omega, by simp⟩ ?_
 rintro m ⟨s, v⟩ ⟨k, hk, hm, hs⟩
 simp only at hk hs
 subst hk
 unfold zq83_L1
 refine .iteP (fun hc => ?_) (fun hc => .dn ?_)
 ·obtain ⟨r, hr⟩ := get_ex (l := x.Runs) (i := a + k) (by omega)
  have hr2 : ((x.Runs.take b).drop a)[k]? = some r := by
   rw [List.getElem?_drop, List.getElem?_take_of_lt (by omega)]; exact hr
  have hb1 := h2 r (List.mem_of_getElem? hr)
  have hb2 := sum_bd (l := ((x.Runs.take b).drop a).take k) (M := 1000000) fun y hy => h2 y (List.mem_of_mem_take (List.mem_of_mem_drop (List.mem_of_mem_take hy)))
  have hlen : ((((x.Runs.take b).drop a).take k).length : Int) ≤ 1000 := by simp; omega
  rw [← hs] at hb2
  refine .eq (by rw [idx_nat]; exact hr) (.nx ⟨m - 1, by omega, k + 1, ?_, by omega, ?_⟩)
  ·show w64 (((a + k : Nat) : Int) + 1) = _
   rw [w64_id (by omega)]; omega
  ·show w64 (s + r) = _
   rw [w64_id (by omega), sum_take_succ hr2, hs]
 ·rw [hs, List.take_of_length_le (by rw [List.length_drop, List.length_take]; omega)]
theorem good_line {n : Network} (h : Good n) {k : Int} {l : Line} (hl : idx n.Lines k = some l) : LineP n.Stops.length l := h.2.2.2.2 _ l (idx_some hl).2.2
theorem line_runs {st : Nat} {l : Line} (h : LineP st l) : (l.Runs.length + 1 = l.Stops.length ∧ 1 ≤ l.Runs.length ∧ l.Runs.length ≤ 5) ∧ ∀ r ∈ l.Runs, 1 ≤ r ∧ r ≤ 60 := by
 obtain ⟨h1, h2, h3, h4⟩ := h
 refine ⟨by omega, fun r hr => ?_⟩
 obtain ⟨i, hi⟩ := List.getElem?_of_mem hr
 exact h4 i r hi
theorem runs_sum {st : Nat} {l : Line} (h : LineP st l) (k : Nat) : 0 ≤ (l.Runs.take k).sum ∧ (l.Runs.take k).sum ≤ 300 := by
 obtain ⟨⟨h1, h2, h3⟩, h4⟩ := line_runs h
 have := sum_bd (l := l.Runs.take k) (M := 60) fun x hx => by have := h4 x (List.mem_of_mem_take hx); omega
 have hl : ((l.Runs.take k).length : Int) ≤ 5 := by simp; omega
 omega
theorem runs_sum' {st : Nat} {l : Line} (h : LineP st l) : 0 ≤ l.Runs.sum ∧ l.Runs.sum ≤ 300 := by
 have := runs_sum h l.Runs.length
 rwa [List.take_length] at this
theorem endOf_eq {t : Timetable} (hg : Good t.Network) {x : Trip} {l : Line} (hl : idx t.Network.Lines x.Line = some l) (hs : 0 ≤ x.Start ∧ x.Start ≤ 1799) : zq17 t x = some (x.Start + l.Runs.sum) := by
 have h := good_line hg hl
 obtain ⟨⟨h1, h2, h3⟩, h4⟩ := line_runs h
 have h5 := runs_sum' h
 unfold zq17
 rw [hl]
 simp only [Option.bind_some]
 rw [total_eq l.Runs (by omega) (fun x hx => by have := h4 x hx; omega)]
 simp (disch := omega) only [if_pos, if_neg, decide_eq_true_eq, decide_true, decide_false, Bool.not_true, Bool.not_false, Bool.false_eq_true, Bool.not_eq_true', decide_eq_false_iff_not, if_true, if_false, w64_id, chk_of, idx_nat, Option.bind_some, Option.map_some, Int.toNat_natCast, not_true_eq_false, not_false_eq_true, true_and, and_true, and_self, false_and, and_false, reduceIte, flb_go, flb_ret, beq_self_eq_true, ne_eq, bne_self_eq_false]
theorem l5Line_eq {t : Timetable} {i : Nat} {x : Trip} {l : Line} (hx : t.Trips[i]? = some x) (hl : idx t.Network.Lines x.Line = some l) : zq88 t (i : Int) = some l := by
 unfold zq88
 simp (disch := omega) only [if_pos, if_neg, decide_eq_true_eq, decide_true, decide_false, Bool.not_true, Bool.not_false, Bool.false_eq_true, Bool.not_eq_true', decide_eq_false_iff_not, if_true, if_false, w64_id, chk_of, idx_nat, Option.bind_some, Option.map_some, Int.toNat_natCast, not_true_eq_false, not_false_eq_true, true_and, and_true, and_self, false_and, and_false, reduceIte, flb_go, flb_ret, beq_self_eq_true, ne_eq, bne_self_eq_false, hx, hl]
theorem l5Stops_eq {t : Timetable} {i : Nat} {x : Trip} {l : Line} (hx : t.Trips[i]? = some x) (hl : idx t.Network.Lines x.Line = some l) : zq89 t (i : Int) = some l.Stops := by
 unfold zq89
 rw [l5Line_eq hx hl]; rfl
theorem l5At_eq {t : Timetable} (hg : Good t.Network) {i : Nat} {x : Trip} {l : Line} (hx : t.Trips[i]? = some x) (hl : idx t.Network.Lines x.Line = some l) (hs : 0 ≤ x.Start ∧ x.Start ≤ 1799) {k : Nat} (hk : k ≤ l.Runs.length) : zq85 t (i : Int) (k : Int) = some (x.Start + (l.Runs.take k).sum) := by
 have h := good_line hg hl
 obtain ⟨⟨h1, h2, h3⟩, h4⟩ := line_runs h
 have h5 := runs_sum h k
 have e := l2Run_eq l 0 k (by omega) hk (by omega) (fun x hx => by have := h4 x hx; omega)
 rw [List.drop_zero] at e
 have e' : zq83 l 0 (k : Int) = some (l.Runs.take k).sum := e
 unfold zq85
 simp (disch := omega) only [if_pos, if_neg, decide_eq_true_eq, decide_true, decide_false, Bool.not_true, Bool.not_false, Bool.false_eq_true, Bool.not_eq_true', decide_eq_false_iff_not, if_true, if_false, w64_id, chk_of, idx_nat, Option.bind_some, Option.map_some, Int.toNat_natCast, not_true_eq_false, not_false_eq_true, true_and, and_true, and_self, false_and, and_false, reduceIte, flb_go, flb_ret, beq_self_eq_true, ne_eq, bne_self_eq_false, hx, l5Line_eq hx hl, e']
theorem l5End_eq {t : Timetable} (hg : Good t.Network) {i : Nat} {x : Trip} {l : Line} (hx : t.Trips[i]? = some x) (hl : idx t.Network.Lines x.Line = some l) (hs : 0 ≤ x.Start ∧ x.Start ≤ 1799) : zq86 t (i : Int) = some (x.Start + l.Runs.sum) := by
 have h := good_line hg hl
 obtain ⟨⟨h1, h2, h3⟩, h4⟩ := line_runs h
 have e : w64 ((l.Stops.length : Int) - 1) = (l.Runs.length : Int) := by rw [w64_id (by omega)]; omega
 unfold zq86
 rw [l5Stops_eq hx hl]
 simp only [Option.bind_some, e, l5At_eq hg hx hl hs (Nat.le_refl _), List.take_length]
def TripsP (t : Timetable) : Prop := (∀ (i : Nat) x, t.Trips[i]? = some x → TripP t.Network x) ∧ ∀ (i : Nat) a b, t.Trips[i]? = some a → t.Trips[i + 1]? = some b → a.Id < b.Id
noncomputable instance (t : Timetable) : Decidable (TripsP t) := Classical.propDecidable _
theorem trip_i {t : Timetable} (hb : TB t) (hg : Good t.Network) (x : Trip) (last : Int) (hlast : 0 ≤ last) : ((if (decide (x.Id ≤ last)) = true then some true else if (decide (999 < x.Id)) = true then some true else (zq20 t.Network x.Line).bind fun r =>
   if (!r) = true then some true else (zq5 x.Start).bind fun r1 =>
   if (!r1) = true then some true else (zq17 t x).bind fun r2 =>
   (zq5 r2).bind fun r3 =>
   some (!r3))) = some (!decide (last < x.Id ∧ TripP t.Network x)) := by
 by_cases c1 : x.Id ≤ last
 ·have : ¬ (last < x.Id ∧ TripP t.Network x) := fun h => by omega
  simp [c1, this]
 ·by_cases c2 : 999 < x.Id
  ·have : ¬ (last < x.Id ∧ TripP t.Network x) := fun h => by have := h.2.1; omega
   simp [c1, c2, this]
  ·simp only [isLine_eq, time_eq, Option.bind_some, c1, c2, decide_false, Bool.false_eq_true, if_false]
   by_cases c3 : 0 ≤ x.Line ∧ x.Line < (t.Network.Lines.length : Int)
   ·obtain ⟨l, hl, _⟩ := idx_lt (l := t.Network.Lines) c3.1 c3.2
    by_cases c4 : 0 ≤ x.Start ∧ x.Start ≤ 1799
    ·have hT : (last < x.Id ∧ TripP t.Network x) ↔ (0 ≤ x.Start + l.Runs.sum ∧ x.Start + l.Runs.sum ≤ 1799) := by
      constructor
      ·rintro ⟨_, _, l', hl', _, h⟩
       rw [hl] at hl'; cases hl'; exact h
      ·intro h; exact ⟨by omega, ⟨by omega, by omega⟩, l, hl, c4, h⟩
     simp only [c3, c4, and_self, decide_true, Bool.not_true, Bool.false_eq_true, if_false, endOf_eq hg hl c4, time_eq, Option.bind_some, hT]
    ·have : ¬ (last < x.Id ∧ TripP t.Network x) := fun h => by
      obtain ⟨_, _, l', _, h4, _⟩ := h
      exact c4 h4
     simp only [c3, c4, this, and_self, decide_true, decide_false, Bool.not_true, Bool.not_false, Bool.false_eq_true, if_false, if_true]
   ·have : ¬ (last < x.Id ∧ TripP t.Network x) := fun h => by
     obtain ⟨_, _, l', hl', _⟩ := h
     have := idx_some hl'
     exact c3 ⟨this.1, this.2.1⟩
    simp only [c3, this, decide_false, Bool.not_false, if_true]
theorem areTrips_eq {t : Timetable} (hb : TB t) (hg : Good t.Network) : zq16 t = some (decide (t.Trips.length ≤ 12 ∧ TripsP t)) := by
 unfold zq16
 by_cases h12 : t.Trips.length ≤ 12
 ·have d : decide ((12 : Int) < (t.Trips.length : Int)) = false := by simp; omega
  have e : decide (t.Trips.length ≤ 12 ∧ TripsP t) = decide (TripsP t) := by simp [h12]
  rw [d, e]
  simp only [Bool.false_eq_true, if_false]
  refine flb_dec (.iter (fun m a => ∃ i : Nat, a.2 = (i : Int) ∧ m + i = t.Trips.length ∧ 0 ≤ a.1 ∧ (∀ y, 0 < i → t.Trips[i - 1]? = some y → a.1 = y.Id) ∧ (i = 0 → a.1 = 0) ∧ (∀ (j : Nat) x, j < i → t.Trips[j]? = some x → TripP t.Network x) ∧ ∀ (j : Nat) a b, j + 1 < i → t.Trips[j]? = some a → t.Trips[j + 1]? = some b → a.Id < b.Id)
   (n := t.Trips.length) ⟨0, rfl, rfl, by simp, by simp, by simp, fun j x h => by omega, fun j a b h => by omega⟩ ?_)
  rintro m ⟨last, v⟩ ⟨i, hv, hm, h0, h1, h2, h3, h4⟩
  simp only at hv h0 h1 h2
  subst hv
  unfold zq16_L1
  refine .iteP (fun hc => ?_) (fun hc => .dn (.inl ⟨rfl, fun j x hx => h3 j x (by have := get_lt hx; omega) hx, fun j a b ha hb' => h4 j a b (by have := get_lt hb'; omega) ha hb'⟩))
  obtain ⟨x, hx⟩ := get_ex (l := t.Trips) (i := i) (by omega)
  refine .eq (by rw [idx_nat]; exact hx) (.eq (trip_i hb hg x last h0) (.iteN (fun hn => .dn (.inr ⟨rfl, fun hp => hn ⟨?_, hp.1 i x hx⟩⟩)) (fun hp => .nx ⟨m - 1, by omega, i + 1, w64_succ (by omega), by omega, ?_, ?_, by simp, ?_, ?_⟩)))
  ·by_cases hi : i = 0
   ·rw [h2 hi]; have := (hp.1 i x hx).1; omega
   ·obtain ⟨y, hy⟩ := get_ex (l := t.Trips) (i := i - 1) (by omega)
    rw [h1 y (by omega) hy]
    exact hp.2 (i - 1) y x hy (by rw [show i - 1 + 1 = i by omega]; exact hx)
  ·show 0 ≤ x.Id
   have := hp.2.1; omega
  ·intro y _ hy
   rw [show i + 1 - 1 = i by omega, hx] at hy; cases hy; rfl
  ·intro j y hj hy
   by_cases hji : j = i
   ·subst hji; rw [hx] at hy; cases hy; exact hp.2
   ·exact h3 j y (by omega) hy
  ·intro j a b hj ha hb'
   by_cases hji : j + 1 = i
   ·subst hji; rw [hx] at hb'; cases hb'
    have := h1 a (by omega) (by simpa using ha)
    omega
   ·exact h4 j a b (by omega) ha hb'
 ·have d : decide ((12 : Int) < (t.Trips.length : Int)) = true := by simp; omega
  simp [d, h12]
def TripQ (t : Timetable) (i : Nat) (x : Trip) : Prop := TripP t.Network x ∧ ∀ y, 0 < i → t.Trips[i - 1]? = some y → y.Id < x.Id
noncomputable instance (t : Timetable) (i : Nat) (x : Trip) : Decidable (TripQ t i x) := Classical.propDecidable _
theorem goodT_iff (t : Timetable) : GoodT t ↔ Good t.Network ∧ t.Trips.length ≤ 12 ∧ TripsP t := Iff.rfl
theorem validT_eq {t : Timetable} (hb : TB t) : zq6 t = some (decide (GoodT t)) := by
 unfold zq6
 rw [valid_eq _ hb.1]
 by_cases hg : Good t.Network
 ·simp only [hg, decide_true, if_true, Option.bind_some, areTrips_eq hb hg, goodT_iff, true_and]
 ·have : ¬ GoodT t := fun h => hg h.1
  simp [hg, this]
theorem goodT_eq {t : Timetable} (hb : TB t) : zq87 t = some (decide (GoodT t)) := by
 unfold zq87
 rw [good_eq _ hb.1]
 by_cases hg : Good t.Network
 ·by_cases h12 : t.Trips.length ≤ 12
  ·have d : decide ((12 : Int) < (t.Trips.length : Int)) = false := by simp; omega
   have e : decide (GoodT t) = decide (TripsP t) := by rw [decide_eq_decide, goodT_iff]; simp [hg, h12]
   simp only [hg, decide_true, Bool.not_true, Bool.false_eq_true, if_false, Option.bind_some, d, e]
   refine flb_dec (.iter (fun m a => ∃ i : Nat, a = (i : Int) ∧ m + i = t.Trips.length ∧ (∀ (j : Nat) x, j < i → t.Trips[j]? = some x → TripP t.Network x) ∧ ∀ (j : Nat) a b, j + 1 < i → t.Trips[j]? = some a → t.Trips[j + 1]? = some b → a.Id < b.Id)
    (n := t.Trips.length) ⟨0, rfl, rfl, fun j x h => by omega, fun j a b h => by omega⟩ ?_)
   rintro m v ⟨i, hv, hm, h3, h4⟩
   subst hv
   unfold zq87_L1
   refine .iteP (fun hc => ?_) (fun hc => .dn (.inl ⟨rfl, fun j x hx => h3 j x (by have := get_lt hx; omega) hx, fun j a b ha hb' => h4 j a b (by have := get_lt hb'; omega) ha hb'⟩))
   obtain ⟨x, hx⟩ := get_ex (l := t.Trips) (i := i) (by omega)
   refine .eq (by rw [idx_nat]; exact hx) ?_
   have hll := hg.2.1
   have ew : w64 ((t.Network.Lines.length : Int) - 1) = (t.Network.Lines.length : Int) - 1 := w64_id (by omega)
   have key : ((zq59 x.Id 1 999).bind fun r6 =>
   (if (!r6) = true then some true else (zq59 x.Line 0 (w64 ((t.Network.Lines.length : Int) - 1))).bind fun r7 =>
   if (!r7) = true then some true else (zq84 x.Start).bind fun r8 =>
   if (!r8) = true then some true else (zq86 t (i : Int)).bind fun r9 =>
   (zq84 r9).bind fun r10 =>
   if (!r10) = true then some true else if (decide (0 < (i : Int))) = true then (idx t.Trips (w64 ((i : Int) - 1))).bind fun e2 =>
   some (decide (x.Id ≤ e2.Id)) else some false)) = some (!decide (TripQ t i x)) := by
    have no : ¬ TripP t.Network x → (!decide (TripQ t i x)) = true := fun h => (by simp [show ¬ TripQ t i x from fun q => h q.1])
    simp only [l1In_eq, l4Time_eq, ew, Option.bind_some]
    by_cases c1 : 1 ≤ x.Id ∧ x.Id ≤ 999
    ·by_cases c3 : 0 ≤ x.Line ∧ x.Line ≤ (t.Network.Lines.length : Int) - 1
     ·obtain ⟨l, hl, _⟩ := idx_lt (l := t.Network.Lines) c3.1 (by omega)
      by_cases c4 : 0 ≤ x.Start ∧ x.Start ≤ 1799
      ·simp only [c1, c3, c4, and_self, decide_true, Bool.not_true, Bool.false_eq_true, if_false, l5End_eq hg hx hl c4, l4Time_eq, Option.bind_some]
       by_cases c5 : 0 ≤ x.Start + l.Runs.sum ∧ x.Start + l.Runs.sum ≤ 1799
       ·have hT : TripP t.Network x := ⟨c1, l, hl, c4, c5⟩
        simp only [c5, and_self, decide_true, Bool.not_true, Bool.false_eq_true, if_false, ]
        by_cases c6 : 0 < i
        ·obtain ⟨y, hy⟩ := get_ex (l := t.Trips) (i := i - 1) (by omega)
         have e1 : w64 ((i : Int) - 1) = ((i - 1 : Nat) : Int) := by rw [w64_id (by omega)]; omega
         have c6' : (0 : Int) < (i : Int) := by omega
         simp only [c6', decide_true, if_true, e1, idx_nat, hy, Option.bind_some, Option.some.injEq]
         by_cases c7 : x.Id ≤ y.Id
         ·have : ¬ TripQ t i x := fun h => by have := h.2 y c6 hy; omega
          simp only [c7, decide_true, this, decide_false, Bool.not_false]
         ·have : TripQ t i x := ⟨hT, fun z _ hz => by rw [hy] at hz; cases hz; omega⟩
          simp only [c7, decide_false, this, decide_true, Bool.not_true]
        ·have c6' : ¬ (0 : Int) < (i : Int) := by omega
         have : TripQ t i x := ⟨hT, fun z h0 _ => absurd h0 c6⟩
         simp only [c6', decide_false, Bool.false_eq_true, if_false, this, decide_true, Bool.not_true]
       ·rw [no (fun hT => by
         obtain ⟨_, l', hl', _, h⟩ := hT
         rw [hl] at hl'; cases hl'; exact c5 h)]
        simp only [c5, decide_false, Bool.not_false, if_true]
      ·rw [no (fun hT => by obtain ⟨_, l', _, h, _⟩ := hT; exact c4 h)]
       simp only [c1, c3, c4, and_self, decide_true, decide_false, Bool.not_true, Bool.not_false, Bool.false_eq_true, if_false, if_true]
     ·rw [no (fun hT => by
       obtain ⟨_, l', hl', _⟩ := hT
       have := idx_some hl'
       exact c3 ⟨this.1, by omega⟩)]
      simp only [c1, c3, and_self, decide_true, decide_false, Bool.not_true, Bool.not_false, Bool.false_eq_true, if_false, if_true]
    ·rw [no (fun hT => c1 hT.1)]
     simp only [c1, decide_false, Bool.not_false, if_true]
   rw [bind_assoc', key]
   refine .iteN (fun hn => .dn (.inr ⟨rfl, fun hp => hn ⟨hp.1 i x hx, fun y hi hy => hp.2 (i - 1) y x hy (by rw [show i - 1 + 1 = i by omega]; exact hx)⟩⟩)) (fun hp => .nx ⟨m - 1, by omega, i + 1, w64_succ (by omega), by omega, ?_, ?_⟩)
   ·intro j y hj hy
    by_cases hji : j = i
    ·subst hji; rw [hx] at hy; cases hy; exact hp.1
    ·exact h3 j y (by omega) hy
   ·intro j a b hj ha hb'
    by_cases hji : j + 1 = i
    ·subst hji; rw [hx] at hb'; cases hb'
     exact hp.2 a (by omega) (by simpa using ha)
    ·exact h4 j a b (by omega) ha hb'
  ·have d : decide ((12 : Int) < (t.Trips.length : Int)) = true := by simp; omega
   have : ¬ GoodT t := fun h => h12 h.2.1
   simp [hg, d, this]
 ·have : ¬ GoodT t := fun h => hg h.1
  simp [hg, this]
theorem trip_line {t : Timetable} (h : GoodT t) {i : Nat} {x : Trip} (hx : t.Trips[i]? = some x) : ∃ l, idx t.Network.Lines x.Line = some l ∧ LineP t.Network.Stops.length l ∧ (1 ≤ x.Id ∧ x.Id ≤ 999) ∧ (0 ≤ x.Start ∧ x.Start ≤ 1799) ∧ 0 ≤ x.Start + l.Runs.sum ∧ x.Start + l.Runs.sum ≤ 1799 := by
 obtain ⟨h1, l, hl, h2, h3⟩ := h.2.2.1 i x hx
 exact ⟨l, hl, good_line h.1 hl, h1, h2, h3⟩
theorem ids_lt {t : Timetable} (h : GoodT t) {i j : Nat} {a b : Trip} (hij : i < j) (ha : t.Trips[i]? = some a) (hb : t.Trips[j]? = some b) : a.Id < b.Id := by
 induction j generalizing b with
 | zero => omega
 | succ j ih =>
  obtain ⟨c, hc⟩ := get_ex (l := t.Trips) (i := j) (by have := get_lt hb; omega)
  have h1 := h.2.2.2 j c b hc hb
  by_cases hji : i = j
  ·subst hji; rw [ha] at hc; cases hc; exact h1
  ·have := ih (by omega) hc; omega
theorem anyNet_ok {k : Nat} {c : l1Cur} (h : Cur k c) (hk : k ≤ 200000000) : Tot (zq41 c) fun r => Cur (k + 1000) r.2 ∧ Bd r.1 := anyNetwork_ok h hk
def DT (t : Timetable) : Prop := Bd t.Network ∧ t.Trips.length ≤ 30
theorem DT.tb {t : Timetable} (h : DT t) : TB t := ⟨h.1, by have := h.2; omega⟩
theorem timetable_ok {k : Nat} {c : l1Cur} (h : Cur k c) (hk : k ≤ 100000000) : Tot (zq57 c) fun r => Cur (k + 400) r.2 ∧ DT r.1 ∧ NB r.1.Network ∧ r.1.Trips.length ≤ 8 := by
 unfold zq57
 refine .call (networkT_ok h (by omega)) fun r ⟨hc, hn⟩ => .call (pick_ok 8 hc (by omega)) fun r1 ⟨hc1, h0, h1⟩ => ?_
 refine .call (P := fun o => Cur (k + 400) ⟨o.1, o.2.1, ⟨o.2.2.1⟩⟩ ∧ o.2.2.2.length ≤ 8) ?_ fun o ⟨ho1, ho2⟩ => .ok ⟨ho1, ⟨hn.bd, by show o.2.2.2.length ≤ 30; omega⟩, hn, ho2⟩
 refine .iter (fun m s => s.2.1 = (m : Int) ∧ m + s.2.2.2.2.2.length ≤ 8 ∧ Cur (k + 302 + 6 * (8 - m)) ⟨s.2.2.1, s.2.2.2.1, ⟨s.2.2.2.2.1⟩⟩) (n := r1.1.toNat) ⟨by show r1.1 = _; omega, by show r1.1.toNat + 0 ≤ 8; omega, hc1.mono (by omega)⟩ ?_
 rintro m ⟨n, v, v1, v2, v3, v4⟩ ⟨hv, hl, hcur⟩
 simp only at hv hl hcur
 subst hv
 unfold zq57_L1
 refine .iteP (fun hc => ?_) (fun hc => .dn ⟨hcur.mono (by omega), by show v4.length ≤ 8; omega⟩)
 refine .call (pick_ok 3 hcur (by omega)) fun r2 ⟨hc2, _⟩ => .call (pick_ok _ hc2 (by omega)) fun r5 ⟨hc5, _⟩ => .call (pick_ok 24 hc5 (by omega)) fun r6 ⟨hc6, _⟩ => .chk (by simp; omega) (.nx ⟨m - 1, by omega, ?_, ?_, ?_⟩)
 ·show w64 ((m : Int) - 1) = _; rw [w64_id (by omega)]; omega
 ·show m - 1 + (v4 ++ [_]).length ≤ 8; simp; omega
 ·exact hc6.mono (by omega)
theorem anyTimetable_ok {k : Nat} {c : l1Cur} (h : Cur k c) (hk : k ≤ 50000000) : Tot (zq42 c) fun r => Cur (k + 2000) r.2 ∧ DT r.1 := by
 unfold zq42
 refine .call (timetable_ok h (by omega)) fun r ⟨hc, hd, hn, hl⟩ => ?_
 refine .ite (fun _ => .ok ⟨hc.mono (by omega), hd⟩) fun he => ?_
 have hpos : 0 < r.1.Trips.length := by
  have : (r.1.Trips.length : Int) ≠ 0 := by simpa using he
  omega
 refine .call (pick_ok _ hc (by omega)) fun r1 ⟨hc1, h10, h11⟩ => ?_
 have h12 : r1.1 < (r.1.Trips.length : Int) := by omega
 refine .idx h10 h12 fun e _ => ?_
 have fin : ∀ (v : List UInt8) (v1 v2 : Int) (v3 : List Line) (v4 v5 v6 : Int) (v7 : List ByteArray), Cur (k + 2000) ⟨v, v1, ⟨v2⟩⟩ → Bd ⟨v7, v3⟩ → Tot ((idx r.1.Trips r1.1).bind fun e2 => some ((⟨(⟨v7, v3⟩ : Network), (r.1.Trips.set r1.1.toNat (⟨v4, v5, v6⟩ : Trip))⟩ : Timetable), (⟨v, v1, (⟨v2⟩ : IK .u64)⟩ : l1Cur))) fun r => Cur (k + 2000) r.2 ∧ DT r.1 := fun v v1 v2 v3 v4 v5 v6 v7 q1 q2 =>
  .idx h10 h12 fun e2 _ => .ok ⟨q1, q2, by show (r.1.Trips.set _ _).length ≤ 30; rw [List.length_set]; omega⟩
 refine .flb (.call (pick_ok 24 hc1 (by omega)) fun r2 ⟨hc2, _⟩ => ?_)
 refine .ite (fun _ => .call (among_ok _ (by simp) hc2 (by omega)) fun r3 ⟨hc3, _⟩ => .go (fin _ _ _ _ _ _ _ _ (hc3.mono (by omega)) hd.1)) fun _ => ?_
 refine .ite (fun _ => .call (pick_ok 7 hc2 (by omega)) fun r3 ⟨hc3, _⟩ => .go (fin _ _ _ _ _ _ _ _ (hc3.mono (by omega)) hd.1)) fun _ => ?_
 refine .ite (fun _ => .call (among_ok _ (by simp) hc2 (by omega)) fun r3 ⟨hc3, _⟩ => .go (fin _ _ _ _ _ _ _ _ (hc3.mono (by omega)) hd.1)) fun _ => ?_
 refine .ite (fun _ => .call (anyNet_ok hc2 (by omega)) fun r3 ⟨hc3, hb⟩ => .go (fin _ _ _ _ _ _ _ _ (hc3.mono (by omega)) hb)) fun _ => ?_
 refine .ite (fun _ => ?_) fun _ => .go (fin _ _ _ _ _ _ _ _ (hc2.mono (by omega)) hd.1)
 refine .call (P := fun o => Cur (k + 2000) ⟨o.1, o.2.1, ⟨o.2.2.1⟩⟩ ∧ o.2.2.2.length ≤ 30) ?_ fun o ⟨ho1, ho2⟩ => .ret ⟨ho1, hd.1, ho2⟩
 refine .iter (fun m s => ∃ i : Nat, s.1 = (i : Int) ∧ m + i = 14 ∧ s.2.2.2.2.length ≤ 8 + i ∧ Cur (k + 500 + 2 * i) ⟨s.2.1, s.2.2.1, ⟨s.2.2.2.1⟩⟩) (n := 14) ⟨0, rfl, rfl, by simpa using hl, hc2.mono (by omega)⟩ ?_
 rintro m ⟨v8, v9, v10, v11, v12⟩ ⟨i, hv, hm, hl12, hcur⟩
 simp only at hv hl12 hcur
 subst hv
 unfold zq42_L1
 refine .call (pick_ok 2 hcur (by omega)) fun r8 ⟨hc8, _⟩ => ?_
 refine .call (P := fun b => b = true → i < 14) (.ite (fun _ => .ok fun hb => by simp at hb; omega) fun _ => .ok fun hb => by cases hb) fun b hb => ?_
 refine .ite (fun ht => .chk (by simp; omega) (.nx ⟨m - 1, by have := hb ht; omega, i + 1, w64_succ (by omega), by have := hb ht; omega, ?_, hc8.mono (by omega)⟩)) (fun _ => .dn ⟨hc8.mono (by omega), by show v12.length ≤ 30; omega⟩)
 show (v12 ++ [_]).length ≤ 8 + (i + 1); simp; omega
theorem t_pick {k : Nat} {c : l1Cur} (n : Int) (h : Cur k c) (hk : k ≤ 3000000000) : Tot (zq53 c n) fun r => Cur (k + 2) r.2 ∧ 0 ≤ r.1 ∧ (r.1 < n ∨ r.1 = 0) := pick_ok n h hk
theorem t_one {k : Nat} {c : l1Cur} (n : Int) (h : Cur k c) (hk : k ≤ 3000000000) : Tot (zq52 c n) fun r => Cur (k + 2) r.2 := one_ok n h hk
theorem t_among {k : Nat} {c : l1Cur} (l : List Int) (hl : l ≠ []) (h : Cur k c) (hk : k ≤ 3000000000) : Tot (zq39 c l) fun r => Cur (k + 2) r.2 ∧ r.1 ∈ l := among_ok l hl h hk
theorem t_time {k : Nat} {c : l1Cur} (h : Cur k c) (hk : k ≤ 2000000000) : Tot (zq56 c) fun r => Cur (k + 4) r.2 := by
 unfold zq56
 refine Tot.call (t_one 16 h (by omega)) fun r hr => .ite (fun _ => ?_) (fun _ => ?_)
 ·exact Tot.call (t_among _ (by simp) hr (by omega)) fun r hr => .ok hr.1
 ·exact Tot.call (t_pick 240 hr (by omega)) fun r hr => .ok hr.1
theorem rBig_eq (code : List UInt8) : zq150 code = some (decide (65536 < (code.length : Int))) := rfl
theorem compare_int (x y : Int) : zq0 x y = some (if x < y then -1 else if y < x then 1 else 0) := by
 unfold zq0 zq2
 by_cases h : x < y
 ·simp [h]
 ·by_cases h2 : y < x <;> simp [h, h2]
theorem rInts_refl (a : List Int) (h : a.length ≤ 100000) : zq152 a a = some true := by
 unfold zq152
 simp only [bne_self_eq_false, Bool.false_eq_true, if_false]
 rw [all_val (hd := Classical.propDecidable _) a (fun _ _ => True) (fun i x hx => ?_) (by unfold zq152_L1; simp)]
 ·rw [if_pos (fun _ _ _ => trivial)]
 ·have hi := get_lt hx
  unfold zq152_L1
  have hlt : decide ((i : Int) < (a.length : Int)) = true := by simp; omega
  left
  simp only [hlt, if_true, idx_nat, hx, Option.bind_some, bne_self_eq_false, Bool.false_eq_true, if_false, w64_succ (n := i) (by omega), and_self]
theorem l1Has_eq (l : List Int) (hl : l.length ≤ 100000) (x : Int) : zq58 l x = some (decide (x ∈ l)) := by
 unfold zq58
 rw [find_loop l (fun e => e == x) (fun _ => true) (fun i y hy => ?_) (by unfold zq58_L1; simp)]
 ·by_cases h : x ∈ l
  ·have : l.findIdx? (fun e => e == x) ≠ none := fun hn => by
    have := List.findIdx?_eq_none_iff.1 hn x h
    simp at this
   cases hf : l.findIdx? (fun e => e == x) with
   | none => exact absurd hf this
   | some i => simp [h]
  ·have : l.findIdx? (fun e => e == x) = none := List.findIdx?_eq_none_iff.2 fun y hy => by
    simp only [beq_eq_false_iff_ne, ne_eq]
    intro e; subst e; exact h hy
   rw [this]; simp [h]
 ·have hi := get_lt hy
  unfold zq58_L1
  have hlt : decide ((i : Int) < (l.length : Int)) = true := by simp; omega
  simp only [hlt, if_true, idx_nat, hy, Option.bind_some, w64_succ (n := i) (by omega)]
  split <;> rfl
theorem fdivp {x : Int} (h : 0 ≤ x) (k : Nat) : x.fdiv (2 ^ k) = x / (2 ^ k : Nat) := by
 rw [Int.fdiv_eq_ediv_of_nonneg _ (by exact_mod_cast Nat.zero_le (2 ^ k))]
 simp
theorem pow_step {x y : Int} {v k : Nat} (h : y * (2 ^ v : Nat) ≤ x) (hy : 0 ≤ y) : y / (2 ^ k : Nat) * (2 ^ (v + k) : Nat) ≤ x := by
 have h1 : y / (2 ^ k : Nat) * (2 ^ k : Nat) ≤ y := Int.ediv_mul_le _ (by have := Nat.two_pow_pos k; omega)
 have h2 : y / (2 ^ k : Nat) * (2 ^ k : Nat) * (2 ^ v : Nat) ≤ y * (2 ^ v : Nat) := Int.mul_le_mul_of_nonneg_right h1 (Int.natCast_nonneg _)
 rw [Nat.add_comm, Nat.pow_add, Int.natCast_mul, ← Int.mul_assoc]
 omega
theorem len64_ok (x : IK .u64) (h0 : 0 ≤ x.v) (h1 : x.v < 8589934592) : Tot (zq34 x) fun r => 0 ≤ r ∧ r ≤ 64 ∧ (1 ≤ x.v → ((2 ^ r.toNat : Nat) : Int) ≤ 2 * x.v) := by
 unfold zq34
 refine Tot.call (P := fun (r : Int × Int) => 0 ≤ r.1 ∧ r.1 < 4294967296 ∧ (1 ≤ x.v → 1 ≤ r.1) ∧ 0 ≤ r.2 ∧ r.2 ≤ 32 ∧ r.1 * (2 ^ r.2.toNat : Nat) ≤ x.v) (.iteP (fun hc => Tot.chk (by decide) (.ok ?_)) (fun hc => .ok ⟨h0, by dsimp only; omega, fun h => h, Int.le_refl _, by dsimp only; omega, by simp⟩)) fun ⟨x1, v⟩ ⟨p1, p2, p3, p4, p5, p6⟩ => ?_
 ·have e : ((2 ^ 32 : Nat) : Int) = 4294967296 := by decide
  have e2 : x.v.fdiv (2 ^ (min (32 : Int).toNat (IntKind.u64).bits)) = x.v / (2 ^ 32 : Nat) := fdivp h0 32
  simp only [e2]
  exact ⟨by omega, by omega, fun _ => by omega, by omega, by omega, Int.ediv_mul_le _ (by decide)⟩
 dsimp only at p1 p2 p3 p4 p5 p6 ⊢
 refine Tot.call (P := fun (r : Int × Int) => 0 ≤ r.1 ∧ r.1 < 65536 ∧ (1 ≤ x.v → 1 ≤ r.1) ∧ 0 ≤ r.2 ∧ r.2 ≤ 48 ∧ r.1 * (2 ^ r.2.toNat : Nat) ≤ x.v) (.iteP (fun hc => Tot.chk (by decide) (.ok ?_)) (fun hc => .ok ⟨p1, by dsimp only; omega, p3, p4, by dsimp only; omega, p6⟩)) fun ⟨x2, v1⟩ ⟨q1, q2, q3, q4, q5, q6⟩ => ?_
 ·have e : ((2 ^ 16 : Nat) : Int) = 65536 := by decide
  have e2 : x1.fdiv (2 ^ (min (16 : Int).toNat (IntKind.u64).bits)) = x1 / (2 ^ 16 : Nat) := fdivp p1 16
  have e3 : w64 (v + 16) = v + 16 := w64_id (by omega)
  have e4 : (v + 16).toNat = v.toNat + 16 := by omega
  simp only [e2, e3, e4]
  exact ⟨by omega, by omega, fun _ => by omega, by omega, by omega, pow_step p6 p1⟩
 dsimp only at q1 q2 q3 q4 q5 q6 ⊢
 refine Tot.call (P := fun (r : Int × Int) => 0 ≤ r.1 ∧ r.1 < 256 ∧ (1 ≤ x.v → 1 ≤ r.1) ∧ 0 ≤ r.2 ∧ r.2 ≤ 56 ∧ r.1 * (2 ^ r.2.toNat : Nat) ≤ x.v) (.iteP (fun hc => Tot.chk (by decide) (.ok ?_)) (fun hc => .ok ⟨q1, by dsimp only; omega, q3, q4, by dsimp only; omega, q6⟩)) fun ⟨x3, v2⟩ ⟨r1, r2, r3, r4, r5, r6⟩ => ?_
 ·have e : ((2 ^ 8 : Nat) : Int) = 256 := by decide
  have e2 : x2.fdiv (2 ^ (min (8 : Int).toNat (IntKind.u64).bits)) = x2 / (2 ^ 8 : Nat) := fdivp q1 8
  have e3 : w64 (v1 + 8) = v1 + 8 := w64_id (by omega)
  have e4 : (v1 + 8).toNat = v1.toNat + 8 := by omega
  simp only [e2, e3, e4]
  exact ⟨by omega, by omega, fun _ => by omega, by omega, by omega, pow_step q6 q1⟩
 dsimp only at r1 r2 r3 r4 r5 r6 ⊢
 have e8 : IntKind.u8.wrap x3 = x3 := Int.emod_eq_of_lt r1 r2
 rw [e8]
 generalize hs : str _ = S
 have hS : (Nat.beq S.size 256 && (List.range 256).all fun i => Nat.ble (S.data.toList.getD i 0).toNat 8 && (Nat.beq i 0 || Nat.ble (2 ^ (S.data.toList.getD i 0).toNat) (2 * i))) = true := by
  rw [← hs]; kernel_rfl
 clear hs
 simp only [Bool.and_eq_true, List.all_eq_true, List.mem_range, Bool.or_eq_true] at hS
 obtain ⟨s1, s2⟩ := hS
 have s1 := Nat.eq_of_beq_eq_true s1
 obtain ⟨n, rfl⟩ : ∃ n : Nat, x3 = n := ⟨x3.toNat, by omega⟩
 have s2 := s2 n (by omega)
 have t1 := Nat.le_of_ble_eq_true s2.1
 refine Tot.chk (by omega) (.ok ?_)
 rw [Int.toNat_natCast]
 revert t1 s2
 generalize (S.data.toList.getD n 0).toNat = t
 intro s2 t1
 rw [w64_id (x := (t : Int)) (by omega), w64_id (by omega)]
 refine ⟨by omega, by omega, fun hx => ?_⟩
 have e1 : (v2 + (t : Int)).toNat = v2.toNat + t := by omega
 rw [e1, Nat.pow_add, Int.natCast_mul]
 have hn := r3 hx
 have t2 : 2 ^ t ≤ 2 * n := by
  rcases s2.2 with h | h
  ·have := Nat.eq_of_beq_eq_true h; omega
  ·exact Nat.le_of_ble_eq_true h
 have t3 : ((2 ^ v2.toNat : Nat) : Int) * (2 ^ t : Nat) ≤ (2 ^ v2.toNat : Nat) * (2 * n : Nat) := Int.mul_le_mul_of_nonneg_left (by exact_mod_cast t2) (by exact_mod_cast Nat.zero_le _)
 have t4 : ((2 ^ v2.toNat : Nat) : Int) * ((2 * n : Nat) : Int) = 2 * ((n : Int) * (2 ^ v2.toNat : Nat)) := by
  rw [Int.natCast_mul, Int.mul_comm ((2 ^ v2.toNat : Nat) : Int), Int.mul_assoc]; rfl
 omega
theorem len_ok (x : IK .u64) (h0 : 0 ≤ x.v) (h1 : x.v < 8589934592) : Tot (zq33 x) fun r => 0 ≤ r ∧ r ≤ 64 ∧ (1 ≤ x.v → ((2 ^ r.toNat : Nat) : Int) ≤ 2 * x.v) := by
 unfold zq33
 exact Tot.call (len64_ok x h0 h1) fun r hr => .ok hr
theorem u64_id' {n : Int} (h0 : 0 ≤ n) (h1 : n < 18446744073709551616) : IntKind.u64.wrap n = n := by
 show n % 18446744073709551616 = n
 exact Int.emod_eq_of_lt h0 h1
theorem hlp : Pdq.Hlp zq122 zq149 := by
 refine ⟨fun n h1 h2 => ?_, fun x => ?_⟩
 ·unfold zq122
  rw [u64_id' (by omega) (by omega)]
  refine Tot.call (len_ok ⟨n⟩ (by dsimp only; omega) (by dsimp only; omega)) fun r ⟨r1, r2, r3⟩ => Tot.chk r1 (.ok ?_)
  have r3 := r3 (by dsimp only; omega)
  dsimp only at r3 ⊢
  have e : min r.toNat (IntKind.u64).bits = r.toNat := Nat.min_eq_left (by show r.toNat ≤ 64; omega)
  have e2 : (1 : Int) * 2 ^ r.toNat = ((2 ^ r.toNat : Nat) : Int) := by rw [Int.one_mul]; norm_cast
  rw [e, e2]
  have := Nat.two_pow_pos r.toNat
  rw [u64_id' (by omega) (by omega)]
  omega
 ·unfold zq149
  exact Tot.chk (by decide) (Tot.chk (by decide) (Tot.chk (by decide) (.ok trivial)))
theorem flatMap_le {α β : Type} (f : α → List β) (c : Nat) : ∀ l : List α, (∀ x ∈ l, (f x).length ≤ c) → (l.flatMap f).length ≤ c * l.length
 | [], _ => by simp
 | x :: l, h => by
  have ih := flatMap_le f c l fun y hy => h y (List.mem_cons_of_mem _ hy)
  have := h x (List.mem_cons_self ..)
  rw [List.flatMap_cons, List.length_append, List.length_cons, Nat.mul_add]
  omega
theorem flatMap_take {α β : Type} (f : α → List β) {l : List α} {k : Nat} {x : α} (h : l[k]? = some x) : (l.take (k + 1)).flatMap f = (l.take k).flatMap f ++ f x := by
 rw [take_succ h, List.flatMap_append]; simp
def RepP (n : Network) (r : Report) : Prop := (1 ≤ r.Vehicle ∧ r.Vehicle ≤ 99) ∧ (0 ≤ r.Time ∧ r.Time ≤ 1799) ∧ ∃ l, idx n.Lines r.Line = some l ∧ 0 ≤ r.Done ∧ r.Done ≤ l.Runs.sum
noncomputable instance (n : Network) (r : Report) : Decidable (RepP n r) := Classical.propDecidable _
def OrdR (a b : Report) : Prop := a.Time < b.Time ∨ (a.Time = b.Time ∧ a.Vehicle < b.Vehicle)
def RepQ (n : Network) (list : List Report) (i : Nat) (r : Report) : Prop := RepP n r ∧ ∀ y, 0 < i → list[i - 1]? = some y → OrdR y r
def RepsP (n : Network) (list : List Report) : Prop := list.length ≤ 20 ∧ ∀ (i : Nat) r, list[i]? = some r → RepQ n list i r
noncomputable instance (n : Network) (l : List Report) : Decidable (RepsP n l) := Classical.propDecidable _
theorem l25Long_eq {st : Nat} {l : Line} (h : LineP st l) : zq70 l = some l.Runs.sum := by
 obtain ⟨⟨h1, h2, h3⟩, h4⟩ := line_runs h
 have e : w64 ((l.Stops.length : Int) - 1) = (l.Runs.length : Int) := by rw [w64_id (by omega)]; omega
 have e2 := l2Run_eq l 0 l.Runs.length (by omega) (Nat.le_refl _) (by omega) (fun x hx => by have := h4 x hx; omega)
 rw [List.drop_zero, List.take_length] at e2
 have e2' : zq83 l 0 (l.Runs.length : Int) = some l.Runs.sum := e2
 unfold zq70
 rw [e, e2']; rfl
theorem isReport_eq {t : Timetable} (hg : Good t.Network) (r : Report) : zq22 t r = some (decide (RepP t.Network r)) := by
 unfold zq22
 rw [within_eq, time_eq, isLine_eq]
 by_cases c1 : 1 ≤ r.Vehicle ∧ r.Vehicle ≤ 99
 ·by_cases c2 : 0 ≤ r.Time ∧ r.Time ≤ 1799
  ·by_cases c3 : 0 ≤ r.Line ∧ r.Line < (t.Network.Lines.length : Int)
   ·obtain ⟨l, hl, _⟩ := idx_lt (l := t.Network.Lines) c3.1 c3.2
    obtain ⟨⟨h1, h2, h3⟩, h4⟩ := line_runs (good_line hg hl)
    have e := total_eq l.Runs (by omega) (fun x hx => by have := h4 x hx; omega)
    have hR : RepP t.Network r ↔ (0 ≤ r.Done ∧ r.Done ≤ l.Runs.sum) := by
     constructor
     ·rintro ⟨_, _, l', hl', h⟩
      rw [hl] at hl'; cases hl'; exact h
     ·intro h; exact ⟨c1, c2, l, hl, h⟩
    simp only [c1, c2, c3, and_self, decide_true, if_true, Option.bind_some, hl, e, within_eq, hR]
   ·have : ¬ RepP t.Network r := fun h => by
     obtain ⟨_, _, l, hl, _⟩ := h
     have := idx_some hl
     exact c3 ⟨this.1, this.2.1⟩
    simp [c1, c2, c3, this]
  ·have : ¬ RepP t.Network r := fun h => c2 h.2.1
   simp [c1, c2, this]
 ·have : ¬ RepP t.Network r := fun h => c1 h.1
  simp [c1, this]
theorem l25Report_eq {t : Timetable} (hg : Good t.Network) (r : Report) : zq72 t r = some (decide (RepP t.Network r)) := by
 have hbl := hg.2.1
 have wl : w64 ((t.Network.Lines.length : Int) - 1) = (t.Network.Lines.length : Int) - 1 := w64_id (by omega)
 unfold zq72
 rw [l1In_eq, l4Time_eq, wl, l1In_eq]
 by_cases c1 : 1 ≤ r.Vehicle ∧ r.Vehicle ≤ 99
 ·by_cases c2 : 0 ≤ r.Time ∧ r.Time ≤ 1799
  ·by_cases c3 : 0 ≤ r.Line ∧ r.Line ≤ (t.Network.Lines.length : Int) - 1
   ·obtain ⟨l, hl, _⟩ := idx_lt (l := t.Network.Lines) c3.1 (by omega)
    have e := l25Long_eq (good_line hg hl)
    have hR : RepP t.Network r ↔ (0 ≤ r.Done ∧ r.Done ≤ l.Runs.sum) := by
     constructor
     ·rintro ⟨_, _, l', hl', h⟩
      rw [hl] at hl'; cases hl'; exact h
     ·intro h; exact ⟨c1, c2, l, hl, h⟩
    simp only [c1, c2, c3, and_self, decide_true, if_true, Option.bind_some, hl, e, l1In_eq, hR]
   ·have : ¬ RepP t.Network r := fun h => by
     obtain ⟨_, _, l, hl, _⟩ := h
     have := idx_some hl
     exact c3 ⟨this.1, by omega⟩
    simp [c1, c2, c3, this]
  ·have : ¬ RepP t.Network r := fun h => c2 h.2.1
   simp [c1, c2, this]
 ·have : ¬ RepP t.Network r := fun h => c1 h.1
  simp [c1, this]
theorem or2_eq (a b : Int) : zq1 [a, b] = some (if a ≠ 0 then a else b) := by
 have hz : idx [a, b] 0 = some a ∧ idx [a, b] 1 = some b := ⟨rfl, rfl⟩
 have w1 : w64 1 = 1 := rfl
 have w2 : w64 2 = 2 := rfl
 unfold zq1
 by_cases ha : a = 0
 ·have s1 : zq1_L1 [a, b] 0 = some (.nx 1) := by unfold zq1_L1; dsimp only; rw [hz.1]; simp [ha, w1]
  by_cases hb : b = 0
  ·have s2 : zq1_L1 [a, b] 1 = some (.nx 2) := by unfold zq1_L1; dsimp only; rw [hz.2]; simp [hb, w2]
   have s3 : zq1_L1 [a, b] 2 = some (.dn (.go ())) := by unfold zq1_L1; simp
   rw [iter_nx s1, iter_nx s2, iter_dn s3]
   simp [ha, hb]
  ·have s2 : zq1_L1 [a, b] 1 = some (.dn (.ret b)) := by unfold zq1_L1; dsimp only; rw [hz.2]; simp [hb]
   rw [iter_nx s1, iter_dn s2]
   simp [ha]
 ·have s1 : zq1_L1 [a, b] 0 = some (.dn (.ret a)) := by unfold zq1_L1; dsimp only; rw [hz.1]; simp [ha]
  rw [iter_dn s1]
  simp [ha]
theorem ord_cmp (y r : Report) : (0 ≤ (if (if y.Time < r.Time then (-1 : Int) else if r.Time < y.Time then 1 else 0) ≠ 0 then (if y.Time < r.Time then (-1 : Int) else if r.Time < y.Time then 1 else 0) else (if y.Vehicle < r.Vehicle then (-1 : Int) else if r.Vehicle < y.Vehicle then 1 else 0))) ↔ ¬ OrdR y r := by
 unfold OrdR
 by_cases h1 : y.Time < r.Time
 ·simp [h1]
 ·by_cases h2 : r.Time < y.Time
  ·have h4 : ¬ y.Time = r.Time := by omega
   simp [h1, h2, h4]
  ·have h3 : y.Time = r.Time := by omega
   by_cases h5 : y.Vehicle < r.Vehicle
   ·simp [h3, h5]
   ·by_cases h6 : r.Vehicle < y.Vehicle <;> simp [h3, h5, h6]
theorem areReports_eq {t : Timetable} (hg : Good t.Network) (list : List Report) : zq15 t list = some (decide (RepsP t.Network list)) := by
 unfold zq15
 by_cases hl : list.length ≤ 20
 ·have h0 : ¬ (20 : Int) < (list.length : Int) := by omega
  simp only [h0, decide_false, Bool.false_eq_true, if_false]
  rw [all_val (hd := Classical.propDecidable _) list (RepQ t.Network list) (fun i x hx => ?_) (by unfold zq15_L1; simp)]
  ·have hR : RepsP t.Network list ↔ ∀ (i : Nat) x, list[i]? = some x → RepQ t.Network list i x := ⟨fun h => h.2, fun h => ⟨hl, h⟩⟩
   by_cases h : ∀ (i : Nat) x, list[i]? = some x → RepQ t.Network list i x
   ·rw [if_pos h]; simp [hR.2 h]
   ·rw [if_neg h]; have : ¬ RepsP t.Network list := fun h' => h (hR.1 h'); simp [this]
  ·have := get_lt hx
   unfold zq15_L1
   simp only [Int.ofNat_lt.2 this, decide_true, if_true, idx_nat, hx, Option.bind_some, isReport_eq hg, compare_int, or2_eq]
   by_cases hp : RepP t.Network x
   ·by_cases hi : 0 < i
    ·obtain ⟨y, hy⟩ := get_ex (l := list) (i := i - 1) (by omega)
     have w : w64 ((i : Int) - 1) = ((i - 1 : Nat) : Int) := by rw [w64_id (by omega)]; omega
     have hi' : (0 : Int) < (i : Int) := by omega
     by_cases ho : OrdR y x
     ·left
      have := mt (ord_cmp y x).1 (not_not_intro ho)
      refine ⟨?_, hp, fun z _ hz => by rw [hy] at hz; cases hz; exact ho⟩
      simp only [hp, decide_true, Bool.not_true, Bool.false_eq_true, if_false, hi', if_true, w, idx_nat, hy, Option.bind_some, this, decide_false, w64_succ (n := i) (by omega)]
     ·right
      have := (ord_cmp y x).2 ho
      refine ⟨?_, fun h => ho (h.2 y hi hy)⟩
      simp only [hp, decide_true, Bool.not_true, Bool.false_eq_true, if_false, hi', if_true, w, idx_nat, hy, Option.bind_some, this]
    ·left
     have hi' : ¬ (0 : Int) < (i : Int) := by omega
     refine ⟨?_, hp, fun z h _ => absurd h hi⟩
     simp only [hp, decide_true, Bool.not_true, Bool.false_eq_true, if_false, hi', decide_false, Option.bind_some, w64_succ (n := i) (by omega)]
   ·right
    refine ⟨?_, fun h => hp h.1⟩
    simp only [hp, decide_false, Bool.not_false, if_true, Option.bind_some]
 ·have h0 : (20 : Int) < (list.length : Int) := by omega
  have : ¬ RepsP t.Network list := fun h => hl h.1
  simp [h0, this]
theorem l25Good_eq {t : Timetable} (hb : TB t) (list : List Report) : zq68 t list = some (decide (GoodT t ∧ RepsP t.Network list)) := by
 unfold zq68
 rw [goodT_eq hb]
 by_cases hgt : GoodT t
 ·have hg : Good t.Network := hgt.1
  by_cases hl : list.length ≤ 20
  ·have h0 : ¬ (20 : Int) < (list.length : Int) := by omega
   simp only [hgt, h0, true_and, decide_true, decide_false, Bool.not_true, Bool.false_eq_true, if_false, Option.bind_some]
   rw [all_val (hd := Classical.propDecidable _) list (RepQ t.Network list) (fun i x hx => ?_) (by unfold zq68_L1; simp)]
   ·have hR : RepsP t.Network list ↔ ∀ (i : Nat) x, list[i]? = some x → RepQ t.Network list i x := ⟨fun h => h.2, fun h => ⟨hl, h⟩⟩
    by_cases h : ∀ (i : Nat) x, list[i]? = some x → RepQ t.Network list i x
    ·rw [if_pos h]; simp [hR.2 h]
    ·rw [if_neg h]; have : ¬ RepsP t.Network list := fun h' => h (hR.1 h'); simp [this]
   ·have := get_lt hx
    unfold zq68_L1
    simp only [Int.ofNat_lt.2 this, decide_true, if_true, idx_nat, hx, Option.bind_some, l25Report_eq hg]
    by_cases hp : RepP t.Network x
    ·by_cases hi : 0 < i
     ·obtain ⟨y, hy⟩ := get_ex (l := list) (i := i - 1) (by omega)
      have w : w64 ((i : Int) - 1) = ((i - 1 : Nat) : Int) := by rw [w64_id (by omega)]; omega
      have hi' : (0 : Int) < (i : Int) := by omega
      simp only [hp, decide_true, Bool.not_true, Bool.false_eq_true, if_false, hi', if_true, w, idx_nat, hy, Option.bind_some]
      by_cases h1 : x.Time < y.Time
      ·right
       refine ⟨by simp [h1], fun h => ?_⟩
       have := h.2 y hi hy
       unfold OrdR at this; omega
      ·by_cases h2 : y.Time = x.Time
       ·by_cases h3 : x.Vehicle ≤ y.Vehicle
        ·right
         refine ⟨by simp [h1, h2, h3], fun h => ?_⟩
         have := h.2 y hi hy
         unfold OrdR at this; omega
        ·left
         refine ⟨by simp [h1, h2, h3, w64_succ (n := i) (by omega)], hp, fun z _ hz => by rw [hy] at hz; cases hz; exact .inr ⟨h2, by omega⟩⟩
       ·left
        refine ⟨by simp [h1, h2, w64_succ (n := i) (by omega)], hp, fun z _ hz => by rw [hy] at hz; cases hz; exact .inl (by omega)⟩
     ·left
      have hi' : ¬ (0 : Int) < (i : Int) := by omega
      refine ⟨?_, hp, fun z h _ => absurd h hi⟩
      simp only [hp, decide_true, Bool.not_true, Bool.false_eq_true, if_false, hi', decide_false, Option.bind_some, w64_succ (n := i) (by omega)]
    ·right
     refine ⟨?_, fun h => hp h.1⟩
     simp only [hp, decide_false, Bool.not_false, if_true, Option.bind_some]
  ·have h0 : (20 : Int) < (list.length : Int) := by omega
   have : ¬ RepsP t.Network list := fun h => hl h.1
   simp [hgt, h0, this]
 ·simp [hgt]
theorem validReps_eq {t : Timetable} (hb : TB t) (list : List Report) : zq4 t list = some (decide (GoodT t ∧ RepsP t.Network list)) := by
 unfold zq4
 rw [validT_eq hb]
 by_cases hgt : GoodT t
 ·simp [hgt, areReports_eq hgt.1]
 ·simp [hgt]
def ab (x : Int) : Int := if x < 0 then 0 - x else x
def UM (m : Match) : Prop := -10000 ≤ m.Delay ∧ m.Delay ≤ 10000
def fLt (a b : Match) : Bool := decide (ab a.Delay < ab b.Delay ∨ (ab a.Delay = ab b.Delay ∧ a.Delay < b.Delay))
theorem absI_eq {x : Int} (h : -10000 ≤ x ∧ x ≤ 10000) : zq12 x = some (ab x) := by
 unfold zq12 ab
 rw [w64_id (x := 0 - x) (by omega)]
 by_cases hx : x < 0
 ·have : 0 - x > x := by omega
  rw [if_pos this, if_pos hx]
 ·by_cases h0 : 0 - x > x
  ·omega
  ·rw [if_neg h0, if_neg hx]
theorem absS_eq {x : Int} (h : -10000 ≤ x ∧ x ≤ 10000) : zq64 x = some (ab x) := by
 unfold zq64 zq60 ab
 rw [w64_id (x := 0 - x) (by omega)]
 by_cases hx : x < 0
 ·have : ¬ 0 - x < x := by omega
  simp only [this, decide_false, Bool.false_eq_true, if_false, Option.bind_some, hx, if_true]
 ·by_cases h0 : 0 - x < x
  ·simp only [h0, decide_true, if_true, Option.bind_some, hx, if_false]
  ·have : x = 0 := by omega
   subst this; simp
theorem cmpFit (x y : Match) (hx : UM x) (hy : UM y) : ∃ c, zq19 x y = some c ∧ decide (c < 0) = fLt x y := by
 unfold zq19 fLt
 rw [absI_eq hx, absI_eq hy]
 simp only [Option.bind_some, compare_int, or2_eq]
 refine ⟨_, rfl, ?_⟩
 by_cases h1 : ab x.Delay < ab y.Delay
 ·simp [h1]
 ·by_cases h2 : ab y.Delay < ab x.Delay
  ·have : ¬ ab x.Delay = ab y.Delay := by omega
   simp [h1, h2, this]
  ·have h3 : ab x.Delay = ab y.Delay := by omega
   by_cases h4 : x.Delay < y.Delay
   ·simp [h3, h4]
   ·by_cases h5 : y.Delay < x.Delay <;> simp [h3, h4, h5]
theorem stableFit (l : List Match) (hl : l.length < 20) (hU : ∀ x ∈ l, UM x) : zq102 l = some (Pdq.isort fLt l) := by
 have s1 : zq145_L1 (l.length : Int) ((0 : Int), (20 : Int), l) = some (.dn (0, l)) := by
  unfold zq145_L1
  have : ¬ (20 : Int) ≤ (l.length : Int) := by omega
  simp [this]
 have s2 : ∀ l' : List Match, zq145_L3 (l.length : Int) ((20 : Int), l') = some (.dn l') := fun l' => by
  unfold zq145_L3
  have : ¬ (20 : Int) < (l.length : Int) := by omega
  simp [this]
 have s3 : zq113 l 0 (l.length : Int) = some (Pdq.isort fLt l) := Pdq.insertion_stU (U := UM) cmpFit l (by omega) hU
 unfold zq102 zq145
 rw [iter_dn s1]
 simp only [Option.bind_some]
 rw [s3]
 simp only [Option.bind_some]
 rw [iter_dn (s2 _)]; rfl
def mkM (r : Report) (x : Trip) : Match := ⟨r.Vehicle, x.Id, r.Time - x.Start - r.Done⟩
def fits (T : List Trip) (r : Report) : List Match := (T.filter fun x => x.Line == r.Line).map (mkM r)
def fitQ (T : List Trip) (r : Report) : List Match := Pdq.isort fLt (fits T r)
theorem fits_succ {T : List Trip} {r : Report} {k : Nat} {e : Trip} (he : T[k]? = some e) : fits (T.take (k + 1)) r = fits (T.take k) r ++ (if (e.Line == r.Line) = true then [mkM r e] else []) := by
 unfold fits
 rw [take_succ he, List.filter_append, List.map_append]
 by_cases h : (e.Line == r.Line) = true <;> simp [h]
theorem fits_le {T : List Trip} {r : Report} : (fits T r).length ≤ T.length := by
 unfold fits; rw [List.length_map]; exact List.length_filter_le ..
theorem fitQ_len {T : List Trip} {r : Report} : (fitQ T r).length ≤ T.length := by
 unfold fitQ; rw [Pdq.isort_len]; exact fits_le
theorem fits_U {t : Timetable} (hg : GoodT t) {r : Report} (ht : 0 ≤ r.Time ∧ r.Time ≤ 1799) (hd : 0 ≤ r.Done ∧ r.Done ≤ 300) : ∀ m ∈ fits t.Trips r, UM m ∧ m.Vehicle = r.Vehicle := by
 intro m hm
 unfold fits at hm
 obtain ⟨x, hx, rfl⟩ := List.mem_map.1 hm
 obtain ⟨i, hi⟩ := List.getElem?_of_mem (List.mem_filter.1 hx).1
 obtain ⟨_, _, _, _, hs, _⟩ := trip_line hg hi
 unfold UM mkM
 exact ⟨⟨by dsimp only; omega, by dsimp only; omega⟩, rfl⟩
theorem fitI {t : Timetable} (hg : GoodT t) {r : Report} (ht : 0 ≤ r.Time ∧ r.Time ≤ 1799) (hd : 0 ≤ r.Done ∧ r.Done ≤ 300) : zq18 t r = some (fitQ t.Trips r) := by
 have h12 := hg.2.1
 have hU := fits_U hg ht hd
 have hfl := fits_le (T := t.Trips) (r := r)
 unfold zq18
 have e : iter (zq18_L1 t r) ((0 : Int), ([] : List Match)) = some (fits t.Trips r) := by
  refine Tot.val (.iter (fun m s => ∃ k : Nat, s.1 = (k : Int) ∧ m + k = t.Trips.length ∧ s.2 = fits (t.Trips.take k) r) (n := t.Trips.length) ⟨0, rfl, rfl, rfl⟩ ?_)
  rintro m ⟨v, x⟩ ⟨k, hk, hm, hx⟩
  simp only at hk hx
  subst hk
  unfold zq18_L1
  refine .iteP (fun hc => ?_) (fun hc => .dn (by rw [hx, List.take_of_length_le (by omega)]))
  obtain ⟨e, he⟩ := get_ex (l := t.Trips) (i := k) (by omega)
  obtain ⟨_, _, _, _, hs, _⟩ := trip_line hg he
  have w : w64 (w64 (r.Time - e.Start) - r.Done) = r.Time - e.Start - r.Done := by rw [w64_id (x := r.Time - e.Start) (by omega), w64_id (by omega)]
  have hxl : x.length ≤ 12 := by
   rw [hx]; exact Nat.le_trans fits_le (by rw [List.length_take]; omega)
  refine .call (P := fun x1 => x1 = fits (t.Trips.take (k + 1)) r) (.eq (by rw [idx_nat]; exact he) (.ite (fun h => .chk (by simp; omega) (.ok (by rw [fits_succ he, if_pos h, w, hx]; rfl))) fun h => .ok (by rw [fits_succ he, h, hx]; simp))) fun x1 h1 => ?_
  exact .nx ⟨m - 1, by omega, k + 1, w64_succ (by omega), by omega, h1⟩
 rw [e]
 simp only [Option.bind_some]
 rw [stableFit _ (by omega) (fun x hx => (hU x hx).1)]
 rfl
theorem fitS {t : Timetable} (hg : GoodT t) {r : Report} (ht : 0 ≤ r.Time ∧ r.Time ≤ 1799) (hd : 0 ≤ r.Done ∧ r.Done ≤ 300) : zq67 t r = some (fitQ t.Trips r) := by
 have h12 := hg.2.1
 have hU := fits_U hg ht hd
 unfold zq67
 have e : iter (zq67_L2 t r) ((0 : Int), ([] : List Match)) = some (fitQ t.Trips r) := by
  refine Tot.val (.iter (fun m s => ∃ k : Nat, s.1 = (k : Int) ∧ m + k = t.Trips.length ∧ s.2 = fitQ (t.Trips.take k) r) (n := t.Trips.length) ⟨0, rfl, rfl, rfl⟩ ?_)
  rintro m ⟨v, x⟩ ⟨k, hk, hm, hx⟩
  simp only at hk hx
  subst hk
  unfold zq67_L2
  refine .iteP (fun hc => ?_) (fun hc => .dn (by rw [hx, List.take_of_length_le (by omega)]))
  obtain ⟨e, he⟩ := get_ex (l := t.Trips) (i := k) (by omega)
  obtain ⟨_, _, _, _, hs, _⟩ := trip_line hg he
  have w : w64 (w64 (r.Time - e.Start) - r.Done) = r.Time - e.Start - r.Done := by rw [w64_id (x := r.Time - e.Start) (by omega), w64_id (by omega)]
  have hxl : x.length ≤ 12 := by
   rw [hx]; exact Nat.le_trans fitQ_len (by rw [List.length_take]; omega)
  have hxU : ∀ y ∈ x, UM y := fun y hy => by
   rw [hx] at hy
   unfold fitQ at hy
   have := (Pdq.isort_perm _).mem_iff.1 hy
   refine (hU y ?_).1
   unfold fits at this ⊢
   obtain ⟨z, hz, rfl⟩ := List.mem_map.1 this
   rw [List.mem_filter] at hz
   exact List.mem_map_of_mem (List.mem_filter.2 ⟨List.mem_of_mem_take hz.1, hz.2⟩)
  have hstep : fitQ (t.Trips.take (k + 1)) r = if (e.Line == r.Line) = true then Pdq.insE fLt (mkM r e) x else x := by
   unfold fitQ
   rw [fits_succ he]
   by_cases h : (e.Line == r.Line) = true
   ·rw [if_pos h, if_pos h, Pdq.isort_snoc, hx]; rfl
   ·rw [if_neg h, if_neg h, List.append_nil, hx]; rfl
  refine .call (P := fun x1 => x1 = fitQ (t.Trips.take (k + 1)) r) (.eq (by rw [idx_nat]; exact he) ?_) fun x1 h1 => .nx ⟨m - 1, by omega, k + 1, w64_succ (by omega), by omega, h1⟩
  by_cases hne : e.Line = r.Line
  ·have hb1 : (e.Line != r.Line) = false := by simp [hne]
   have hb2 : (e.Line == r.Line) = true := by simp [hne]
   simp only [hb1, Bool.false_eq_true, if_false, idx_nat, he, Option.bind_some, w]
   rw [hstep, if_pos hb2]
   have hM : UM (mkM r e) := ⟨by unfold mkM; dsimp only; omega, by unfold mkM; dsimp only; omega⟩
   have hpos : Tot (iter (zq67_L1 r x e) (x.length : Int)) fun v => ∃ p : Nat, v = (p : Int) ∧ p ≤ x.length ∧ x.take p ++ [mkM r e] ++ x.drop p = Pdq.insE fLt (mkM r e) x := by
    refine .iter (fun m v => v = (m : Int) ∧ m ≤ x.length ∧ ∀ y ∈ x.drop m, fLt (mkM r e) y = true) (n := x.length) ⟨rfl, Nat.le_refl _, by simp⟩ ?_
    rintro q v ⟨rfl, hq, hall⟩
    unfold zq67_L1
    by_cases hq0 : 0 < q
    ·obtain ⟨y, hy⟩ := get_ex (l := x) (i := q - 1) (by omega)
     have wq : w64 ((q : Int) - 1) = ((q - 1 : Nat) : Int) := by rw [w64_id (by omega)]; omega
     have hUy := hxU y (List.mem_of_getElem? hy)
     have hq0' : (0 : Int) < (q : Int) := by omega
     have hdrop : x.drop (q - 1) = y :: x.drop q := by
      rw [List.drop_eq_getElem_cons (by omega), show q - 1 + 1 = q by omega]
      congr 1
      exact (List.getElem?_eq_some_iff.1 hy).2
     have ea := absS_eq hUy
     have eb : zq64 (r.Time - e.Start - r.Done) = some (ab (mkM r e).Delay) := absS_eq hM
     have ed : (mkM r e).Delay = r.Time - e.Start - r.Done := rfl
     have hyes : fLt (mkM r e) y = true → Tot (some (Lp.nx (((q - 1 : Nat) : Int)) : Lp Int Int)) fun rr => (∀ a', rr = .nx a' → ∃ k', k' < q ∧ (a' = (k' : Int) ∧ k' ≤ x.length ∧ ∀ y ∈ x.drop k', fLt (mkM r e) y = true)) ∧ ∀ b, rr = .dn b → ∃ p : Nat, b = (p : Int) ∧ p ≤ x.length ∧ x.take p ++ [mkM r e] ++ x.drop p = Pdq.insE fLt (mkM r e) x := fun hy1 => .nx ⟨q - 1, by omega, rfl, by omega, fun z hz => by
      rw [hdrop] at hz
      rcases List.mem_cons.1 hz with rfl | hz
      ·exact hy1
      ·exact hall z hz⟩
     have hno : fLt (mkM r e) y = false → Tot (some (Lp.dn ((q : Nat) : Int) : Lp Int Int)) fun rr => (∀ a', rr = .nx a' → ∃ k', k' < q ∧ (a' = (k' : Int) ∧ k' ≤ x.length ∧ ∀ y ∈ x.drop k', fLt (mkM r e) y = true)) ∧ ∀ b, rr = .dn b → ∃ p : Nat, b = (p : Int) ∧ p ≤ x.length ∧ x.take p ++ [mkM r e] ++ x.drop p = Pdq.insE fLt (mkM r e) x := fun hy0 => .dn ⟨q, rfl, hq, Pdq.insE_slot x.length rfl hq hall fun z _ hz => by rw [hy] at hz; cases hz; exact hy0⟩
     simp only [hq0', decide_true, if_true, wq, idx_nat, hy, Option.bind_some, ea, eb, w]
     by_cases h1 : ab (mkM r e).Delay < ab y.Delay
     ·simp only [h1, decide_true, if_true, Option.bind_some]
      exact hyes (by unfold fLt; simp [h1])
     ·by_cases h2 : ab y.Delay = ab (mkM r e).Delay
      ·by_cases h3 : r.Time - e.Start - r.Done < y.Delay
       ·have hb : (ab y.Delay == ab (mkM r e).Delay) = true := by simp [h2]
        simp only [h1, decide_false, Bool.false_eq_true, if_false, hb, if_true, h3, decide_true, Option.bind_some]
        exact hyes (by unfold fLt; rw [ed] at *; simp [h2.symm, h3])
       ·have hb : (ab y.Delay == ab (mkM r e).Delay) = true := by simp [h2]
        simp only [h1, decide_false, Bool.false_eq_true, if_false, hb, if_true, h3, Option.bind_some]
        exact hno (by unfold fLt; rw [ed] at *; simp [h2.symm, h3])
      ·have hb : (ab y.Delay == ab (mkM r e).Delay) = false := by simp [h2]
       have h2' : ¬ ab (mkM r e).Delay = ab y.Delay := fun h => h2 h.symm
       simp only [h1, decide_false, Bool.false_eq_true, if_false, hb, Option.bind_some]
       exact hno (by unfold fLt; simp [h1, h2'])
    ·have : q = 0 := by omega
     subst this
     simp only [Int.lt_irrefl, decide_false, Bool.false_eq_true, if_false, Option.bind_some, Int.natCast_zero]
     exact .dn ⟨0, rfl, by omega, Pdq.insE_slot x.length rfl (by omega) hall fun z h _ => absurd h (Nat.lt_irrefl _)⟩
   refine .call hpos fun v hv => ?_
   obtain ⟨p, rfl, hp, hins⟩ := hv
   have el : (x.take p).length = p := by rw [List.length_take]; omega
   refine .chk (by omega) (.chk (by simp; omega) (.chk (by simp; omega) (.chk (by omega) (.chk (by simp; omega) (.ok ?_)))))
   rw [← hins]
   simp [mkM]
  ·have hb1 : (e.Line != r.Line) = true := by simp [hne]
   have hb2 : ¬ (e.Line == r.Line) = true := by simp [hne]
   simp only [hb1, if_true]
   exact .ok (by rw [hstep, if_neg hb2])
 rw [e]; rfl
def lastOf (R : List Report) (v : Int) : Option Report := R.reverse.find? fun x => x.Vehicle == v
theorem lastOf_snoc (R : List Report) (e : Report) (v : Int) : lastOf (R ++ [e]) v = if e.Vehicle = v then some e else lastOf R v := by
 unfold lastOf
 rw [List.reverse_append, List.reverse_singleton, List.singleton_append, List.find?_cons]
 by_cases h : e.Vehicle = v
 ·have hb : (e.Vehicle == v) = true := by simp [h]
  rw [hb, if_pos h]
 ·have hb : (e.Vehicle == v) = false := by simpa using h
  rw [hb, if_neg h]
theorem lastOf_veh {R : List Report} {v : Int} {e : Report} (h : lastOf R v = some e) : e.Vehicle = v ∧ e ∈ R := by
 unfold lastOf at h
 have h1 := List.find?_some h
 have h2 := List.mem_of_find?_eq_some h
 exact ⟨by simpa using h1, List.mem_reverse.1 h2⟩
theorem lastOf_none {R : List Report} {v : Int} (h : ∀ x ∈ R, x.Vehicle ≠ v) : lastOf R v = none := by
 unfold lastOf
 rw [List.find?_eq_none]
 intro x hx
 have := h x (List.mem_reverse.1 hx)
 simpa using this
theorem lastOf_at {R : List Report} {v : Int} {j : Nat} {e : Report} (he : R[j]? = some e) (hv : e.Vehicle = v) (h : ∀ x ∈ R.drop (j + 1), x.Vehicle ≠ v) : lastOf R v = some e := by
 have : ∀ (D A : List Report), (∀ x ∈ D, x.Vehicle ≠ v) → lastOf (A ++ [e] ++ D) v = some e := fun D A hD => by
  unfold lastOf
  rw [List.reverse_append, List.find?_append]
  have h1 : D.reverse.find? (fun x => x.Vehicle == v) = none := by
   rw [List.find?_eq_none]
   intro x hx
   have := hD x (List.mem_reverse.1 hx)
   simpa using this
  rw [h1, Option.none_or, List.reverse_append, List.reverse_singleton, List.singleton_append, List.find?_cons]
  simp [hv]
 have hR : R = R.take j ++ [e] ++ R.drop (j + 1) := by
  rw [← take_succ he, List.take_append_drop]
 rw [hR]
 exact this _ _ h
def lastN (R : List Report) (v : Nat) : Option Report := lastOf R (v : Int)
def lastL (R : List Report) : List Report := (List.range 100).filterMap (lastN R)
def z4 : Report := ⟨0, 0, 0, 0⟩
def VB (R : List Report) : Prop := R.length ≤ 1000 ∧ ∀ x ∈ R, 1 ≤ x.Vehicle ∧ x.Vehicle ≤ 99
theorem fm_succ (R : List Report) (k : Nat) : (List.range (k + 1)).filterMap (lastN R) = (List.range k).filterMap (lastN R) ++ (lastOf R (k : Int)).toList := by
 rw [List.range_succ, List.filterMap_append]
 have : [k].filterMap (lastN R) = (lastN R k).toList := by cases h : lastN R k <;> simp [h]
 rw [this]; rfl
theorem fm_le (R : List Report) (k : Nat) : ((List.range k).filterMap (lastN R)).length ≤ k := by
 have := List.length_filterMap_le (lastN R) (List.range k)
 rwa [List.length_range] at this
theorem lastI {R : List Report} (h : VB R) : zq25 R = some (lastL R) := by
 unfold zq25
 have e1 : Tot (iter (zq25_L1 R) ((0 : Int), List.replicate 100 ((⟨0, 0, 0, 0⟩ : Report) : Report))) fun A => A.length = 100 ∧ ∀ v : Nat, v < 100 → A[v]? = some ((lastOf R (v : Int)).getD z4) := by
  refine .iter (fun m s => ∃ k : Nat, s.1 = (k : Int) ∧ m + k = R.length ∧ s.2.length = 100 ∧ ∀ v : Nat, v < 100 → s.2[v]? = some ((lastOf (R.take k) (v : Int)).getD z4)) (n := R.length) ⟨0, rfl, rfl, by simp, fun v hv => ?_⟩ ?_
  ·show (List.replicate 100 (⟨0, 0, 0, 0⟩ : Report))[v]? = _
   rw [List.getElem?_replicate, if_pos hv]; rfl
  ·rintro m ⟨w, A⟩ ⟨k, hk, hm, hA, hv⟩
   simp only at hk hA hv
   subst hk
   unfold zq25_L1
   refine .iteP (fun hc => ?_) (fun hc => .dn ⟨hA, fun v hv' => by have := hv v hv'; rwa [List.take_of_length_le (by omega)] at this⟩)
   obtain ⟨e, he⟩ := get_ex (l := R) (i := k) (by omega)
   have hb := h.2 e (List.mem_of_getElem? he)
   have hl := h.1
   obtain ⟨j, hj⟩ : ∃ j : Nat, e.Vehicle = (j : Int) := ⟨e.Vehicle.toNat, by omega⟩
   refine .eq (ixs he) (.chk (by omega) (.eq (by rw [hj]; exact ixs (hv j (by omega))) (.nx ⟨m - 1, by omega, k + 1, w64_succ (by omega), by omega, by simpa using hA, fun v hv' => ?_⟩)))
   rw [take_succ he, lastOf_snoc]
   by_cases hvj : v = j
   ·subst hvj
    rw [if_pos hj, hj, Int.toNat_natCast, List.getElem?_set_self (by omega)]; rfl
   ·have hne : ¬ e.Vehicle = (v : Int) := by omega
    rw [if_neg hne, hj, Int.toNat_natCast, List.getElem?_set_ne (by omega)]
    exact hv v hv'
 obtain ⟨A, hA, hlen, hv⟩ := e1
 rw [hA]
 simp only [Option.bind_some]
 rw [chk_of hlen]
 simp only [Option.bind_some]
 have e2 : iter (zq25_L2 A) ((0 : Int), ([] : List Report)) = some (lastL R) := by
  refine Tot.val (.iter (fun m s => ∃ k : Nat, s.1 = (k : Int) ∧ m + k = 100 ∧ s.2 = (List.range k).filterMap (lastN R)) (n := 100) ⟨0, rfl, rfl, rfl⟩ ?_)
  rintro m ⟨w, x⟩ ⟨k, hk, hm, hx⟩
  simp only at hk hx
  subst hk
  unfold zq25_L2
  refine .iteP (fun hc => ?_) (fun hc => .dn (by rw [hx, show k = 100 by omega]; rfl))
  have hk' : k < 100 := by omega
  have hxl := fm_le R k
  rw [← hx] at hxl
  refine .call (P := fun x1 => x1 = (List.range (k + 1)).filterMap (lastN R)) (.chk (by omega) (.eq (ixs (hv k hk')) ?_)) fun x1 h1 => .nx ⟨m - 1, by omega, k + 1, w64_succ (by omega), by omega, h1⟩
  rw [fm_succ, ← hx]
  cases hlo : lastOf R (k : Int) with
  | none =>
   exact .iteP (fun hc => by simp only [Option.getD_none, z4] at hc; omega) fun _ => .ok (by simp)
  | some e =>
   obtain ⟨q1, q2⟩ := lastOf_veh hlo
   have := h.2 e q2
   exact .iteP (fun _ => .chk (by simp; omega) (.ok (by simp))) fun hc => absurd (show (0 : Int) < e.Vehicle by omega) hc
 rw [e2]; rfl
theorem lastS {R : List Report} (h : VB R) : zq69 R = some (lastL R) := by
 have hl := h.1
 unfold zq69
 have e2 : iter (zq69_L2 R) ((1 : Int), ([] : List Report)) = some (lastL R) := by
  refine Tot.val (.iter (fun m s => ∃ k : Nat, s.1 = (k : Int) ∧ m + k = 100 ∧ s.2 = (List.range k).filterMap (lastN R)) (n := 99) ⟨1, rfl, rfl, ?_⟩ ?_)
  ·have : lastOf R ((0 : Nat) : Int) = none := lastOf_none fun x hx => by have := h.2 x hx; omega
   rw [fm_succ, this]; rfl
  rintro m ⟨w, x⟩ ⟨k, hk, hm, hx⟩
  simp only at hk hx
  subst hk
  unfold zq69_L2
  refine .iteP (fun hc => ?_) (fun hc => .dn (by rw [hx, show k = 100 by omega]; rfl))
  have hxl := fm_le R k
  rw [← hx] at hxl
  refine .call (P := fun x1 => x1 = (List.range (k + 1)).filterMap (lastN R)) (.call (P := fun x1 => x1 = x ++ (lastOf R (k : Int)).toList) ?_ fun x1 h1 => .ok (by rw [fm_succ, ← hx]; exact h1)) fun x1 h1 => .nx ⟨m - 1, by omega, k + 1, w64_succ (by omega), by omega, h1⟩
  refine .iter (fun q v2 => v2 = (q : Int) - 1 ∧ q ≤ R.length ∧ ∀ z ∈ R.drop q, z.Vehicle ≠ (k : Int)) (n := R.length) ⟨w64_id (by omega), Nat.le_refl _, by simp⟩ ?_
  rintro q v2 ⟨rfl, hq, hall⟩
  unfold zq69_L1
  refine .iteP (fun hc2 => ?_) (fun hc2 => ?_)
  ·obtain ⟨e, he⟩ := get_ex (l := R) (i := q - 1) (by omega)
   have hz : idx R ((q : Int) - 1) = some e := by
    rw [show (q : Int) - 1 = ((q - 1 : Nat) : Int) by omega]; exact ixs he
   refine .eq hz (.ite (fun heq => .eq hz (.chk (by simp; omega) (.dn ?_))) fun hne => .nx ⟨q - 1, by omega, ?_, by omega, fun z hz' => ?_⟩)
   ·rw [lastOf_at he (by simpa using heq) (by rw [show q - 1 + 1 = q by omega]; exact hall)]; rfl
   ·rw [w64_id (by omega)]; omega
   ·have hd : R.drop (q - 1) = e :: R.drop q := by
     rw [List.drop_eq_getElem_cons (by omega), show q - 1 + 1 = q by omega]
     congr 1
     exact (List.getElem?_eq_some_iff.1 he).2
    rw [hd] at hz'
    rcases List.mem_cons.1 hz' with rfl | hz'
    ·simpa using hne
    ·exact hall z hz'
  ·have hq0 : q = 0 := by omega
   subst hq0
   refine .dn ?_
   rw [lastOf_none (fun z hz => hall z (by simpa using hz))]
   simp
 rw [e2]; rfl
theorem nowP_ok {k : Nat} {c : l1Cur} (t : Timetable) (h : Cur k c) (hk : k ≤ 1000000) : Tot (zq49 c t) fun r => Cur (k + 100) r.2 := by
 unfold zq49
 refine .call (P := fun o => Cur (k + 10) ⟨o.2.1, o.2.2.1, ⟨o.2.2.2⟩⟩ ∧ (o.1 = true → 0 < t.Trips.length)) ?_ fun ⟨v, v1, v2, v3⟩ ⟨hc, hv⟩ => ?_
 ·exact .iteP (fun h0 => .call (t_one 6 h (by omega)) fun r1 hr1 => .ok ⟨hr1.mono (by omega), fun _ => by omega⟩) (fun _ => .ok ⟨h.mono (by omega), fun h => by cases h⟩)
 ·dsimp only at hc hv
  refine .ite (fun hb => ?_) (fun _ => .call (t_time hc (by omega)) fun r5 hc5 => .ok (hc5.mono (by omega)))
  have h0 := hv hb
  exact .call (t_pick _ hc (by omega)) fun r3 ⟨hc3, h30, h31⟩ => .idx h30 (by omega) fun e _ => .call (t_pick 40 hc3 (by omega)) fun r4 ⟨hc4, _⟩ => .ok (hc4.mono (by omega))
theorem report_ok {k : Nat} {c : l1Cur} {t : Timetable} (hd : DT t) (h : Cur k c) (hk : k ≤ 1000000) (vehicle time : Int) : Tot (zq54 c t vehicle time) fun r => Cur (k + 20) r.2 ∧ (0 < t.Network.Lines.length → 0 ≤ r.1.Line ∧ r.1.Line < (t.Network.Lines.length : Int)) := by
 unfold zq54
 refine .ite (fun h0 => .ok ⟨h.mono (by omega), fun hne => ?_⟩) fun h0 => ?_
 ·have h0' : (t.Network.Lines.length : Int) = 0 := by simpa using h0
  omega
 have h0' : ¬ (t.Network.Lines.length : Int) = 0 := by simpa using h0
 refine .call (t_pick _ h (by omega)) fun r ⟨hc, hr0, hr1⟩ => ?_
 refine .call (P := fun o => Cur (k + 14) ⟨o.1, o.2.1, ⟨o.2.2.1⟩⟩ ∧ 0 ≤ o.2.2.2 ∧ o.2.2.2 < (t.Network.Lines.length : Int)) (.call (P := fun o => Cur (k + 8) ⟨o.2.1, o.2.2.1, ⟨o.2.2.2⟩⟩ ∧ (o.1 = true → 0 < t.Trips.length ∧ GoodT t)) ?_ fun ⟨v4, v5, v6, v7⟩ ⟨hcur, hv⟩ => ?_) fun ⟨v, v1, v2, v3⟩ ⟨hcur2, hl0, hl1⟩ => ?_
 ·exact .iteP (fun hT => .eq (goodT_eq hd.tb) (.iteP (fun hg => .call (t_one 6 hc (by omega)) fun r2 hc2 => .ok ⟨hc2.mono (by omega), fun _ => ⟨by omega, hg⟩⟩) fun _ => .ok ⟨hc.mono (by omega), fun h => by cases h⟩)) fun _ => .ok ⟨hc.mono (by omega), fun h => by cases h⟩
 ·dsimp only at hcur hv
  refine .ite (fun hb => ?_) fun _ => .ok ⟨hcur.mono (by omega), hr0, by dsimp only; omega⟩
  obtain ⟨hT, hg⟩ := hv hb
  refine .call (t_pick _ hcur (by omega)) fun r4 ⟨hc4, h40, h41⟩ => .idx h40 (by omega) fun e he => ?_
  obtain ⟨l, hl, _⟩ := trip_line hg he
  have := idx_some hl
  exact .ok ⟨hc4.mono (by omega), this.1, this.2.1⟩
 dsimp only at hcur2 hl0 hl1
 refine .call (P := fun o => Cur (k + 20) ⟨o.1, o.2.1, ⟨o.2.2.1⟩⟩) ?_ fun ⟨v8, v9, v10, v11⟩ hc3 => .ok ⟨hc3, fun _ => ⟨hl0, hl1⟩⟩
 refine .eq (good_eq _ hd.1) (.iteP (fun hgood => .idx hl0 hl1 fun e he => .eq (l25Long_eq (hgood.2.2.2.2 _ e he)) (.call (t_pick _ hcur2 (by omega)) fun r7 ⟨hc7, _⟩ => .ok (hc7.mono (by omega)))) fun _ => .ok (hcur2.mono (by omega)))
theorem reports_ok {k : Nat} {c : l1Cur} {t : Timetable} (hd : DT t) (h : Cur k c) (hk : k ≤ 100000) : Tot (zq55 c t) fun r => Cur (k + 1000) r.2 := by
 unfold zq55
 refine .call (nowP_ok _ h (by omega)) fun r hc => .call (t_pick 7 hc (by omega)) fun r1 ⟨hc1, h0, h1⟩ => ?_
 refine .call (P := fun o => Cur (k + 500) ⟨o.1, o.2.1, ⟨o.2.2.1⟩⟩) ?_ fun ⟨v9, v10, v11, v12⟩ hc2 => ?_
 ·refine .iter (fun m s => s.2.2.1 = (m : Int) ∧ m ≤ 7 ∧ s.2.2.2.2.2.2.length + m ≤ 7 ∧ Cur (k + 110 + 40 * (7 - m)) ⟨s.2.2.2.1, s.2.2.2.2.1, ⟨s.2.2.2.2.2.1⟩⟩) (n := r1.1.toNat) ⟨by show r1.1 = _; omega, by omega, by show 0 + r1.1.toNat ≤ 7; omega, hc1.mono (by omega)⟩ ?_
  rintro m ⟨n, kk, x, v, v1, v2, v3⟩ ⟨hv, hm, hl, hcur⟩
  simp only at hv hl hcur
  unfold zq55_L1
  refine .call (P := fun b => b = true → 0 < m) (.iteP (fun h0 => .eq (l4Time_eq _) (.ok fun _ => by omega)) fun _ => .ok fun h => by cases h) fun b hb => .ite (fun hb1 => ?_) fun _ => .dn (hcur.mono (by omega))
  have hm0 := hb hb1
  refine .call (P := fun o => Cur (k + 110 + 40 * (7 - m) + 36) ⟨o.2.2.1, o.2.2.2.1, ⟨o.2.2.2.2.1⟩⟩ ∧ o.2.2.2.2.2.length = v3.length + 1) ?_ fun ⟨n1, k1, v5, v6, v7, v8⟩ ⟨hc7, hl7⟩ => .nx ⟨m - 1, by omega, ?_, by omega, ?_, hc7.mono (by omega)⟩
  ·refine .call (t_pick 2 hcur (by omega)) fun r3 ⟨hc3, _⟩ => .call (report_ok hd hc3 (by omega) _ _) fun r4 ⟨hc4, _⟩ => .chk (by simp; omega) (.call (t_one 3 hc4 (by omega)) fun r5 hc5 => .ite (fun _ => .call (t_among _ (by simp) hc5 (by omega)) fun r6 ⟨hc6, _⟩ => .ok ⟨hc6.mono (by omega), by simp⟩) fun _ => .ok ⟨hc5.mono (by omega), by simp⟩)
  ·show w64 (x - 1) = _
   rw [hv, w64_id (by omega)]; omega
  ·simp only at hl7
   show v8.length + (m - 1) ≤ 7
   omega
 ·dsimp only at hc2
  refine .ite (fun _ => .ok (hc2.mono (by omega))) fun hne => ?_
  have hne' : ¬ (v12.length : Int) = 0 := by simpa using hne
  refine .call (t_pick _ hc2 (by omega)) fun r7 ⟨hc7, h70, h71⟩ => .idx h70 (by omega) fun e he => ?_
  refine .call (P := fun o => Cur (k + 900) ⟨o.1, o.2.1, ⟨o.2.2.1⟩⟩) ?_ fun ⟨v13, v14, v15, v16, v17, v18⟩ hc8 => .idx h70 (by omega) fun e1 _ => .ok (hc8.mono (by omega))
  refine .call (t_pick 40 hc7 (by omega)) fun r8 ⟨hc8, _⟩ => .ite (fun _ => .call (t_among _ (by simp) hc8 (by omega)) fun r9 ⟨hc9, _⟩ => .ok (hc9.mono (by omega))) fun _ => .ite (fun _ => .call (t_among _ (by simp) hc8 (by omega)) fun r9 ⟨hc9, _⟩ => .ok (hc9.mono (by omega))) fun _ => .ite (fun _ => .call (t_among _ (by simp) hc8 (by omega)) fun r9 ⟨hc9, _⟩ => .ok (hc9.mono (by omega))) fun _ => .ok (hc8.mono (by omega))
theorem limit_ok {k : Nat} {c : l1Cur} (h : Cur k c) (hk : k ≤ 1000000) : Tot (zq43 c) fun r => Cur (k + 10) r.2 := by
 unfold zq43
 refine .call (t_pick 24 h (by omega)) fun r ⟨hc, h0, h1⟩ => .chk (by omega) ?_
 have hq : 0 ≤ r.1.tdiv 11 ∧ r.1.tdiv 11 ≤ 2 := by
  rw [Int.tdiv_eq_ediv_of_nonneg h0]; omega
 have w : w64 (5 + w64 (r.1.tdiv 11)) = 5 + r.1.tdiv 11 := by rw [w64_id (x := r.1.tdiv 11) (by omega), w64_id (by omega)]
 rw [w]
 refine .chk ⟨by omega, by omega, by simp; omega⟩ (.call (t_among _ ?_ hc (by omega)) fun r1 ⟨hc1, _⟩ => .ok (hc1.mono (by omega)))
 intro hnil
 have := congrArg List.length hnil
 simp at this
 omega
section
variable {α : Type} (cf : α → α → Bool)
def greedy (out : List α) (S : List α) : List α := S.foldl (fun out m => if out.any (cf m) then out else out ++ [m]) out
inductive Run1 (S : List α) : List α → List α → Prop
 | stop {out : List α} : S.find? (fun m => !out.any (cf m)) = none → Run1 S out out
 | step {out f : List α} {m : α} : S.find? (fun m => !out.any (cf m)) = some m → Run1 S (out ++ [m]) f → Run1 S out f
theorem greedy_run (hr : ∀ m, cf m m = true) (S : List α) : ∀ (rest P out : List α), S = P ++ rest → (∀ p ∈ P, out.any (cf p) = true) → Run1 cf S out (greedy cf out rest)
 | [], P, out, hS, hP => by
  refine .stop ?_
  rw [List.find?_eq_none]
  intro m hm
  rw [hS, List.append_nil] at hm
  simp [hP m hm]
 | m :: rest, P, out, hS, hP => by
  by_cases h : out.any (cf m) = true
  ·have ih := greedy_run hr S rest (P ++ [m]) out (by rw [hS]; simp) (fun p hp => by
    rcases List.mem_append.1 hp with hp | hp
    ·exact hP p hp
    ·rw [List.mem_singleton.1 hp]; exact h)
   have e : greedy cf out (m :: rest) = greedy cf out rest := by
    show List.foldl _ (if out.any (cf m) = true then out else out ++ [m]) rest = _
    rw [if_pos h]; rfl
   rw [e]; exact ih
  ·have ih := greedy_run hr S rest (P ++ [m]) (out ++ [m]) (by rw [hS]; simp) (fun p hp => by
    rw [List.any_append]
    rcases List.mem_append.1 hp with hp | hp
    ·simp [hP p hp]
    ·rw [List.mem_singleton.1 hp]; simp [hr m])
   have e : greedy cf out (m :: rest) = greedy cf (out ++ [m]) rest := by
    show List.foldl _ (if out.any (cf m) = true then out else out ++ [m]) rest = _
    rw [if_neg h]; rfl
   rw [e]
   refine .step ?_ ih
   have h' : (!out.any (cf m)) = true := by simpa using h
   rw [hS, List.find?_append]
   have hn : P.find? (fun m => !out.any (cf m)) = none := by
    rw [List.find?_eq_none]
    intro p hp
    simp [hP p hp]
   rw [hn, Option.none_or, List.find?_cons]
   simp only [h']
theorem find_least {lt : α → α → Prop} {S : List α} (hs : S.Pairwise fun a b => ¬ lt b a) (hirr : ∀ a, ¬ lt a a) {p : α → Bool} {a : α} (h : S.find? p = some a) : a ∈ S ∧ p a = true ∧ ∀ m ∈ S, p m = true → ¬ lt m a := by
 refine ⟨List.mem_of_find?_eq_some h, List.find?_some h, ?_⟩
 induction S with
 | nil => cases h
 | cons x S ih =>
  rw [List.find?_cons] at h
  rw [List.pairwise_cons] at hs
  cases hx : p x with
  | true =>
   rw [hx] at h
   simp only [Option.some.injEq] at h
   subst h
   intro m hm _
   rcases List.mem_cons.1 hm with rfl | hm
   ·exact hirr _
   ·exact hs.1 m hm
  | false =>
   rw [hx] at h
   intro m hm hpm
   rcases List.mem_cons.1 hm with rfl | hm
   ·rw [hx] at hpm; cases hpm
   ·exact ih hs.2 h m hm hpm
theorem greedy_mem {S : List α} : ∀ {out : List α} {x : α}, x ∈ greedy cf out S → x ∈ out ∨ x ∈ S := by
 induction S with
 | nil => intro out x h; exact .inl h
 | cons m S ih =>
  intro out x h
  have h : x ∈ greedy cf (if out.any (cf m) = true then out else out ++ [m]) S := h
  rcases ih h with h | h
  ·split at h
   ·exact .inl h
   ·rcases List.mem_append.1 h with h | h
    ·exact .inl h
    ·exact .inr (by rw [List.mem_singleton.1 h]; exact List.mem_cons_self ..)
  ·exact .inr (List.mem_cons_of_mem _ h)
theorem greedy_apart {S : List α} : ∀ {out : List α}, out.Pairwise (fun a b => cf b a = false) → (greedy cf out S).Pairwise fun a b => cf b a = false := by
 induction S with
 | nil => intro out h; exact h
 | cons m S ih =>
  intro out h
  show (greedy cf (if out.any (cf m) = true then out else out ++ [m]) S).Pairwise _
  refine ih ?_
  split
  ·exact h
  ·rename_i hn
   rw [List.pairwise_append]
   refine ⟨h, List.pairwise_singleton _ _, fun a ha b hb => ?_⟩
   rw [List.mem_singleton.1 hb]
   have := hn
   simp only [List.any_eq_true, not_exists, not_and, Bool.not_eq_true] at this
   exact this a ha
end
def fA (x : Int) : Int := if w64 (0 - x) > x then w64 (0 - x) else x
theorem absI_all (x : Int) : zq12 x = some (fA x) := by unfold zq12 fA; rfl
theorem fA_eq {x : Int} (h : -10000 ≤ x ∧ x ≤ 10000) : fA x = ab x := by
 have h1 := absI_all x
 rw [absI_eq h] at h1
 exact (Option.some.inj h1).symm
theorem or3_eq (a b c : Int) : zq1 [a, b, c] = some (if a ≠ 0 then a else if b ≠ 0 then b else c) := by
 have hz : idx [a, b, c] 0 = some a ∧ idx [a, b, c] 1 = some b ∧ idx [a, b, c] 2 = some c := ⟨rfl, rfl, rfl⟩
 have w1 : w64 1 = 1 := rfl
 have w2 : w64 2 = 2 := rfl
 have w3 : w64 3 = 3 := rfl
 unfold zq1
 by_cases ha : a = 0
 ·have s1 : zq1_L1 [a, b, c] 0 = some (.nx 1) := by unfold zq1_L1; dsimp only; rw [hz.1]; simp [ha, w1]
  by_cases hb : b = 0
  ·have s2 : zq1_L1 [a, b, c] 1 = some (.nx 2) := by unfold zq1_L1; dsimp only; rw [hz.2.1]; simp [hb, w2]
   by_cases hc : c = 0
   ·have s3 : zq1_L1 [a, b, c] 2 = some (.nx 3) := by unfold zq1_L1; dsimp only; rw [hz.2.2]; simp [hc, w3]
    have s4 : zq1_L1 [a, b, c] 3 = some (.dn (.go ())) := by unfold zq1_L1; simp
    rw [iter_nx s1, iter_nx s2, iter_nx s3, iter_dn s4]
    simp [ha, hb, hc]
   ·have s3 : zq1_L1 [a, b, c] 2 = some (.dn (.ret c)) := by unfold zq1_L1; dsimp only; rw [hz.2.2]; simp [hc]
    rw [iter_nx s1, iter_nx s2, iter_dn s3]
    simp [ha, hb]
  ·have s2 : zq1_L1 [a, b, c] 1 = some (.dn (.ret b)) := by unfold zq1_L1; dsimp only; rw [hz.2.1]; simp [hb]
   rw [iter_nx s1, iter_dn s2]
   simp [ha, hb]
 ·have s1 : zq1_L1 [a, b, c] 0 = some (.dn (.ret a)) := by unfold zq1_L1; dsimp only; rw [hz.1]; simp [ha]
  rw [iter_dn s1]
  simp [ha]
def kle (a b : Match) : Prop := fA a.Delay < fA b.Delay ∨ (fA a.Delay = fA b.Delay ∧ (a.Vehicle < b.Vehicle ∨ (a.Vehicle = b.Vehicle ∧ a.Id ≤ b.Id)))
theorem lt_pairs : Pdq.Lt zq28 kle := by
 refine ⟨fun x y => by unfold kle; omega, fun {x y z} h1 h2 => by unfold kle at *; omega, fun x y => ?_⟩
 unfold zq28
 simp only [absI_all, compare_int, or3_eq, Option.bind_some]
 refine ⟨_, rfl, ?_⟩
 unfold kle
 by_cases h1 : fA x.Delay < fA y.Delay
 ·simp [h1]; omega
 ·by_cases h2 : fA y.Delay < fA x.Delay
  ·simp [h1, h2]
  ·have h3 : fA x.Delay = fA y.Delay := by omega
   by_cases h4 : x.Vehicle < y.Vehicle
   ·simp [h3, h4]; omega
   ·by_cases h5 : y.Vehicle < x.Vehicle
    ·simp [h3, h4, h5]
    ·have h6 : x.Vehicle = y.Vehicle := by omega
     by_cases h7 : x.Id < y.Id
     ·simp [h3, h6, h7]
     ·by_cases h8 : y.Id < x.Id
      ·simp [h3, h6, h7, h8]
      ·simp [h3, h6, h7, h8]
theorem pdqk_pairs : ∀ n, zq135_k n = Pdq.pdq_k zq122 zq149 zq28 n
 | 0 => rfl
 | n + 1 => by
  show zq135_F (zq135_k n) = Pdq.pdq_F zq122 zq149 zq28 (Pdq.pdq_k zq122 zq149 zq28 n)
  rw [pdqk_pairs n]
  rfl
theorem sort_pairs (l : List Match) (h : l.length < 4294967296) : Tot (zq100 l) fun l' => l'.Perm l ∧ l'.Pairwise kle := by
 unfold zq100
 refine Tot.call (len_ok _ (by dsimp only; rw [u64_id' (by omega) (by omega)]; omega) (by dsimp only; rw [u64_id' (by omega) (by omega)]; omega)) fun r _ => ?_
 unfold zq135
 rw [pdqk_pairs]
 exact Tot.call (Pdq.pdq_ok lt_pairs hlp (limit := r) h) fun l' hl' => .ok hl'
def vle (a b : Match) : Prop := a.Vehicle ≤ b.Vehicle
theorem lt_veh : Pdq.Lt zq30 vle := by
 refine ⟨fun x y => by unfold vle; omega, fun {x y z} h1 h2 => by unfold vle at *; omega, fun x y => ?_⟩
 unfold zq30
 simp only [compare_int, Option.bind_some]
 refine ⟨_, rfl, ?_⟩
 unfold vle
 by_cases h1 : x.Vehicle < y.Vehicle
 ·simp [h1]
 ·by_cases h2 : y.Vehicle < x.Vehicle <;> simp [h1, h2] <;> omega
theorem pdqk_veh : ∀ n, zq136_k n = Pdq.pdq_k zq122 zq149 zq30 n
 | 0 => rfl
 | n + 1 => by
  show zq136_F (zq136_k n) = Pdq.pdq_F zq122 zq149 zq30 (Pdq.pdq_k zq122 zq149 zq30 n)
  rw [pdqk_veh n]
  rfl
theorem sort_veh (l : List Match) (h : l.length < 4294967296) : Tot (zq101 l) fun l' => l'.Perm l ∧ l'.Pairwise vle := by
 unfold zq101
 refine Tot.call (len_ok _ (by dsimp only; rw [u64_id' (by omega) (by omega)]; omega) (by dsimp only; rw [u64_id' (by omega) (by omega)]; omega)) fun r _ => ?_
 unfold zq136
 rw [pdqk_veh]
 exact Tot.call (Pdq.pdq_ok lt_veh hlp (limit := r) h) fun l' hl' => .ok hl'
theorem contains_val (s : List Match) (hs : s.length ≤ 1000000) (p : Match → Bool) (f : Match → Option Bool) (hf : ∀ x, f x = some (p x)) : zq90 s f = some (s.any p) := by
 unfold zq90 zq94
 rw [find_val s p (fun i x hx => ?_) (by unfold zq94_L1; simp)]
 ·simp only [Option.bind_some, Option.some.injEq]
  rcases fixI_rng p s with ⟨h1, h2⟩ | ⟨h1, h2⟩
  ·by_cases h0 : fixI p s < 0
   ·have := fixI_neg h0
    have h3 : s.any p = false := by simpa using this
    have h4 : ¬ 0 ≤ fixI p s := by omega
    simp [h3, h4]
   ·obtain ⟨k, x, _, hx, hpx, _⟩ := idx_fix h0
    have h3 : s.any p = true := List.any_eq_true.2 ⟨x, List.mem_of_getElem? hx, hpx⟩
    have h4 : 0 ≤ fixI p s := by omega
    simp [h3, h4]
  ·subst h1; rw [h2]; rfl
 ·have := get_lt hx
  unfold zq94_L1
  simp (disch := omega) only [if_pos, if_neg, decide_eq_true_eq, decide_true, decide_false, Bool.not_true, Bool.not_false, Bool.false_eq_true, Bool.not_eq_true', decide_eq_false_iff_not, if_true, if_false, w64_id, chk_of, idx_nat, Option.bind_some, Option.map_some, Int.toNat_natCast, not_true_eq_false, not_false_eq_true, true_and, and_true, and_self, false_and, and_false, reduceIte, flb_go, flb_ret, beq_self_eq_true, ne_eq, bne_self_eq_false, hx, Int.ofNat_lt.2 this, hf]
  split <;> simp [*] <;> omega
def inLim (limit : Int) (m : Match) : Bool := decide (ab m.Delay ≤ limit)
def pairsOf (T : List Trip) (limit : Int) (R : List Report) : List Match := R.flatMap fun r => (fitQ T r).filter (inLim limit)
def RB (R : List Report) : Prop := ∀ r ∈ R, (1 ≤ r.Vehicle ∧ r.Vehicle ≤ 99) ∧ (0 ≤ r.Time ∧ r.Time ≤ 1799) ∧ 0 ≤ r.Done ∧ r.Done ≤ 300
theorem fitQ_mem {T : List Trip} {r : Report} {m : Match} (h : m ∈ fitQ T r) : ∃ x ∈ T, x.Line = r.Line ∧ m = mkM r x := by
 have h1 := (Pdq.isort_perm _).mem_iff.1 (show m ∈ Pdq.isort fLt (fits T r) from h)
 unfold fits at h1
 obtain ⟨x, hx, rfl⟩ := List.mem_map.1 h1
 rw [List.mem_filter] at hx
 exact ⟨x, hx.1, by simpa using hx.2, rfl⟩
theorem fitQ_U {t : Timetable} (hg : GoodT t) {r : Report} (hr : (1 ≤ r.Vehicle ∧ r.Vehicle ≤ 99) ∧ (0 ≤ r.Time ∧ r.Time ≤ 1799) ∧ 0 ≤ r.Done ∧ r.Done ≤ 300) : ∀ m ∈ fitQ t.Trips r, UM m ∧ m.Vehicle = r.Vehicle := by
 intro m hm
 exact fits_U hg hr.2.1 hr.2.2 m ((Pdq.isort_perm _).mem_iff.1 (show m ∈ Pdq.isort fLt (fits t.Trips r) from hm))
theorem pairs_U {t : Timetable} (hg : GoodT t) {R : List Report} (hR : RB R) (limit : Int) : ∀ m ∈ pairsOf t.Trips limit R, UM m ∧ 1 ≤ m.Vehicle ∧ ab m.Delay ≤ limit := by
 intro m hm
 unfold pairsOf at hm
 obtain ⟨r, hr, hm⟩ := List.mem_flatMap.1 hm
 rw [List.mem_filter] at hm
 have h1 := fitQ_U hg (hR r hr) m hm.1
 have h2 := (hR r hr).1
 exact ⟨h1.1, by omega, by simpa [inLim] using hm.2⟩
theorem pairs_len {T : List Trip} (hT : T.length ≤ 12) (limit : Int) (R : List Report) : (pairsOf T limit R).length ≤ 12 * R.length := by
 refine flatMap_le _ 12 R fun r _ => Nat.le_trans (List.length_filter_le ..) (Nat.le_trans fitQ_len hT)
theorem mtI_L1 {limit : Int} {Q : List Match} (hU : ∀ m ∈ Q, UM m) (hQ : Q.length ≤ 12) (P : List Match) (hP : P.length ≤ 100000) : iter (zq27_L1 limit Q) ((0 : Int), P) = some (P ++ Q.filter (inLim limit)) := by
 refine Tot.val (.iter (fun q s => ∃ k : Nat, s.1 = (k : Int) ∧ q + k = Q.length ∧ s.2 = P ++ (Q.take k).filter (inLim limit)) (n := Q.length) ⟨0, rfl, rfl, by simp⟩ ?_)
 rintro q ⟨v, x⟩ ⟨k, hk, hm, hx⟩
 simp only at hk hx
 subst hk
 unfold zq27_L1
 refine .iteP (fun hc => ?_) (fun hc => .dn (by rw [hx, List.take_of_length_le (by omega)]))
 obtain ⟨e, he⟩ := get_ex (l := Q) (i := k) (by omega)
 have hxl : x.length ≤ 100000 + 12 := by
  rw [hx, List.length_append]
  have := List.length_filter_le (inLim limit) (Q.take k)
  have h2 : (Q.take k).length ≤ 12 := by rw [List.length_take]; omega
  omega
 refine .call (P := fun x1 => x1 = P ++ (Q.take (k + 1)).filter (inLim limit)) (.eq (ixs he) (.eq (absI_eq (hU e (List.mem_of_getElem? he))) (.iteP (fun h => .chk (by simp; omega) (.ok ?_)) fun h => .ok ?_))) fun x1 h1 => .nx ⟨q - 1, by omega, k + 1, w64_succ (by omega), by omega, h1⟩
 ·have hi : inLim limit e = true := by simp [inLim, h]
  rw [take_succ he, List.filter_append, hx]; simp [hi]
 ·have hi : inLim limit e = false := by simp [inLim, h]
  rw [take_succ he, List.filter_append, hx]; simp [hi]
theorem mtI_L2 {t : Timetable} (hg : GoodT t) {R : List Report} (hR : RB R) (hl : R.length ≤ 1000) (limit : Int) : iter (zq27_L2 t limit R) ((0 : Int), ([] : List Match)) = some (pairsOf t.Trips limit R) := by
 have h12 := hg.2.1
 refine Tot.val (.iter (fun q s => ∃ k : Nat, s.1 = (k : Int) ∧ q + k = R.length ∧ s.2 = pairsOf t.Trips limit (R.take k)) (n := R.length) ⟨0, rfl, rfl, rfl⟩ ?_)
 rintro q ⟨v, x⟩ ⟨k, hk, hm, hx⟩
 simp only at hk hx
 subst hk
 unfold zq27_L2
 refine .iteP (fun hc => ?_) (fun hc => .dn (by rw [hx, List.take_of_length_le (by omega)]))
 obtain ⟨e, he⟩ := get_ex (l := R) (i := k) (by omega)
 have hre := hR e (List.mem_of_getElem? he)
 have hpl := pairs_len (T := t.Trips) h12 limit (R.take k)
 rw [List.length_take] at hpl
 have hi := mtI_L1 (limit := limit) (fun m hm => (fitQ_U hg hre m hm).1) (Nat.le_trans fitQ_len h12) x (by rw [hx]; omega)
 refine .eq (ixs he) (.eq (fitI hg hre.2.1 hre.2.2) (.eq hi (.nx ⟨q - 1, by omega, k + 1, w64_succ (by omega), by omega, ?_⟩)))
 show x ++ _ = _
 unfold pairsOf
 rw [flatMap_take _ he, hx]; rfl
def cfM (m n : Match) : Bool := n.Vehicle == m.Vehicle || n.Id == m.Id
theorem cfM_self (m : Match) : cfM m m = true := by simp [cfM]
theorem conf_val (out : List Match) (ho : out.length ≤ 1000000) (m : Match) : zq93 out m = some (out.any (cfM m)) := by
 unfold zq93
 refine contains_val out ho (cfM m) _ fun x => ?_
 unfold zq29 cfM
 by_cases h : (x.Vehicle == m.Vehicle) = true
 ·simp [h]
 ·simp [h]
theorem mtI_L3 {S : List Match} (hS : S.length ≤ 100000) : iter (zq27_L3 S) ((0 : Int), ([] : List Match)) = some (greedy cfM [] S) := by
 have gl : ∀ (l out : List Match), (greedy cfM out l).length ≤ out.length + l.length := by
  intro l
  induction l with
  | nil => intro out; exact Nat.le_refl _
  | cons m l ih =>
   intro out
   show (greedy cfM (if out.any (cfM m) = true then out else out ++ [m]) l).length ≤ _
   refine Nat.le_trans (ih _) ?_
   split <;> simp <;> omega
 have gs : ∀ (l l' out : List Match), greedy cfM out (l ++ l') = greedy cfM (greedy cfM out l) l' := fun l l' out => by unfold greedy; rw [List.foldl_append]
 refine Tot.val (.iter (fun q s => ∃ k : Nat, s.1 = (k : Int) ∧ q + k = S.length ∧ s.2 = greedy cfM [] (S.take k)) (n := S.length) ⟨0, rfl, rfl, rfl⟩ ?_)
 rintro q ⟨v, x⟩ ⟨k, hk, hm, hx⟩
 simp only at hk hx
 subst hk
 unfold zq27_L3
 refine .iteP (fun hc => ?_) (fun hc => .dn (by rw [hx, List.take_of_length_le (by omega)]))
 obtain ⟨e, he⟩ := get_ex (l := S) (i := k) (by omega)
 have hxl := gl (S.take k) []
 rw [← hx, List.length_take] at hxl
 simp only [List.length_nil] at hxl
 have hstep : greedy cfM [] (S.take (k + 1)) = if x.any (cfM e) = true then x else x ++ [e] := by
  rw [take_succ he, gs, ← hx]; rfl
 refine .call (P := fun x1 => x1 = greedy cfM [] (S.take (k + 1))) (.eq (ixs he) (.eq (conf_val x (by omega) e) ?_)) fun x1 h1 => .nx ⟨q - 1, by omega, k + 1, w64_succ (by omega), by omega, h1⟩
 rw [hstep]
 by_cases h : x.any (cfM e) = true
 ·simp only [h, Bool.not_true, Bool.false_eq_true, if_false, if_true]
  exact .ok rfl
 ·have h' : x.any (cfM e) = false := by simpa using h
  simp only [h', Bool.not_false, Bool.false_eq_true, if_false, if_true]
  exact .chk (by simp; omega) (.ok rfl)
theorem matchI {t : Timetable} (hg : GoodT t) {list : List Report} (hv : VB list) (hR : RB (lastL list)) (limit : Int) : Tot (zq27 t list limit) fun M => ∃ S, S.Perm (pairsOf t.Trips limit (lastL list)) ∧ S.Pairwise kle ∧ M.Perm (greedy cfM [] S) ∧ M.Pairwise vle := by
 have hll : (lastL list).length ≤ 100 := fm_le list 100
 have hpl := pairs_len (T := t.Trips) hg.2.1 limit (lastL list)
 unfold zq27
 refine .eq (lastI hv) (.eq (mtI_L2 hg hR (by omega) limit) (.call (sort_pairs _ (by omega)) fun S ⟨h1, h2⟩ => ?_))
 have hSl := h1.length_eq
 refine .eq (mtI_L3 (S := S) (by omega)) (.call (P := fun M => M.Perm (greedy cfM [] S) ∧ M.Pairwise vle) (sort_veh _ ?_) fun M ⟨h3, h4⟩ => .ok ⟨S, h1, h2, h3, h4⟩)
 have : ∀ (l out : List Match), (greedy cfM out l).length ≤ out.length + l.length := by
  intro l
  induction l with
  | nil => intro out; exact Nat.le_refl _
  | cons m l ih =>
   intro out
   show (greedy cfM (if out.any (cfM m) = true then out else out ++ [m]) l).length ≤ _
   refine Nat.le_trans (ih _) ?_
   split <;> simp <;> omega
 have := this S []
 simp only [List.length_nil] at this
 omega
def btr (a b : Match) : Prop := ab a.Delay < ab b.Delay ∨ (ab a.Delay = ab b.Delay ∧ (a.Vehicle < b.Vehicle ∨ (a.Vehicle = b.Vehicle ∧ a.Id < b.Id)))
noncomputable instance (a b : Match) : Decidable (btr a b) := Classical.propDecidable _
theorem better_eq {a b : Match} (ha : UM a) (hb : UM b) : zq66 a b = some (decide (btr a b)) := by
 unfold zq66 btr
 rw [absS_eq ha, absS_eq hb]
 simp only [Option.bind_some]
 by_cases h1 : ab a.Delay < ab b.Delay
 ·simp [h1]
 ·by_cases h2 : ab a.Delay = ab b.Delay
  ·by_cases h3 : a.Vehicle < b.Vehicle
   ·simp [h2, h3]
   ·by_cases h4 : a.Vehicle = b.Vehicle
    ·by_cases h5 : a.Id < b.Id <;> simp [h2, h4, h5]
    ·simp [h2, h3, h4]
  ·simp [h1, h2]
def trM (m : Match) : Int × Int × Int := (m.Vehicle, m.Id, m.Delay)
def okM (limit : Int) (V I : List Int) (m : Match) : Bool := decide (ab m.Delay ≤ limit) && (!decide (m.Vehicle ∈ V) && !decide (m.Id ∈ I))
def BI (ok : Match → Bool) (P : List Match) (b : Int × Int × Int) : Prop := (b = (0, 0, 0) ∧ ∀ m ∈ P, ok m = false) ∨ ∃ m ∈ P, ok m = true ∧ b = trM m ∧ ∀ m' ∈ P, ok m' = true → ¬ btr m' m
theorem bi_keep {ok : Match → Bool} {P : List Match} {b : Int × Int × Int} {e : Match} (h : BI ok P b) (he : ok e = false) : BI ok (P ++ [e]) b := by
 rcases h with ⟨h1, h2⟩ | ⟨m, h1, h2, h3, h4⟩
 ·refine .inl ⟨h1, fun m hm => ?_⟩
  rcases List.mem_append.1 hm with hm | hm
  ·exact h2 m hm
  ·rw [List.mem_singleton.1 hm]; exact he
 ·refine .inr ⟨m, List.mem_append_left _ h1, h2, h3, fun m' hm' hok => ?_⟩
  rcases List.mem_append.1 hm' with hm' | hm'
  ·exact h4 m' hm' hok
  ·rw [List.mem_singleton.1 hm'] at hok; rw [he] at hok; cases hok
theorem btr_irr (a : Match) : ¬ btr a a := by unfold btr; omega
theorem bi_step {limit : Int} {V I : List Int} (hV : V.length ≤ 100000) (hI : I.length ≤ 100000) {P : List Match} {v4 v5 v6 : Int} {e : Match} (he : UM e ∧ 1 ≤ e.Vehicle) (hP : ∀ m ∈ P, UM m ∧ 1 ≤ m.Vehicle) (h : BI (okM limit V I) P (v4, v5, v6)) :
  Tot ((zq64 e.Delay).bind fun r3 => (if (decide (limit < r3)) = true then some true else (zq58 V e.Vehicle).bind fun r4 => if r4 = true then some true else (zq58 I e.Id).bind fun r5 => some r5).bind fun (v10 : Bool) =>
   if v10 = true then some (v4, v5, v6) else (if (v4 == 0) = true then some true else (zq66 e (⟨v4, v5, v6⟩ : Match)).bind fun r6 => some r6).bind fun (v11 : Bool) => if v11 = true then some (e.Vehicle, e.Id, e.Delay) else some (v4, v5, v6)) fun b => BI (okM limit V I) (P ++ [e]) b := by
 have key : (if (decide (limit < ab e.Delay)) = true then some true else (zq58 V e.Vehicle).bind fun r4 => if r4 = true then some true else (zq58 I e.Id).bind fun r5 => some r5) = some (!okM limit V I e) := by
  rw [l1Has_eq V hV, l1Has_eq I hI]
  unfold okM
  by_cases h1 : limit < ab e.Delay
  ·have h2 : ¬ ab e.Delay ≤ limit := by omega
   simp [h1, h2]
  ·have h2 : ab e.Delay ≤ limit := by omega
   by_cases h3 : e.Vehicle ∈ V <;> by_cases h4 : e.Id ∈ I <;> simp [h1, h2, h3, h4]
 refine .eq (absS_eq he.1) (.eq key ?_)
 cases hok : okM limit V I e with
 | false =>
  simp only [Bool.not_false, if_true]
  exact .ok (bi_keep h hok)
 | true =>
  simp only [Bool.not_true, Bool.false_eq_true, if_false]
  rcases h with ⟨h1, h2⟩ | ⟨m, h1, h2, h3, h4⟩
  ·cases h1
   simp only [beq_self_eq_true, if_true, Option.bind_some]
   refine .ok (.inr ⟨e, by simp, hok, rfl, fun m' hm' hok' => ?_⟩)
   rcases List.mem_append.1 hm' with hm' | hm'
   ·rw [h2 m' hm'] at hok'; cases hok'
   ·rw [List.mem_singleton.1 hm']; exact btr_irr e
  ·cases h3
   have hm := hP m h1
   have h0 : (m.Vehicle == 0) = false := by simp; omega
   simp only [h0, Bool.false_eq_true, if_false]
   refine .call (P := fun v11 => v11 = decide (btr e m)) (.eq (better_eq he.1 (show UM ⟨m.Vehicle, m.Id, m.Delay⟩ from hm.1)) (.ok rfl)) fun v11 h11 => ?_
   subst h11
   refine .iteP (fun hb => .ok (.inr ⟨e, by simp, hok, rfl, fun m' hm' hok' => ?_⟩)) (fun hb => .ok (.inr ⟨m, by simp [h1], h2, rfl, fun m' hm' hok' => ?_⟩))
   ·rcases List.mem_append.1 hm' with hm' | hm'
    ·intro hc
     refine h4 m' hm' hok' ?_
     unfold btr at *; omega
    ·rw [List.mem_singleton.1 hm']; exact btr_irr e
   ·rcases List.mem_append.1 hm' with hm' | hm'
    ·exact h4 m' hm' hok'
    ·rw [List.mem_singleton.1 hm']; exact hb
theorem mtS_L1 {limit : Int} {V I : List Int} (hV : V.length ≤ 100000) (hI : I.length ≤ 100000) {Q P : List Match} (hQ : ∀ m ∈ Q, UM m ∧ 1 ≤ m.Vehicle) (hP : ∀ m ∈ P, UM m ∧ 1 ≤ m.Vehicle) (hl : Q.length ≤ 12) {b : Int × Int × Int} (h : BI (okM limit V I) P b) :
  Tot (iter (zq71_L1 limit V I Q) ((0 : Int), b)) fun b' => BI (okM limit V I) (P ++ Q) b' := by
 refine .iter (fun q s => ∃ k : Nat, s.1 = (k : Int) ∧ q + k = Q.length ∧ BI (okM limit V I) (P ++ Q.take k) s.2) (n := Q.length) ⟨0, rfl, rfl, by simpa using h⟩ ?_
 rintro q ⟨v, v4, v5, v6⟩ ⟨k, hk, hm, hx⟩
 simp only at hk hx
 subst hk
 unfold zq71_L1
 refine .iteP (fun hc => ?_) (fun hc => .dn (by rw [List.take_of_length_le (by omega)] at hx; exact hx))
 obtain ⟨e, he⟩ := get_ex (l := Q) (i := k) (by omega)
 refine .call (P := fun b' => BI (okM limit V I) (P ++ Q.take (k + 1)) b') (.eq (ixs he) ?_) fun b' hb' => .nx ⟨q - 1, by omega, k + 1, w64_succ (by omega), by omega, hb'⟩
 rw [take_succ he, ← List.append_assoc]
 refine bi_step hV hI (hQ e (List.mem_of_getElem? he)) (fun m hm => ?_) hx
 rcases List.mem_append.1 hm with hm | hm
 ·exact hP m hm
 ·exact hQ m (List.mem_of_mem_take hm)
theorem mtS_L2 {t : Timetable} (hg : GoodT t) {limit : Int} {V I : List Int} (hV : V.length ≤ 100000) (hI : I.length ≤ 100000) {R : List Report} (hR : RB R) (hl : R.length ≤ 1000) :
  Tot (iter (zq71_L2 t limit R V I) ((0 : Int), (0 : Int), (0 : Int), (0 : Int))) fun b => BI (okM limit V I) (R.flatMap (fitQ t.Trips)) b := by
 have hall : ∀ k, ∀ m ∈ (R.take k).flatMap (fitQ t.Trips), UM m ∧ 1 ≤ m.Vehicle := fun k m hm => by
  obtain ⟨r, hr, hm⟩ := List.mem_flatMap.1 hm
  have hrb := hR r (List.mem_of_mem_take hr)
  have := fitQ_U hg hrb m hm
  exact ⟨this.1, by omega⟩
 refine .iter (fun q s => ∃ k : Nat, s.1 = (k : Int) ∧ q + k = R.length ∧ BI (okM limit V I) ((R.take k).flatMap (fitQ t.Trips)) s.2) (n := R.length) ⟨0, rfl, rfl, .inl ⟨rfl, by simp⟩⟩ ?_
 rintro q ⟨v, v4, v5, v6⟩ ⟨k, hk, hm, hx⟩
 simp only at hk hx
 subst hk
 unfold zq71_L2
 refine .iteP (fun hc => ?_) (fun hc => .dn (by rw [List.take_of_length_le (by omega)] at hx; exact hx))
 obtain ⟨e, he⟩ := get_ex (l := R) (i := k) (by omega)
 have hre := hR e (List.mem_of_getElem? he)
 refine .eq (ixs he) (.eq (fitS hg hre.2.1 hre.2.2) (.call (mtS_L1 hV hI (fun m hm => ?_) (hall k) (Nat.le_trans fitQ_len hg.2.1) hx) fun b' hb' => .nx ⟨q - 1, by omega, k + 1, w64_succ (by omega), by omega, ?_⟩))
 ·have := fitQ_U hg hre m hm
  exact ⟨this.1, by omega⟩
 ·rw [flatMap_take _ he]; exact hb'
def vLt (a b : Match) : Bool := decide (a.Vehicle < b.Vehicle)
theorem mtS_L3 {o : List Match} (ho : o.length ≤ 100000) (m : Match) : Tot (iter (zq71_L3 o m.Vehicle) (o.length : Int)) fun v => ∃ p : Nat, v = (p : Int) ∧ p ≤ o.length ∧ o.take p ++ [m] ++ o.drop p = Pdq.insE vLt m o := by
 refine .iter (fun q v => v = (q : Int) ∧ q ≤ o.length ∧ ∀ y ∈ o.drop q, vLt m y = true) (n := o.length) ⟨rfl, Nat.le_refl _, by simp⟩ ?_
 rintro q v ⟨rfl, hq, hall⟩
 unfold zq71_L3
 by_cases hq0 : 0 < q
 ·obtain ⟨y, hy⟩ := get_ex (l := o) (i := q - 1) (by omega)
  have wq : w64 ((q : Int) - 1) = ((q - 1 : Nat) : Int) := by rw [w64_id (by omega)]; omega
  have hq0' : (0 : Int) < (q : Int) := by omega
  have hdrop : o.drop (q - 1) = y :: o.drop q := by
   rw [List.drop_eq_getElem_cons (by omega), show q - 1 + 1 = q by omega]
   congr 1
   exact (List.getElem?_eq_some_iff.1 hy).2
  simp only [hq0', decide_true, if_true, wq, idx_nat, hy, Option.bind_some]
  refine .iteP (fun h => .nx ⟨q - 1, by omega, rfl, by omega, fun z hz => ?_⟩) (fun h => .dn ⟨q, rfl, hq, Pdq.insE_slot o.length rfl hq hall fun z _ hz => by rw [hy] at hz; cases hz; simpa [vLt] using h⟩)
  rw [hdrop] at hz
  rcases List.mem_cons.1 hz with rfl | hz
  ·simpa [vLt] using h
  ·exact hall z hz
 ·have : q = 0 := by omega
  subst this
  simp only [Int.lt_irrefl, decide_false, Bool.false_eq_true, if_false, Option.bind_some, Int.natCast_zero]
  exact .dn ⟨0, rfl, by omega, Pdq.insE_slot o.length rfl (by omega) hall fun z h _ => absurd h (Nat.lt_irrefl _)⟩
theorem run_len {S out f : List Match} (h : Run1 cfM S out f) : out.length ≤ f.length := by
 induction h with
 | stop _ => exact Nat.le_refl _
 | step _ _ ih => rw [List.length_append] at ih; simp only [List.length_singleton] at ih; omega
theorem any_cf {out : List Match} {m : Match} : out.any (cfM m) = false ↔ ¬ m.Vehicle ∈ out.map (·.Vehicle) ∧ ¬ m.Id ∈ out.map (·.Id) := by
 rw [List.any_eq_false]
 unfold cfM
 constructor
 ·intro h
  refine ⟨fun hc => ?_, fun hc => ?_⟩
  ·obtain ⟨n, hn, he⟩ := List.mem_map.1 hc
   have := h n hn
   simp [he] at this
  ·obtain ⟨n, hn, he⟩ := List.mem_map.1 hc
   have := h n hn
   simp [he] at this
 ·rintro ⟨h1, h2⟩ n hn
  have a : n.Vehicle ≠ m.Vehicle := fun he => h1 (List.mem_map.2 ⟨n, hn, he⟩)
  have b : n.Id ≠ m.Id := fun he => h2 (List.mem_map.2 ⟨n, hn, he⟩)
  simp [a, b]
theorem lastL_mem {R : List Report} {r : Report} (h : r ∈ lastL R) : lastOf R r.Vehicle = some r ∧ r ∈ R := by
 unfold lastL at h
 obtain ⟨k, _, hk⟩ := List.mem_filterMap.1 h
 have hk : lastOf R (k : Int) = some r := hk
 have := lastOf_veh hk
 rw [this.1]
 exact ⟨hk, this.2⟩
theorem pair_uniq {t : Timetable} (hg : GoodT t) {list : List Report} {m m' : Match} (h : m ∈ (lastL list).flatMap (fitQ t.Trips)) (h' : m' ∈ (lastL list).flatMap (fitQ t.Trips)) (hv : m.Vehicle = m'.Vehicle) (hi : m.Id = m'.Id) : m = m' := by
 obtain ⟨r, hr, h⟩ := List.mem_flatMap.1 h
 obtain ⟨r', hr', h'⟩ := List.mem_flatMap.1 h'
 obtain ⟨x, hx, _, rfl⟩ := fitQ_mem h
 obtain ⟨x', hx', _, rfl⟩ := fitQ_mem h'
 have hv : r.Vehicle = r'.Vehicle := hv
 have hi : x.Id = x'.Id := hi
 have e1 := (lastL_mem hr).1
 have e2 := (lastL_mem hr').1
 rw [hv, e2] at e1
 cases e1
 obtain ⟨i, hxi⟩ := List.getElem?_of_mem hx
 obtain ⟨j, hxj⟩ := List.getElem?_of_mem hx'
 rcases Nat.lt_trichotomy i j with hij | hij | hij
 ·have := ids_lt hg hij hxi hxj; omega
 ·subst hij; rw [hxi] at hxj; cases hxj; rfl
 ·have := ids_lt hg hij hxj hxi; omega
theorem pairs_iff {T : List Trip} {limit : Int} {R : List Report} {m : Match} : m ∈ pairsOf T limit R ↔ m ∈ R.flatMap (fitQ T) ∧ ab m.Delay ≤ limit := by
 unfold pairsOf
 constructor
 ·intro h
  obtain ⟨r, hr, h⟩ := List.mem_flatMap.1 h
  rw [List.mem_filter] at h
  exact ⟨List.mem_flatMap.2 ⟨r, hr, h.1⟩, by simpa [inLim] using h.2⟩
 ·rintro ⟨h, hl⟩
  obtain ⟨r, hr, h⟩ := List.mem_flatMap.1 h
  exact List.mem_flatMap.2 ⟨r, hr, List.mem_filter.2 ⟨h, by simpa [inLim] using hl⟩⟩
theorem runS {t : Timetable} (hg : GoodT t) {list : List Report} (hR : RB (lastL list)) (limit : Int) {S out f : List Match} (hS : S.Perm (pairsOf t.Trips limit (lastL list))) (hs : S.Pairwise kle) (hrun : Run1 cfM S out f) (hf : f.length ≤ 90000) :
  iter (zq71_L4 t limit (lastL list)) (Pdq.isort vLt out, out.map (·.Vehicle), out.map (·.Id)) = some (Pdq.isort vLt f) := by
 have hll : (lastL list).length ≤ 100 := fm_le list 100
 have hU := pairs_U hg hR limit
 have hSm : ∀ m, m ∈ S ↔ m ∈ (lastL list).flatMap (fitQ t.Trips) ∧ ab m.Delay ≤ limit := fun m => hS.mem_iff.trans pairs_iff
 induction hrun with
 | @stop out hfind =>
  rw [List.find?_eq_none] at hfind
  obtain ⟨b, hb, hB⟩ := mtS_L2 hg (limit := limit) (V := out.map (·.Vehicle)) (I := out.map (·.Id)) (by rw [List.length_map]; omega) (by rw [List.length_map]; omega) hR (by omega)
  refine iter_dn ?_
  unfold zq71_L4
  dsimp only
  rw [hb]
  rcases hB with ⟨rfl, _⟩ | ⟨m, h1, h2, _, _⟩
  ·rfl
  ·exfalso
   unfold okM at h2
   simp only [Bool.and_eq_true, decide_eq_true_eq, Bool.not_eq_true', decide_eq_false_iff_not] at h2
   have := hfind m ((hSm m).2 ⟨h1, h2.1⟩)
   rw [any_cf.2 h2.2] at this
   simp at this
 | @step out f m hfind hrun ih =>
  have hlen := run_len hrun
  rw [List.length_append] at hlen
  simp only [List.length_singleton] at hlen
  obtain ⟨b, hb, hB⟩ := mtS_L2 hg (limit := limit) (V := out.map (·.Vehicle)) (I := out.map (·.Id)) (by rw [List.length_map]; omega) (by rw [List.length_map]; omega) hR (by omega)
  obtain ⟨hmS, hpm, hleast⟩ := find_least (lt := fun a b => ¬ kle b a) (hs.imp fun h hc => hc h) (fun a hc => hc (by unfold kle; omega)) hfind
  have hmA := (hSm m).1 hmS
  have hpm' := any_cf.1 (show out.any (cfM m) = false by simpa using hpm)
  have hok : okM limit (out.map (·.Vehicle)) (out.map (·.Id)) m = true := by
   unfold okM
   simp only [Bool.and_eq_true, decide_eq_true_eq, Bool.not_eq_true', decide_eq_false_iff_not]
   exact ⟨hmA.2, hpm'⟩
  have hbm : b = trM m := by
   rcases hB with ⟨_, h2⟩ | ⟨m0, h1, h2, h3, h4⟩
   ·rw [h2 m hmA.1] at hok; cases hok
   ·have h2' := h2
    unfold okM at h2'
    simp only [Bool.and_eq_true, decide_eq_true_eq, Bool.not_eq_true', decide_eq_false_iff_not] at h2'
    have h0S := (hSm m0).2 ⟨h1, h2'.1⟩
    have k1 : kle m m0 := Classical.not_not.1 (hleast m0 h0S (by rw [any_cf.2 h2'.2]; rfl))
    have k2 := h4 m hmA.1 hok
    have u0 := (hU m0 (hS.mem_iff.1 h0S)).1
    have u1 := (hU m (hS.mem_iff.1 hmS)).1
    unfold kle at k1
    rw [fA_eq u0, fA_eq u1] at k1
    unfold btr at k2
    rw [h3, pair_uniq hg h1 hmA.1 (by omega) (by omega)]
  subst hbm
  have hv1 := (hU m (hS.mem_iff.1 hmS)).2.1
  have hsl := Pdq.isort_len (lt := vLt) out
  obtain ⟨v, hv, p, rfl, hp, hins⟩ := mtS_L3 (o := Pdq.isort vLt out) (by omega) m
  refine (iter_nx ?_).trans (ih hf)
  unfold zq71_L4
  dsimp only
  rw [hb]
  have h0 : (m.Vehicle == 0) = false := by simp; omega
  have htk : ((Pdq.isort vLt out).take p).length = p := by rw [List.length_take]; omega
  simp only [Option.bind_some, trM, h0, Bool.false_eq_true, if_false, hv]
  rw [chk_of (by simp; omega)]
  simp only [Option.bind_some]
  rw [chk_of (by simp; omega)]
  simp only [Option.bind_some]
  rw [chk_of (by omega)]
  simp only [Option.bind_some]
  rw [chk_of (by simp; omega)]
  simp only [Option.bind_some]
  rw [chk_of (by simp; omega)]
  simp only [Option.bind_some]
  rw [chk_of (by omega)]
  simp only [Option.bind_some]
  rw [chk_of (by simp; omega)]
  simp only [Option.bind_some, Option.some.injEq, Lp.nx.injEq, Prod.mk.injEq]
  refine ⟨?_, by simp, by simp⟩
  rw [Pdq.isort_snoc, ← hins]
  simp
theorem greedy_len (S : List Match) : (greedy cfM [] S).length ≤ S.length := by
 have : ∀ (l out : List Match), (greedy cfM out l).length ≤ out.length + l.length := by
  intro l
  induction l with
  | nil => intro out; exact Nat.le_refl _
  | cons m l ih =>
   intro out
   show (greedy cfM (if out.any (cfM m) = true then out else out ++ [m]) l).length ≤ _
   refine Nat.le_trans (ih _) ?_
   split <;> simp <;> omega
 have := this S []
 simpa using this
structure MOK (limit : Int) (M : List Match) : Prop where
 ord : M.Pairwise fun a b => a.Vehicle < b.Vehicle
 ids : M.Pairwise fun a b => a.Id ≠ b.Id
 lim : ∀ m ∈ M, UM m ∧ ab m.Delay ≤ limit
 len : M.length ≤ 1200
theorem sorted_same : ∀ {a b : List Match}, a.Perm b → a.Pairwise (fun x y => x.Vehicle < y.Vehicle) → b.Pairwise (fun x y => x.Vehicle < y.Vehicle) → a = b
 | [], b, hp, _, _ => by rw [List.nil_perm.1 hp]
 | x :: a, [], hp, _, _ => by have := hp.length_eq; simp at this
 | x :: a, y :: b, hp, ha, hb => by
  rw [List.pairwise_cons] at ha hb
  have hxy : x = y := by
   rcases List.mem_cons.1 (hp.mem_iff.1 (List.mem_cons_self ..)) with h | h
   ·exact h
   ·rcases List.mem_cons.1 (hp.mem_iff.2 (List.mem_cons_self ..)) with h' | h'
    ·exact h'.symm
    ·have h1 := hb.1 x h
     have h2 := ha.1 y h'
     omega
  subst hxy
  rw [sorted_same (List.perm_cons x |>.1 hp) ha.2 hb.2]
theorem strict_of {l : List Match} (h1 : l.Pairwise vle) (h2 : l.Pairwise fun a b => a.Vehicle ≠ b.Vehicle) : l.Pairwise fun a b => a.Vehicle < b.Vehicle := by
 refine (h1.and h2).imp fun {a b} h => ?_
 have := h.1
 unfold vle at this
 have := h.2
 omega
theorem match_both {t : Timetable} (hg : GoodT t) {list : List Report} (hv : VB list) (hR : RB (lastL list)) (limit : Int) : ∃ M, zq27 t list limit = some M ∧ zq71 t list limit = some M ∧ MOK limit M := by
 have hll : (lastL list).length ≤ 100 := fm_le list 100
 have hpl := pairs_len (T := t.Trips) hg.2.1 limit (lastL list)
 obtain ⟨M, hM, S, h1, h2, h3, h4⟩ := matchI hg hv hR limit
 have hgl := greedy_len S
 have hSl := h1.length_eq
 have hU := pairs_U hg hR limit
 have hap : (greedy cfM [] S).Pairwise fun a b => a.Vehicle ≠ b.Vehicle ∧ a.Id ≠ b.Id := (greedy_apart cfM (S := S) List.Pairwise.nil).imp fun {a b} h => by
  unfold cfM at h
  simp only [Bool.or_eq_false_iff, beq_eq_false_iff_ne] at h
  exact h
 have hM1 : M.Pairwise fun a b => a.Vehicle ≠ b.Vehicle ∧ a.Id ≠ b.Id := h3.symm.pairwise hap (fun {a b} h => ⟨Ne.symm h.1, Ne.symm h.2⟩)
 have hMo := strict_of h4 (hM1.imp fun h => h.1)
 have hmem : ∀ m ∈ M, m ∈ pairsOf t.Trips limit (lastL list) := fun m hm => by
  rcases greedy_mem cfM (h3.mem_iff.1 hm) with h | h
  ·cases h
  ·exact h1.mem_iff.1 h
 have hMl := h3.length_eq
 refine ⟨M, hM, ?_, hMo, hM1.imp fun h => h.2, fun m hm => ⟨(hU m (hmem m hm)).1, (hU m (hmem m hm)).2.2⟩, by omega⟩
 unfold zq71
 rw [lastS hv]
 simp only [Option.bind_some]
 have hrun := greedy_run cfM cfM_self S S [] [] rfl (by simp)
 have := runS hg hR limit h1 h2 hrun (by omega)
 have e0 : (Pdq.isort vLt ([] : List Match), ([] : List Match).map (·.Vehicle), ([] : List Match).map (·.Id)) = (([] : List Match), ([] : List Int), ([] : List Int)) := rfl
 rw [e0] at this
 rw [this]
 have hp := Pdq.isort_perm (lt := vLt) (greedy cfM [] S)
 have hso := Pdq.isort_sorted (lt := vLt) (fun a b c h1 h2 => by simp only [vLt, decide_eq_false_iff_not] at *; omega) (fun a b h => by simp only [vLt, decide_eq_true_eq, decide_eq_false_iff_not] at *; omega) (greedy cfM [] S)
 have hso' : (Pdq.isort vLt (greedy cfM [] S)).Pairwise vle := hso.imp fun {a b} h => by unfold vle; simp only [vLt, decide_eq_false_iff_not] at h; omega
 have hd : (Pdq.isort vLt (greedy cfM [] S)).Pairwise fun a b => a.Vehicle ≠ b.Vehicle := hp.symm.pairwise (hap.imp fun h => h.1) (fun {a b} h => Ne.symm h)
 rw [sorted_same (hp.trans h3.symm) (strict_of hso' hd) hMo]
theorem reps_facts {t : Timetable} {list : List Report} (hg : GoodT t) (hr : RepsP t.Network list) : VB list ∧ RB (lastL list) := by
 have hm : ∀ r ∈ list, RepP t.Network r := fun r hr' => by
  obtain ⟨i, hi⟩ := List.getElem?_of_mem hr'
  exact (hr.2 i r hi).1
 refine ⟨⟨by have := hr.1; omega, fun r hr' => (hm r hr').1⟩, fun r hr' => ?_⟩
 obtain ⟨h1, h2, l, hl, h3, h4⟩ := hm r (lastL_mem hr').2
 have := runs_sum' (good_line hg.1 hl)
 exact ⟨h1, h2, h3, by omega⟩
def AskM (t : Timetable) (list : List Report) (limit : Int) : Prop := (GoodT t ∧ RepsP t.Network list) ∧ 0 ≤ limit ∧ limit ≤ 1799
noncomputable instance (t : Timetable) (l : List Report) (x : Int) : Decidable (AskM t l x) := Classical.propDecidable _
theorem askI {t : Timetable} (hb : TB t) (list : List Report) (limit : Int) : zq13 t list limit = some (decide (AskM t list limit)) := by
 unfold zq13 AskM
 rw [validReps_eq hb, time_eq]
 by_cases h : GoodT t ∧ RepsP t.Network list <;> simp [h]
theorem askS {t : Timetable} (hb : TB t) (list : List Report) (limit : Int) : zq65 t list limit = some (decide (AskM t list limit)) := by
 unfold zq65 AskM
 rw [l25Good_eq hb, l1In_eq]
 by_cases h : GoodT t ∧ RepsP t.Network list <;> simp [h]
theorem both_reports {t : Timetable} (hb : TB t) (list : List Report) (limit : Int) : (∃ M, AskM t list limit ∧ MOK limit M ∧ zq27 t list limit = some M ∧ zq9 t list limit = some (M, true) ∧ zq37 t list limit = some (M, true)) ∨ (¬ AskM t list limit ∧ zq9 t list limit = some ([], false) ∧ zq37 t list limit = some ([], false)) := by
 unfold zq9 zq37
 rw [askI hb, askS hb]
 by_cases h : AskM t list limit
 ·obtain ⟨h1, h2⟩ := reps_facts h.1.1 h.1.2
  obtain ⟨M, e1, e2, e3⟩ := match_both h.1.1 h1 h2 limit
  refine .inl ⟨M, h, e3, e1, ?_, ?_⟩
  ·simp only [h, decide_true, Bool.not_true, Bool.false_eq_true, if_false, Option.bind_some, e1]
  ·simp only [h, decide_true, Bool.not_true, Bool.false_eq_true, if_false, Option.bind_some, e2]
 ·exact .inr ⟨h, by simp [h], by simp [h]⟩
def lostL (M : List Match) (R : List Report) : List Int := (R.filter fun r => !M.any fun m => m.Vehicle == r.Vehicle).map (·.Vehicle)
theorem lost_ok {t : Timetable} (hb : TB t) {list : List Report} {limit : Int} {M : List Match} (h : AskM t list limit) (hM : MOK limit M) (e : zq27 t list limit = some M) : zq7 t list limit = some (lostL M (lastL list), true) := by
 obtain ⟨h1, h2⟩ := reps_facts h.1.1 h.1.2
 have hll : (lastL list).length ≤ 100 := fm_le list 100
 have hMl := hM.len
 have hcv : ∀ r : Report, zq91 M r = some (M.any fun m => m.Vehicle == r.Vehicle) := fun r => by
  unfold zq91
  exact contains_val M (by omega) (fun m => m.Vehicle == r.Vehicle) _ fun x => rfl
 have eL : iter (zq7_L1 M (lastL list)) ((0 : Int), ([] : List Int)) = some (lostL M (lastL list)) := by
  refine Tot.val (.iter (fun q s => ∃ k : Nat, s.1 = (k : Int) ∧ q + k = (lastL list).length ∧ s.2 = lostL M ((lastL list).take k)) (n := (lastL list).length) ⟨0, rfl, rfl, rfl⟩ ?_)
  rintro q ⟨v, x⟩ ⟨k, hk, hm, hx⟩
  simp only at hk hx
  subst hk
  unfold zq7_L1
  refine .iteP (fun hc => ?_) (fun hc => .dn (by rw [hx, List.take_of_length_le (by omega)]))
  obtain ⟨r, hr⟩ := get_ex (l := lastL list) (i := k) (by omega)
  have hxl : x.length ≤ 100 := by
   rw [hx]; unfold lostL
   rw [List.length_map]
   exact Nat.le_trans (List.length_filter_le ..) (by rw [List.length_take]; omega)
  have hstep : lostL M ((lastL list).take (k + 1)) = x ++ (if (!M.any fun m => m.Vehicle == r.Vehicle) = true then [r.Vehicle] else []) := by
   unfold lostL
   rw [take_succ hr, List.filter_append, List.map_append, hx]
   unfold lostL
   by_cases hq : (!M.any fun m => m.Vehicle == r.Vehicle) = true <;> simp [hq]
  refine .call (P := fun x1 => x1 = lostL M ((lastL list).take (k + 1))) (.eq (ixs hr) (.eq (hcv r) ?_)) fun x1 h1 => .nx ⟨q - 1, by omega, k + 1, w64_succ (by omega), by omega, h1⟩
  rw [hstep]
  by_cases hq : (!M.any fun m => m.Vehicle == r.Vehicle) = true
  ·simp only [hq, if_true]
   exact .chk (by simp; omega) (.ok rfl)
  ·simp only [hq, Bool.false_eq_true, if_false]
   exact .ok (by simp)
 unfold zq7
 rw [askI hb]
 simp only [h, decide_true, Bool.not_true, Bool.false_eq_true, if_false, Option.bind_some, e, lastI h1, eL]
theorem lost_none {t : Timetable} (hb : TB t) {list : List Report} {limit : Int} (h : ¬ AskM t list limit) : zq7 t list limit = some ([], false) := by
 unfold zq7
 rw [askI hb]
 simp [h]
theorem missing_both {t : Timetable} (hb : TB t) (list : List Report) (limit now : Int) : ∃ q : List Int × Bool, zq10 t list limit now = some q ∧ zq38 t list limit now = some q ∧ q.1.length ≤ 1000 := by
 unfold zq10 zq38
 rw [askI hb, askS hb, time_eq, l4Time_eq]
 by_cases h : AskM t list limit
 ·by_cases hn : 0 ≤ now ∧ now ≤ 1799
  ·have hg := h.1.1
   have h12 := hg.2.1
   obtain ⟨h1, h2⟩ := reps_facts h.1.1 h.1.2
   obtain ⟨M, e1, e2, e3⟩ := match_both h.1.1 h1 h2 limit
   have hMl := e3.len
   simp only [h, hn, and_self, decide_true, Bool.not_true, Bool.false_eq_true, if_false, Option.bind_some, e1, e2]
   have hc : ∀ r : Trip, zq92 M r = some (M.any fun m => m.Id == r.Id) := fun r => by
    unfold zq92
    exact contains_val M (by omega) (fun m => m.Id == r.Id) _ fun x => rfl
   have hin : ∀ (k : Nat) (e : Trip) (b : Bool), t.Trips[k]? = some e → iter (zq38_L1 t M (k : Int)) (b, (0 : Int)) = some (b && !M.any fun m => m.Id == e.Id) := fun k e b he => by
    refine Tot.val (.iter (fun q s => ∃ j : Nat, s.2 = (j : Int) ∧ q + j = M.length ∧ s.1 = (b && !(M.take j).any fun m => m.Id == e.Id)) (n := M.length) ⟨0, rfl, rfl, by simp⟩ ?_)
    rintro q ⟨v2, v3⟩ ⟨j, hj, hm, hx⟩
    simp only at hj hx
    subst hj
    unfold zq38_L1
    refine .iteP (fun hc => ?_) (fun hc => .dn (by rw [hx, List.take_of_length_le (by omega)]))
    obtain ⟨m, hm'⟩ := get_ex (l := M) (i := j) (by omega)
    have ht : (M.take (j + 1)).any (fun m => m.Id == e.Id) = ((M.take j).any (fun m => m.Id == e.Id) || m.Id == e.Id) := by rw [take_succ hm', List.any_append]; simp
    cases hv : v2 with
    | true =>
     rw [hv] at hx
     simp only [if_true]
     refine .eq (ixs hm') (.eq (ixs he) (.nx ⟨q - 1, by omega, j + 1, w64_succ (by omega), by omega, ?_⟩))
     show (m.Id != e.Id) = _
     rw [ht, Bool.not_or, ← Bool.and_assoc, ← hx]; rfl
    | false =>
     rw [hv] at hx
     simp only [Bool.false_eq_true, if_false]
     refine .nx ⟨q - 1, by omega, j + 1, w64_succ (by omega), by omega, ?_⟩
     show false = _
     rw [ht, Bool.not_or, ← Bool.and_assoc, ← hx]; rfl
   have hit := iter2 (step := zq10_L1 t now M) (step' := zq38_L2 t now M) (fun k a a' => a = a' ∧ ∃ j : Nat, a.1 = (j : Int) ∧ k + j = t.Trips.length ∧ a.2.length ≤ j) (fun x x' => x = x' ∧ x.length ≤ 1000) ?_ (k := t.Trips.length) (a := ((0 : Int), ([] : List Int))) (a' := ((0 : Int), ([] : List Int))) ⟨rfl, 0, rfl, rfl, Nat.le_refl _⟩
   ·obtain ⟨x, x', f1, f2, f3⟩ := hit
    obtain ⟨rfl, f4⟩ := f3
    exact ⟨(x, true), by rw [f1]; rfl, by rw [f2]; rfl, f4⟩
   ·rintro k ⟨a, l⟩ _ ⟨rfl, j, hj, hk, hl⟩
    simp only at hj hl
    subst hj
    by_cases hc' : j < t.Trips.length
    ·left
     obtain ⟨e, he⟩ := get_ex (l := t.Trips) (i := j) hc'
     obtain ⟨ln, hl', _, _, hs, _⟩ := trip_line hg he
     have d1 : decide ((j : Int) < (t.Trips.length : Int)) = true := by simp; omega
     have e1 := endOf_eq hg.1 hl' hs
     have e2 := l5End_eq hg.1 he hl' hs
     by_cases hcond : (decide (e.Start ≤ now ∧ now ≤ e.Start + ln.Runs.sum) && !M.any fun m => m.Id == e.Id) = true
     ·refine ⟨(w64 ((j : Int) + 1), l ++ [e.Id]), (w64 ((j : Int) + 1), l ++ [e.Id]), k - 1, ?_, ?_, by omega, rfl, j + 1, w64_succ (by omega), by omega, by simp; omega⟩
      ·unfold zq10_L1
       simp only [Bool.and_eq_true] at hcond
       simp only [d1, if_true, ixs he, Option.bind_some, e1, within_eq, hcond.1, hc, hcond.2]
       rw [chk_of (by simp; omega)]; rfl
      ·unfold zq38_L2
       simp only [d1, if_true, ixs he, Option.bind_some, e2, l1In_eq, hin j e _ he, hcond]
       rw [chk_of (by simp; omega)]; rfl
     ·refine ⟨(w64 ((j : Int) + 1), l), (w64 ((j : Int) + 1), l), k - 1, ?_, ?_, by omega, rfl, j + 1, w64_succ (by omega), by omega, by simp; omega⟩
      ·unfold zq10_L1
       simp only [d1, if_true, ixs he, Option.bind_some, e1, within_eq]
       by_cases hw : decide (e.Start ≤ now ∧ now ≤ e.Start + ln.Runs.sum) = true
       ·have hq : (!M.any fun m => m.Id == e.Id) = false := by
         cases hq : (!M.any fun m => m.Id == e.Id) with
         | false => rfl
         | true => exact absurd (by rw [hw, hq]; rfl) hcond
        simp only [hw, if_true, hc, Option.bind_some, hq, Bool.false_eq_true, if_false]
       ·simp only [hw, Bool.false_eq_true, if_false, Option.bind_some]
      ·unfold zq38_L2
       simp only [d1, if_true, ixs he, Option.bind_some, e2, l1In_eq, hin j e _ he, hcond, Bool.false_eq_true, if_false]
    ·right
     have d1 : decide ((j : Int) < (t.Trips.length : Int)) = false := by simp; omega
     exact ⟨l, l, by unfold zq10_L1; simp only [d1, Bool.false_eq_true, if_false], by unfold zq38_L2; simp only [d1, Bool.false_eq_true, if_false], rfl, by omega⟩
  ·exact ⟨([], false), by simp [h, hn], by simp [h, hn], by simp⟩
 ·exact ⟨([], false), by simp [h], by simp [h], by simp⟩
theorem rHas_eq (l : List Int) (hl : l.length ≤ 100000) (x : Int) : zq151 l x = some (decide (x ∈ l)) := by
 unfold zq151
 rw [find_loop l (fun e => e == x) (fun _ => true) (fun i y hy => ?_) (by unfold zq151_L1; simp)]
 ·by_cases h : x ∈ l
  ·have : l.findIdx? (fun e => e == x) ≠ none := fun hn => by
    have := List.findIdx?_eq_none_iff.1 hn x h
    simp at this
   cases hf : l.findIdx? (fun e => e == x) with
   | none => exact absurd hf this
   | some i => simp [h]
  ·have : l.findIdx? (fun e => e == x) = none := List.findIdx?_eq_none_iff.2 fun y hy => by
    simp only [beq_eq_false_iff_ne, ne_eq]
    intro e; subst e; exact h hy
   rw [this]; simp [h]
 ·have hi := get_lt hy
  unfold zq151_L1
  have hlt : decide ((i : Int) < (l.length : Int)) = true := by simp; omega
  simp only [hlt, if_true, idx_nat, hy, Option.bind_some, w64_succ (n := i) (by omega)]
  split <;> rfl
theorem drawMatch_ok (code : List UInt8) : Tot (zq35 code) fun r => TB r.1 := by
 unfold zq35
 exact .call (anyTimetable_ok (cur0 code) (by omega)) fun r ⟨hc, hd⟩ => .call (reports_ok hd hc (by omega)) fun r1 hc1 => .call (limit_ok hc1 (by omega)) fun r2 hc2 => .ok hd.tb
theorem drawMissing_ok (code : List UInt8) : Tot (zq36 code) fun r => TB r.1 := by
 unfold zq36
 exact .call (anyTimetable_ok (cur0 code) (by omega)) fun r ⟨hc, hd⟩ => .call (reports_ok hd hc (by omega)) fun r1 hc1 => .call (limit_ok hc1 (by omega)) fun r2 hc2 => .call (nowP_ok _ hc2 (by omega)) fun r4 _ => .ok hd.tb
theorem pw_get {R : Match → Match → Prop} {M : List Match} (h : M.Pairwise R) {i j : Nat} {a b : Match} (hij : i < j) (ha : M[i]? = some a) (hb : M[j]? = some b) : R a b := by
 have := List.pairwise_iff_getElem.1 h i j (get_lt ha) (get_lt hb) hij
 rw [(List.getElem?_eq_some_iff.1 ha).2, (List.getElem?_eq_some_iff.1 hb).2] at this
 exact this
theorem matL1 {limit : Int} {M : List Match} (hM : MOK limit M) (b : Bool) {k : Nat} {e : Match} (he : M[k]? = some e) : iter (v_FnMatches_L1 (M, b) (k : Int) e) (0 : Int) = some (.go ()) := by
 have hk := get_lt he
 have hl := hM.len
 refine Tot.val (.iter (fun q v => ∃ j : Nat, v = (j : Int) ∧ q + j = k) (n := k) ⟨0, rfl, rfl⟩ ?_)
 rintro q v ⟨j, rfl, hq⟩
 unfold v_FnMatches_L1
 refine .iteP (fun hc => ?_) (fun _ => .dn rfl)
 obtain ⟨d, hd⟩ := get_ex (l := M) (i := j) (by omega)
 have hne := pw_get hM.ids (by omega : j < k) hd he
 refine .eq (ixs hd) (.ite (fun h => absurd (by simpa using h) hne) (fun _ => .nx ⟨q - 1, by omega, j + 1, w64_succ (by omega), by omega⟩))
theorem matL2 {r1 : Timetable × (List Report) × Int} {M : List Match} (hM : MOK r1.2.2 M) (b : Bool) {lost : List Int × Bool} (hlost : lost.1.length ≤ 1000) (hno : ∀ m ∈ M, m.Vehicle ∉ lost.1) : iter (v_FnMatches_L2 r1 (M, b) (M, b) lost) (0 : Int) = some (.go ()) := by
 have hl := hM.len
 refine Tot.val (.iter (fun q v => ∃ j : Nat, v = (j : Int) ∧ q + j = M.length) (n := M.length) ⟨0, rfl, rfl⟩ ?_)
 rintro q v ⟨j, rfl, hq⟩
 unfold v_FnMatches_L2
 refine .iteP (fun hc => ?_) (fun _ => .dn rfl)
 have hc' : j < M.length := by simp only at hc; omega
 obtain ⟨e, he⟩ := get_ex (l := M) (i := j) hc'
 have hm := List.mem_of_getElem? he
 obtain ⟨hu, hab⟩ := hM.lim e hm
 have h1 : ¬ r1.2.2 < e.Delay := by unfold ab at hab; split at hab <;> omega
 have h2 : ¬ r1.2.2 < w64 (0 - e.Delay) := by
  have := hu.1; have := hu.2
  rw [w64_id (by omega)]
  unfold ab at hab; split at hab <;> omega
 refine .eq (ixs he) (.eq (ixs he) (.call (P := fun b => b = false) ?_ fun b hb => ?_))
 ·simp only [beq_self_eq_true, Bool.and_self, Bool.not_true, Bool.false_eq_true, if_false, h1, h2, decide_false, rHas_eq lost.1 (by omega), hno e hm, Option.bind_some]
  refine .iteP (fun h0 => ?_) (fun _ => .ok rfl)
  obtain ⟨d, hd⟩ := get_ex (l := M) (i := j - 1) (by omega)
  have w : w64 ((j : Int) - 1) = ((j - 1 : Nat) : Int) := by rw [w64_id (by omega)]; omega
  have hlt := pw_get hM.ord (by omega : j - 1 < j) hd he
  refine .eq (by rw [w]; exact ixs hd) (.ok ?_)
  have : ¬ e.Vehicle ≤ d.Vehicle := by omega
  simp [this]
 ·subst hb
  simp only [Bool.false_eq_true, if_false, matL1 hM _ he, flb_go]
  exact .nx ⟨q - 1, by omega, j + 1, w64_succ (by omega), by omega⟩
theorem matL3 {r1 : Timetable × (List Report) × Int} {M : List Match} (hM : M.length ≤ 1200) (b : Bool) {k : Nat} {r : Report} (hr : r1.2.1[k]? = some r) (x : Bool) : iter (v_FnMatches_L3 r1 (M, b) (k : Int)) (x, (0 : Int)) = some (x || M.any fun m => m.Vehicle == r.Vehicle) := by
 refine Tot.val (.iter (fun q s => ∃ j : Nat, s.2 = (j : Int) ∧ q + j = M.length ∧ s.1 = (x || (M.take j).any fun m => m.Vehicle == r.Vehicle)) (n := M.length) ⟨0, rfl, rfl, by simp⟩ ?_)
 rintro q ⟨v2, v3⟩ ⟨j, hj, hm, hx⟩
 simp only at hj hx
 subst hj
 unfold v_FnMatches_L3
 dsimp only
 refine .iteP (fun hc => ?_) (fun hc => .dn (by rw [hx, List.take_of_length_le (by omega)]))
 obtain ⟨m, hm'⟩ := get_ex (l := M) (i := j) (by omega)
 have ht : (M.take (j + 1)).any (fun m => m.Vehicle == r.Vehicle) = ((M.take j).any (fun m => m.Vehicle == r.Vehicle) || m.Vehicle == r.Vehicle) := by rw [take_succ hm', List.any_append]; simp
 cases hv : v2 with
 | true =>
  rw [hv] at hx
  simp only [if_true]
  refine .nx ⟨q - 1, by omega, j + 1, w64_succ (by omega), by omega, ?_⟩
  show true = _
  rw [ht, ← Bool.or_assoc, ← hx]; rfl
 | false =>
  rw [hv] at hx
  simp only [Bool.false_eq_true, if_false]
  refine .eq (ixs hm') (.eq (ixs hr) (.nx ⟨q - 1, by omega, j + 1, w64_succ (by omega), by omega, ?_⟩))
  show (m.Vehicle == r.Vehicle) = _
  rw [ht, ← Bool.or_assoc, ← hx]; rfl
theorem matL4 {r1 : Timetable × (List Report) × Int} {M : List Match} (hM : M.length ≤ 1200) {lost : List Int × Bool} (hlost : lost.1.length ≤ 1000) (b : Bool) (hl : b = true → r1.2.1.length ≤ 1000)
  (h : b = true → ∀ r ∈ r1.2.1, r.Vehicle ∈ lost.1 ∨ (M.any fun m => m.Vehicle == r.Vehicle) = true) : iter (v_FnMatches_L4 r1 (M, b) lost) (0 : Int) = some (.go ()) := by
 refine Tot.val (.iter (fun q v => ∃ j : Nat, v = (j : Int) ∧ q + j = r1.2.1.length) (n := r1.2.1.length) ⟨0, rfl, rfl⟩ ?_)
 rintro q v ⟨j, rfl, hq⟩
 unfold v_FnMatches_L4
 refine .call (P := fun c => c = true → (j < r1.2.1.length ∧ b = true)) (.iteP (fun hc => .ok fun hb => ⟨by omega, hb⟩) (fun _ => .ok fun hc => by cases hc)) fun c hc => .ite (fun hct => ?_) (fun _ => .dn rfl)
 obtain ⟨hj, hb⟩ := hc hct
 have hl' := hl hb
 obtain ⟨r, hr⟩ := get_ex (l := r1.2.1) (i := j) hj
 have hx := h hb r (List.mem_of_getElem? hr)
 refine .eq (ixs hr) (.eq (rHas_eq lost.1 (by omega) r.Vehicle) (.eq (matL3 hM b hr _) ?_))
 have : (decide (r.Vehicle ∈ lost.1) || M.any fun m => m.Vehicle == r.Vehicle) = true := by
  rcases hx with hx | hx <;> simp [hx]
 rw [this]
 simp only [Bool.not_true, Bool.false_eq_true, if_false]
 exact .nx ⟨q - 1, by omega, j + 1, w64_succ (by omega), by omega⟩
theorem lost_len (M : List Match) (list : List Report) : (lostL M (lastL list)).length ≤ 100 := by
 unfold lostL
 rw [List.length_map]
 exact Nat.le_trans (List.length_filter_le ..) (fm_le list 100)
theorem lost_or {M : List Match} {list : List Report} (hv : VB list) {r : Report} (hr : r ∈ list) : r.Vehicle ∈ lostL M (lastL list) ∨ (M.any fun m => m.Vehicle == r.Vehicle) = true := by
 by_cases h : (M.any fun m => m.Vehicle == r.Vehicle) = true
 ·exact .inr h
 ·left
  obtain ⟨s, hs⟩ : ∃ s, lastOf list r.Vehicle = some s := by
   cases hc : lastOf list r.Vehicle with
   | some s => exact ⟨s, rfl⟩
   | none =>
    unfold lastOf at hc
    rw [List.find?_eq_none] at hc
    have := hc r (List.mem_reverse.2 hr)
    simp at this
  have hsv := lastOf_veh hs
  have hb := hv.2 r hr
  unfold lostL
  refine List.mem_map.2 ⟨s, List.mem_filter.2 ⟨?_, ?_⟩, hsv.1⟩
  ·unfold lastL
   refine List.mem_filterMap.2 ⟨r.Vehicle.toNat, List.mem_range.2 (by omega), ?_⟩
   show lastOf list ((r.Vehicle.toNat : Nat) : Int) = some s
   rw [show ((r.Vehicle.toNat : Nat) : Int) = r.Vehicle by omega]; exact hs
  ·rw [hsv.1]; simpa using h
theorem matches_true (code : List UInt8) : v_FnMatches code = some true := by
 unfold v_FnMatches
 rw [rBig_eq]
 simp only [Option.bind_some]
 split
 ·rfl
 ·obtain ⟨r1, hr1, hb⟩ := drawMatch_ok code
  obtain ⟨r13, hr13, hb13⟩ := drawMissing_ok code
  obtain ⟨q, m1, m2, m3⟩ := missing_both hb13 r13.2.1 r13.2.2.1 r13.2.2.2
  rw [hr1]
  simp only [Option.bind_some]
  rcases both_reports hb r1.2.1 r1.2.2 with ⟨M, hA, hM, e0, e1, e2⟩ | ⟨hA, e1, e2⟩
  ·obtain ⟨hv, hR⟩ := reps_facts hA.1.1 hA.1.2
   have hlen := lost_len M r1.2.1
   have hlost := lost_ok hb hA hM e0
   have l2 := matL2 (r1 := r1) hM true (lost := (lostL M (lastL r1.2.1), true)) (by dsimp only; omega) (fun m hm hc => by
    unfold lostL at hc
    obtain ⟨r, hr, he⟩ := List.mem_map.1 hc
    rw [List.mem_filter] at hr
    have h2 := hr.2
    have : (M.any fun m => m.Vehicle == r.Vehicle) = true := List.any_eq_true.2 ⟨m, hm, by simp [he]⟩
    rw [this] at h2; cases h2)
   have l4 := matL4 (r1 := r1) (M := M) hM.len (lost := (lostL M (lastL r1.2.1), true)) (by dsimp only; omega) true (fun _ => hv.1) (fun _ r hr => lost_or hv hr)
   simp only [e1, e2, Option.bind_some, beq_self_eq_true, bne_self_eq_false, Bool.not_true, Bool.false_eq_true, if_false, if_true, validReps_eq hb, hA.1, decide_true, hlost, l2, l4, flb_go, hr13, m1, m2, rInts_refl q.1 (by omega), and_self]
  ·have l2 := matL2 (r1 := r1) (M := []) ⟨List.Pairwise.nil, List.Pairwise.nil, by simp, by simp⟩ false (lost := ([], false)) (by simp) (by simp)
   have l4 := matL4 (r1 := r1) (M := []) (by simp) (lost := ([], false)) (by simp) false (fun h => by cases h) (fun h => by cases h)
   simp only [e1, e2, Option.bind_some, beq_self_eq_true, bne_self_eq_false, Bool.not_true, Bool.false_eq_true, if_false, if_true, lost_none hb hA, l2, l4, flb_go, hr13, m1, m2, rInts_refl q.1 (by omega)]
end Go.Proofs.YtaegkodcjpgndaaGreat
