/- The plain law: what the models compute, no program in sight. -/
import Derived.Test.YtaegkodcjpgndaaGreatRcM
import Derived.Test.YtaegkodcjpgndaaGreatAbTot
namespace Go.Proofs.YtaegkodcjpgndaaGreat
open Go Go.Ab
set_option maxHeartbeats 4000000
set_option linter.unusedVariables false
set_option linter.unusedSimpArgs false
def Cur (k : Nat) (c : l1Cur) : Prop := 0 ≤ c.at_ ∧ c.at_ ≤ k
theorem Cur.mono {k k' : Nat} {c : l1Cur} (h : Cur k c) (hk : k ≤ k') : Cur k' c := ⟨h.1, by have := h.2; omega⟩
theorem next_ok {k : Nat} {c : l1Cur} (h : Cur k c) (hk : k ≤ 4000000000) : ∃ r, zq88 c = some r ∧ Cur (k + 1) r.2 ∧ 0 ≤ r.1 ∧ r.1 ≤ 255 := by
 obtain ⟨h0, h1⟩ := h
 have hw : w64 (c.at_ + 1) = c.at_ + 1 := w64_id (by omega)
 have hcur : ∀ s, Cur (k + 1) ⟨c.code_, w64 (c.at_ + 1), s⟩ := fun s => by rw [hw]; exact ⟨by show 0 ≤ c.at_ + 1; omega, by show c.at_ + 1 ≤ _; omega⟩
 unfold zq88
 have hv : ∃ v, (if (decide (c.at_ < (c.code_.length : Int))) = true then (idx c.code_ c.at_).bind fun e1 => some (w64 ((e1.toNat : Int))) else some 0) = some v ∧ 0 ≤ v ∧ v ≤ 255 := by
  by_cases hlt : c.at_ < c.code_.length
  ·obtain ⟨x, hx, _, _⟩ := idx_lt h0 hlt
   have := x.toNat_lt
   refine ⟨(x.toNat : Int), ?_, by omega, by omega⟩
   simp only [hlt, decide_true, if_true, hx, Option.bind_some]
   rw [w64_id (by omega)]
  ·exact ⟨0, by simp [hlt], by omega, by omega⟩
 obtain ⟨v, hv, hv0, hv1⟩ := hv
 rw [hv]
 simp only [Option.bind_some]
 split
 ·exact ⟨_, rfl, hcur _, hv0, hv1⟩
 ·rw [chk_of (by omega)]
  exact ⟨_, rfl, hcur _, and255 _⟩
theorem pick_ok {k : Nat} {c : l1Cur} (n : Int) (h : Cur k c) (hk : k ≤ 3000000000) : ∃ r, zq93 c n = some r ∧ Cur (k + 2) r.2 ∧ 0 ≤ r.1 ∧ (r.1 < n ∨ r.1 = 0) := by
 unfold zq93
 by_cases hn : n ≤ 1
 ·exact ⟨(0, c), by simp [hn], h.mono (by omega), by simp, .inr rfl⟩
 ·obtain ⟨r, hr, hc, h0, h1⟩ := next_ok h (by omega)
  have hn' : decide (n ≤ 1) = false := by simpa using hn
  simp only [hn', Bool.false_eq_true, if_false, hr, Option.bind_some]
  have hne : chk (n ≠ 0) = some () := chk_of (by omega)
  by_cases h2 : 200 < n
  ·obtain ⟨r', hr', hc', h0', h1'⟩ := next_ok hc (by omega)
   have e1 : w64 (r.1 * 256) = r.1 * 256 := w64_id (by omega)
   have e2 : w64 (r.1 * 256 + r'.1) = r.1 * 256 + r'.1 := w64_id (by omega)
   have h3 := tmod_rng (a := r.1 * 256 + r'.1) (b := n) (by omega) (by omega)
   simp only [h2, decide_true, if_true, hr', Option.bind_some, hne, e1, e2]
   exact ⟨_, rfl, hc'.mono (by omega), h3.1, .inl h3.2⟩
  ·have h2' : decide (200 < n) = false := by simpa using h2
   have h3 := tmod_rng (a := r.1) (b := n) (by omega) (by omega)
   simp only [h2', Bool.false_eq_true, if_false, Option.bind_some, hne]
   exact ⟨_, rfl, hc.mono (by omega), h3.1, .inl h3.2⟩
theorem amongw_ok {k : Nat} {c : l1Cur} (l : List Int) (hl : l ≠ []) (h : Cur k c) (hk : k ≤ 3000000000) : ∃ r, zq74 c l = some r ∧ Cur (k + 2) r.2 ∧ r.1 ∈ l := by
 unfold zq74
 obtain ⟨r, hr, hc, h0, h1⟩ := pick_ok (l.length : Int) h hk
 have hpos : 0 < l.length := List.length_pos_iff.2 hl
 obtain ⟨x, hx, _, hm⟩ := idx_lt (l := l) h0 (by omega)
 simp only [hr, Option.bind_some, hx]
 exact ⟨_, rfl, hc, hm⟩
theorem among_ok {k : Nat} {c : l1Cur} (l : List Int) (hl : l ≠ []) (h : Cur k c) (hk : k ≤ 3000000000) : ∃ r, zq73 c l = some r ∧ Cur (k + 2) r.2 ∧ r.1 ∈ l := by
 have : zq73 c l = zq74 c l := rfl
 rw [this]; exact amongw_ok l hl h hk
theorem one_ok {k : Nat} {c : l1Cur} (n : Int) (h : Cur k c) (hk : k ≤ 3000000000) : ∃ r, zq91 c n = some r ∧ Cur (k + 2) r.2 := by
 unfold zq91
 obtain ⟨r, hr, hc, _, _⟩ := pick_ok n h hk
 simp only [hr, Option.bind_some]
 exact ⟨_, rfl, hc⟩
theorem of_ok {k : Nat} {c : l1Cur} (l : List ByteArray) (hl : l ≠ []) (h : Cur k c) (hk : k ≤ 3000000000) : ∃ r, zq89 c l = some r ∧ Cur (k + 2) r.2 ∧ r.1 ∈ l := by
 unfold zq89
 obtain ⟨r, hr, hc, h0, h1⟩ := pick_ok (l.length : Int) h hk
 have hpos : 0 < l.length := List.length_pos_iff.2 hl
 obtain ⟨x, hx, _, hm⟩ := idx_lt (l := l) h0 (by omega)
 simp only [hr, Option.bind_some, hx]
 exact ⟨_, rfl, hc, hm⟩
theorem ofw_ok {k : Nat} {c : l1Cur} (l : List ByteArray) (hl : l ≠ []) (h : Cur k c) (hk : k ≤ 3000000000) : ∃ r, zq90 c l = some r ∧ Cur (k + 2) r.2 ∧ r.1 ∈ l := by
 have : zq90 c l = zq89 c l := rfl
 rw [this]; exact of_ok l hl h hk
theorem cur0 (code : List UInt8) : Cur 0 ⟨code, 0, ⟨0⟩⟩ := ⟨by show (0 : Int) ≤ 0; omega, by show (0 : Int) ≤ _; omega⟩
theorem within_eq (n lo hi : Int) : zq42 n lo hi = some (decide (lo ≤ n ∧ n ≤ hi)) := by
 unfold zq42
 by_cases h : lo ≤ n <;> simp [h]
theorem l1In_eq (n lo hi : Int) : zq100 n lo hi = some (decide (lo ≤ n ∧ n ≤ hi)) := by
 unfold zq100
 by_cases h : lo ≤ n <;> simp [h]
def ChOK (i : Nat) (c : UInt8) : Prop := (97 ≤ (c.toNat : Int) ∧ (c.toNat : Int) ≤ 122) ∨ (i ≠ 0 ∧ 48 ≤ (c.toNat : Int) ∧ (c.toNat : Int) ≤ 57)
def NameOK (s : ByteArray) : Prop := (1 ≤ s.size ∧ s.size ≤ 8) ∧ ∀ (i : Nat) c, s.data.toList[i]? = some c → ChOK i c
open Classical in
noncomputable instance (s : ByteArray) : Decidable (NameOK s) := Classical.propDecidable _
theorem size_list (s : ByteArray) : s.data.toList.length = s.size := by simp
theorem getD_of {α : Type} {l : List α} {i : Nat} {x d : α} (h : l[i]? = some x) : l.getD i d = x := by rw [List.getD_eq_getElem?_getD, h]; rfl
theorem isName_eq (s : ByteArray) : zq26 s = some (decide (NameOK s)) := by
 unfold zq26
 by_cases h1 : 1 ≤ s.size ∧ s.size ≤ 8
 ·have e1 : decide ((s.size : Int) < 1) = false := by simp; omega
  have e2 : decide (8 < (s.size : Int)) = false := by simp; omega
  simp only [e1, e2, Bool.false_eq_true, if_false, Option.bind_some]
  have hsz := size_list s
  have key := all_loop s.data.toList ChOK (step := zq26_L1 s) ?_ ?_ 0 0 rfl (by omega)
  ·rcases key with ⟨g1, g2⟩ | ⟨g1, g2⟩
   ·rw [g1, flb_go]
    have : NameOK s := ⟨h1, fun i c hc => g2 i c (by omega) hc⟩
    simp [this]
   ·rw [g1, flb_ret]
    have : ¬ NameOK s := fun hn => g2 fun i c _ hc => hn.2 i c hc
    simp [this]
  ·intro i x hx
   have hi := (List.getElem?_eq_some_iff.1 hx).1
   have hg : s.data.toList.getD (i : Int).toNat 0 = x := by rw [Int.toNat_natCast]; exact getD_of hx
   have hc : chk ((0 : Int) ≤ (i : Int) ∧ (i : Int) < (s.size : Int)) = some () := chk_of (by omega)
   have hlt : decide ((i : Int) < (s.size : Int)) = true := by simp; omega
   unfold zq26_L1
   simp only [hlt, if_true, hc, hg, Option.bind_some, w64_succ (n := i) (by omega)]
   unfold ChOK
   by_cases a1 : (97 : Int) ≤ (x.toNat : Int)
   ·by_cases a2 : (x.toNat : Int) ≤ 122
    ·left; refine ⟨by simp [a1, a2], .inl ⟨a1, a2⟩⟩
    ·right
     refine ⟨?_, by omega⟩
     have b1 : decide ((x.toNat : Int) < 48) = false := by simp; omega
     have b2 : decide ((57 : Int) < (x.toNat : Int)) = true := by simp; omega
     have c1 : ¬ (x.toNat : Int) < 48 := by omega
     have c2 : (57 : Int) < (x.toNat : Int) := by omega
     by_cases hi0 : i = 0
     ·simp [a1, a2, hi0]
     ·have hi0' : ((i : Int) == 0) = false := by simp; omega
      simp [a1, a2, hi0', c1, c2]
   ·by_cases hi0 : i = 0
    ·right
     refine ⟨by simp [a1, hi0], by omega⟩
    ·have hi0' : ((i : Int) == 0) = false := by simp; omega
     by_cases b1 : (x.toNat : Int) < 48
     ·right
      refine ⟨by simp [a1, hi0', b1], by omega⟩
     ·by_cases b2 : (57 : Int) < (x.toNat : Int)
      ·right
       refine ⟨by simp [a1, hi0', b1, b2], by omega⟩
      ·left
       refine ⟨by simp [a1, hi0', b1, b2], .inr ⟨hi0, by omega, by omega⟩⟩
  ·unfold zq26_L1
   rw [hsz]
   simp
 ·have : ¬ NameOK s := fun h => h1 h.1
  have e : (if (decide ((s.size : Int) < 1)) = true then some true else some (decide (8 < (s.size : Int)))) = some true := by
   by_cases h2 : s.size < 1
   ·have : decide ((s.size : Int) < 1) = true := by simp; omega
    simp [this]
   ·have e1 : decide ((s.size : Int) < 1) = false := by simp; omega
    have e2 : decide (8 < (s.size : Int)) = true := by simp; omega
    simp [e1, e2]
  rw [e]
  simp [this]
theorem l2Name_eq (s : ByteArray) : zq113 s = some (decide (NameOK s)) := by
 unfold zq113
 rw [l1In_eq]
 simp only [Option.bind_some]
 by_cases h1 : 1 ≤ s.size ∧ s.size ≤ 8
 ·have e1 : decide ((1 : Int) ≤ (s.size : Int) ∧ (s.size : Int) ≤ 8) = true := by simp; omega
  have hsz := size_list s
  obtain ⟨x0, hx0⟩ := get_ex (l := s.data.toList) (i := 0) (by omega)
  have hg0 : s.data.toList.getD (0 : Int).toNat 0 = x0 := getD_of hx0
  have hc0 : chk ((0 : Int) ≤ 0 ∧ 0 < (s.size : Int)) = some () := chk_of (by omega)
  simp only [e1, Bool.not_true, Bool.false_eq_true, if_false, hc0, hg0, Option.bind_some]
  by_cases a0 : 97 ≤ (x0.toNat : Int) ∧ (x0.toNat : Int) ≤ 122
  ·have b1 : decide ((x0.toNat : Int) < 97) = false := by simp; omega
   have b2 : decide ((122 : Int) < (x0.toNat : Int)) = false := by simp; omega
   simp only [b1, b2, Bool.false_eq_true, if_false, Option.bind_some]
   have key := all_loop s.data.toList ChOK (step := zq113_L1 s) ?_ ?_ 0 0 rfl (by omega)
   ·rcases key with ⟨g1, g2⟩ | ⟨g1, g2⟩
    ·rw [g1, flb_go]
     have : NameOK s := ⟨h1, fun i c hc => g2 i c (by omega) hc⟩
     simp [this]
    ·rw [g1, flb_ret]
     have : ¬ NameOK s := fun hn => g2 fun i c _ hc => hn.2 i c hc
     simp [this]
   ·intro i x hx
    have hi := (List.getElem?_eq_some_iff.1 hx).1
    have hg : s.data.toList.getD (i : Int).toNat 0 = x := by rw [Int.toNat_natCast]; exact getD_of hx
    have hc : chk ((0 : Int) ≤ (i : Int) ∧ (i : Int) < (s.size : Int)) = some () := chk_of (by omega)
    have hlt : decide ((i : Int) < (s.size : Int)) = true := by simp; omega
    have h0 : i = 0 → x = x0 := fun h => by subst h; rw [hx0] at hx; cases hx; rfl
    unfold zq113_L1
    simp only [hlt, if_true, hc, hg, Option.bind_some, w64_succ (n := i) (by omega)]
    unfold ChOK
    by_cases a1 : (x.toNat : Int) < 97
    ·have hi0 : i ≠ 0 := fun h => by have := h0 h; subst this; omega
     by_cases c1 : (x.toNat : Int) < 48
     ·right; refine ⟨by simp [a1, c1], by omega⟩
     ·by_cases c2 : (57 : Int) < (x.toNat : Int)
      ·right; refine ⟨by simp [a1, c1, c2], by omega⟩
      ·left; refine ⟨by simp [a1, c1, c2], .inr ⟨hi0, by omega, by omega⟩⟩
    ·by_cases a2 : (122 : Int) < (x.toNat : Int)
     ·right
      have c1 : ¬ (x.toNat : Int) < 48 := by omega
      have c2 : (57 : Int) < (x.toNat : Int) := by omega
      refine ⟨by simp [a1, a2, c1, c2], by omega⟩
     ·left; refine ⟨by simp [a1, a2], .inl ⟨by omega, by omega⟩⟩
   ·unfold zq113_L1
    rw [hsz]
    simp
  ·have : ¬ NameOK s := fun hn => by
    have := hn.2 0 x0 hx0
    unfold ChOK at this
    omega
   have e : (if (decide ((x0.toNat : Int) < 97)) = true then some true else some (decide ((122 : Int) < (x0.toNat : Int)))) = some true := by
    by_cases h2 : (x0.toNat : Int) < 97
    ·simp [h2]
    ·have : (122 : Int) < (x0.toNat : Int) := by omega
     simp [h2, this]
   rw [e]
   simp [this]
 ·have e1 : decide ((1 : Int) ≤ (s.size : Int) ∧ (s.size : Int) ≤ 8) = false := by simp; omega
  have : ¬ NameOK s := fun h => h1 h.1
  simp [e1, this]
theorem index_str_eq (l : List ByteArray) (hl : l.length ≤ 4000000000) (v : ByteArray) : zq130 l v = some (fixI (fun e => v.toList == e.toList) l) := by
 unfold zq130
 refine find_val l (fun e => v.toList == e.toList) (fun i x hx => ?_) (by unfold zq130_L1; simp)
 have hi := (List.getElem?_eq_some_iff.1 hx).1
 unfold zq130_L1
 have hlt : decide ((i : Int) < (l.length : Int)) = true := by simp; omega
 simp only [hlt, if_true, idx_nat, hx, Option.bind_some, w64_succ (n := i) (by omega)]
 split <;> rfl
theorem index_int_eq (l : List Int) (hl : l.length ≤ 4000000000) (v : Int) : zq129 l v = some (fixI (fun e => v == e) l) := by
 unfold zq129
 refine find_val l (fun e => v == e) (fun i x hx => ?_) (by unfold zq129_L1; simp)
 have hi := (List.getElem?_eq_some_iff.1 hx).1
 unfold zq129_L1
 have hlt : decide ((i : Int) < (l.length : Int)) = true := by simp; omega
 simp only [hlt, if_true, idx_nat, hx, Option.bind_some, w64_succ (n := i) (by omega)]
 split <;> rfl
theorem l2Place_eq (x : Line) (hl : x.Stops.length ≤ 4000000000) (v : Int) : zq116 x v = some (fixI (fun e => v == e) x.Stops) := by
 have hc : fixI (fun e => v == e) x.Stops = fixI (fun e => e == v) x.Stops := fixI_congr _ fun e => BEq.comm
 rw [hc]
 unfold zq116
 refine find_val x.Stops (fun e => e == v) (fun i y hx => ?_) (by unfold zq116_L1; simp)
 have hi := (List.getElem?_eq_some_iff.1 hx).1
 unfold zq116_L1
 have hlt : decide ((i : Int) < (x.Stops.length : Int)) = true := by simp; omega
 simp only [hlt, if_true, idx_nat, hx, Option.bind_some, w64_succ (n := i) (by omega)]
 split <;> rfl
theorem bl_comm (a b : List UInt8) : (a == b) = (b == a) := BEq.comm
theorem l2Find_eq (l : List ByteArray) (hl : l.length ≤ 4000000000) (v : ByteArray) : zq109 l v = some (fixI (fun e => v.toList == e.toList) l) := by
 rw [fixI_congr l (q := fun e => e.toList == v.toList) fun e => bl_comm _ _]
 unfold zq109
 refine find_val l (fun e => e.toList == v.toList) (fun i x hx => ?_) (by unfold zq109_L1; simp)
 have hi := (List.getElem?_eq_some_iff.1 hx).1
 unfold zq109_L1
 have hlt : decide ((i : Int) < (l.length : Int)) = true := by simp; omega
 simp only [hlt, if_true, idx_nat, hx, Option.bind_some, w64_succ (n := i) (by omega)]
 split <;> rfl
theorem l2LineNamed_eq (n : Network) (hl : n.Lines.length ≤ 4000000000) (v : ByteArray) : zq112 n v = some (fixI (fun e => v.toList == e.toList) (n.Lines.map (·.Name))) := by
 rw [fixI_map, fixI_congr n.Lines (q := fun e => e.Name.toList == v.toList) fun e => bl_comm _ _]
 unfold zq112
 refine find_val n.Lines (fun e => e.Name.toList == v.toList) (fun i x hx => ?_) (by unfold zq112_L1; simp)
 have hi := (List.getElem?_eq_some_iff.1 hx).1
 unfold zq112_L1
 have hlt : decide ((i : Int) < (n.Lines.length : Int)) = true := by simp; omega
 simp only [hlt, if_true, idx_nat, hx, Option.bind_some, w64_succ (n := i) (by omega)]
 split <;> rfl
def NamesP (l : List ByteArray) : Prop := ∀ (i : Nat) x, l[i]? = some x → NameOK x ∧ fixI (fun e => x.toList == e.toList) l = (i : Int)
def LineP (st : Nat) (x : Line) : Prop := (2 ≤ x.Stops.length ∧ x.Stops.length ≤ 6) ∧ (x.Runs.length : Int) = (x.Stops.length : Int) - 1 ∧
 (∀ (i : Nat) e, x.Stops[i]? = some e → (0 ≤ e ∧ e < (st : Int)) ∧ fixI (fun y => e == y) x.Stops = (i : Int)) ∧ ∀ (i : Nat) r, x.Runs[i]? = some r → 1 ≤ r ∧ r ≤ 60
def Good (n : Network) : Prop := (2 ≤ n.Stops.length ∧ n.Stops.length ≤ 8) ∧ (1 ≤ n.Lines.length ∧ n.Lines.length ≤ 5) ∧ NamesP n.Stops ∧ NamesP (n.Lines.map (·.Name)) ∧ ∀ (i : Nat) x, n.Lines[i]? = some x → LineP n.Stops.length x
noncomputable instance (l : List ByteArray) : Decidable (NamesP l) := Classical.propDecidable _
noncomputable instance (st : Nat) (x : Line) : Decidable (LineP st x) := Classical.propDecidable _
noncomputable instance (n : Network) : Decidable (Good n) := Classical.propDecidable _
def Bd (n : Network) : Prop := n.Stops.length ≤ 1000 ∧ n.Lines.length ≤ 1000 ∧ ∀ x ∈ n.Lines, x.Stops.length ≤ 1000 ∧ x.Runs.length ≤ 1000
theorem areNames_eq (l : List ByteArray) (hl : l.length ≤ 1000) : zq15 l = some (decide (NamesP l)) := by
 unfold zq15
 rw [all_val (hd := Classical.propDecidable _) l (fun i x => NameOK x ∧ fixI (fun e => x.toList == e.toList) l = (i : Int)) (fun i x hx => ?_) (by unfold zq15_L1; simp)]
 ·by_cases h : NamesP l
  ·rw [if_pos (show ∀ (i : Nat) x, l[i]? = some x → NameOK x ∧ fixI (fun e => x.toList == e.toList) l = (i : Int) from h)]; simp [h]
  ·rw [if_neg (show ¬ ∀ (i : Nat) x, l[i]? = some x → NameOK x ∧ fixI (fun e => x.toList == e.toList) l = (i : Int) from h)]; simp [h]
 ·have hi := (List.getElem?_eq_some_iff.1 hx).1
  unfold zq15_L1
  have hlt : decide ((i : Int) < (l.length : Int)) = true := by simp; omega
  simp only [hlt, if_true, idx_nat, hx, Option.bind_some, isName_eq, index_str_eq l (by omega), w64_succ (n := i) (by omega)]
  by_cases h1 : NameOK x
  ·by_cases h2 : fixI (fun e => x.toList == e.toList) l = (i : Int)
   ·left; simp [h1, h2]
   ·right; simp [h1, h2]
  ·right; simp [h1]
theorem lineNames_eq (n : Network) (hl : n.Lines.length ≤ 1000) : zq34 n = some (n.Lines.map (·.Name)) := by
 unfold zq34
 rw [chk_of (by omega)]
 simp only [Option.bind_some]
 rw [fill_loop (fun x : Line => x.Name) n.Lines _ (by simp) (fun i a x y ha hy hx => ?_) (fun a ha => ?_)]
 ·rfl
 ·have hi := (List.getElem?_eq_some_iff.1 hx).1
  unfold zq34_L1
  have hlt : decide ((i : Int) < (n.Lines.length : Int)) = true := by simp; omega
  simp only [hlt, if_true, idx_nat, hx, hy, Option.bind_some, w64_succ (n := i) (by omega), Int.toNat_natCast]
 ·unfold zq34_L1; simp
theorem isStop_eq (n : Network) (e : Int) : zq30 n e = some (decide (0 ≤ e ∧ e < (n.Stops.length : Int))) := by
 unfold zq30
 by_cases h : 0 ≤ e <;> simp [h]
theorem isLine_eq (n : Network) (e : Int) : zq25 n e = some (decide (0 ≤ e ∧ e < (n.Lines.length : Int))) := by
 unfold zq25
 by_cases h : 0 ≤ e <;> simp [h]
theorem isValidLine_eq (n : Network) (l : Line) (h1 : l.Stops.length ≤ 1000) (h2 : l.Runs.length ≤ 1000) : zq31 n l = some (decide (LineP n.Stops.length l)) := by
 unfold zq31
 rw [within_eq]
 have e0 : w64 ((l.Stops.length : Int) - 1) = (l.Stops.length : Int) - 1 := w64_id (by omega)
 simp only [Option.bind_some, e0]
 by_cases a1 : 2 ≤ l.Stops.length ∧ l.Stops.length ≤ 6
 ·have d1 : decide ((2 : Int) ≤ (l.Stops.length : Int) ∧ (l.Stops.length : Int) ≤ 6) = true := by simp; omega
  simp only [d1, Bool.not_true, Bool.false_eq_true, if_false]
  by_cases a2 : (l.Runs.length : Int) = (l.Stops.length : Int) - 1
  ·have d2 : ((l.Runs.length : Int) != (l.Stops.length : Int) - 1) = false := by simp [a2]
   simp only [d2, Option.bind_some, Bool.false_eq_true, if_false]
   rw [all_val (hd := Classical.propDecidable _) l.Stops (fun i e => (0 ≤ e ∧ e < (n.Stops.length : Int)) ∧ fixI (fun y => e == y) l.Stops = (i : Int)) (fun i x hx => ?_) (by unfold zq31_L1; simp)]
   ·rw [all_val (hd := Classical.propDecidable _) l.Runs (fun i r => 1 ≤ r ∧ r ≤ 60) (fun i x hx => ?_) (by unfold zq31_L2; simp)]
    ·by_cases b1 : ∀ (i : Nat) e, l.Stops[i]? = some e → (0 ≤ e ∧ e < (n.Stops.length : Int)) ∧ fixI (fun y => e == y) l.Stops = (i : Int)
     ·rw [if_pos b1]
      by_cases b2 : ∀ (i : Nat) r, l.Runs[i]? = some r → 1 ≤ r ∧ r ≤ 60
      ·rw [if_pos b2]
       have : LineP n.Stops.length l := ⟨a1, a2, b1, b2⟩
       simp [this]
      ·rw [if_neg b2]
       have : ¬ LineP n.Stops.length l := fun h => b2 h.2.2.2
       simp [this]
     ·rw [if_neg b1]
      have : ¬ LineP n.Stops.length l := fun h => b1 h.2.2.1
      simp [this]
    ·have hi := (List.getElem?_eq_some_iff.1 hx).1
     unfold zq31_L2
     have hlt : decide ((i : Int) < (l.Runs.length : Int)) = true := by simp; omega
     simp only [hlt, if_true, idx_nat, hx, Option.bind_some, within_eq, w64_succ (n := i) (by omega)]
     by_cases b : 1 ≤ x ∧ x ≤ 60
     ·left; simp [b]
     ·right; simp [b]
   ·have hi := (List.getElem?_eq_some_iff.1 hx).1
    unfold zq31_L1
    have hlt : decide ((i : Int) < (l.Stops.length : Int)) = true := by simp; omega
    simp only [hlt, if_true, idx_nat, hx, Option.bind_some, isStop_eq, index_int_eq l.Stops (by omega), w64_succ (n := i) (by omega)]
    by_cases b1 : 0 ≤ x ∧ x < (n.Stops.length : Int)
    ·by_cases b2 : fixI (fun y => x == y) l.Stops = (i : Int)
     ·left; simp [b1, b2]
     ·right; simp [b1, b2]
    ·right; simp [b1]
  ·have d2 : ((l.Runs.length : Int) != (l.Stops.length : Int) - 1) = true := by simp [a2]
   have : ¬ LineP n.Stops.length l := fun h => a2 h.2.1
   simp [d2, this]
 ·have d1 : decide ((2 : Int) ≤ (l.Stops.length : Int) ∧ (l.Stops.length : Int) ≤ 6) = false := by simp; omega
  have : ¬ LineP n.Stops.length l := fun h => a1 h.1
  simp [d1, this]
theorem l2Line_eq (l : Line) (st : Nat) (hst : st ≤ 1000) (h1 : l.Stops.length ≤ 1000) (h2 : l.Runs.length ≤ 1000) : zq111 l (st : Int) = some (decide (NameOK l.Name ∧ LineP st l)) := by
 unfold zq111
 rw [l2Name_eq]
 have e0 : w64 ((l.Stops.length : Int) - 1) = (l.Stops.length : Int) - 1 := w64_id (by omega)
 have e1 : w64 ((st : Int) - 1) = (st : Int) - 1 := w64_id (by omega)
 simp only [Option.bind_some, e0, l1In_eq]
 by_cases a0 : NameOK l.Name
 ·simp only [a0, decide_true, Bool.not_true, Bool.false_eq_true, if_false, true_and]
  by_cases a1 : 2 ≤ l.Stops.length ∧ l.Stops.length ≤ 6
  ·have d1 : decide ((2 : Int) ≤ (l.Stops.length : Int) ∧ (l.Stops.length : Int) ≤ 6) = true := by simp; omega
   simp only [d1, Bool.not_true, Bool.false_eq_true, if_false]
   by_cases a2 : (l.Runs.length : Int) = (l.Stops.length : Int) - 1
   ·have d2 : ((l.Runs.length : Int) != (l.Stops.length : Int) - 1) = false := by simp [a2]
    simp only [d2, Option.bind_some, Bool.false_eq_true, if_false]
    rw [all_val (hd := Classical.propDecidable _) l.Stops (fun i e => (0 ≤ e ∧ e < (st : Int)) ∧ fixI (fun y => e == y) l.Stops = (i : Int)) (fun i x hx => ?_) (by unfold zq111_L1; simp)]
    ·rw [all_val (hd := Classical.propDecidable _) l.Runs (fun i r => 1 ≤ r ∧ r ≤ 60) (fun i x hx => ?_) (by unfold zq111_L2; simp)]
     ·by_cases b1 : ∀ (i : Nat) e, l.Stops[i]? = some e → (0 ≤ e ∧ e < (st : Int)) ∧ fixI (fun y => e == y) l.Stops = (i : Int)
      ·rw [if_pos b1]
       by_cases b2 : ∀ (i : Nat) r, l.Runs[i]? = some r → 1 ≤ r ∧ r ≤ 60
       ·rw [if_pos b2]
        have : LineP st l := ⟨a1, a2, b1, b2⟩
        simp [this]
       ·rw [if_neg b2]
        have : ¬ LineP st l := fun h => b2 h.2.2.2
        simp [this]
      ·rw [if_neg b1]
       have : ¬ LineP st l := fun h => b1 h.2.2.1
       simp [this]
     ·have hi := (List.getElem?_eq_some_iff.1 hx).1
      unfold zq111_L2
      have hlt : decide ((i : Int) < (l.Runs.length : Int)) = true := by simp; omega
      simp only [hlt, if_true, idx_nat, hx, Option.bind_some, l1In_eq, w64_succ (n := i) (by omega)]
      by_cases b : 1 ≤ x ∧ x ≤ 60
      ·left; simp [b]
      ·right; simp [b]
    ·have hi := (List.getElem?_eq_some_iff.1 hx).1
     unfold zq111_L1
     have hlt : decide ((i : Int) < (l.Stops.length : Int)) = true := by simp; omega
     simp only [hlt, if_true, idx_nat, hx, Option.bind_some, l1In_eq, e1, l2Place_eq l (by omega), w64_succ (n := i) (by omega)]
     by_cases b1 : 0 ≤ x ∧ x < (st : Int)
     ·have d3 : decide (0 ≤ x ∧ x ≤ (st : Int) - 1) = true := by simp; omega
      by_cases b2 : fixI (fun y => x == y) l.Stops = (i : Int)
      ·left; simp only [d3]; simp [b1, b2]
      ·right; simp only [d3]; simp [b1, b2]
     ·have d3 : decide (0 ≤ x ∧ x ≤ (st : Int) - 1) = false := by simp; omega
      right; simp only [d3]; simp [b1]
   ·have d2 : ((l.Runs.length : Int) != (l.Stops.length : Int) - 1) = true := by simp [a2]
    have : ¬ LineP st l := fun h => a2 h.2.1
    simp [d2, this]
  ·have d1 : decide ((2 : Int) ≤ (l.Stops.length : Int) ∧ (l.Stops.length : Int) ≤ 6) = false := by simp; omega
   have : ¬ LineP st l := fun h => a1 h.1
   simp [d1, this]
 ·simp [a0]
theorem valid_eq (n : Network) (h : Bd n) : zq7 n = some (decide (Good n)) := by
 obtain ⟨h1, h2, h3⟩ := h
 unfold zq7
 simp only [within_eq, Option.bind_some, areNames_eq n.Stops h1, lineNames_eq n h2, areNames_eq (n.Lines.map (·.Name)) (by simpa using h2)]
 by_cases a1 : 2 ≤ n.Stops.length ∧ n.Stops.length ≤ 8
 ·have d1 : decide ((2 : Int) ≤ (n.Stops.length : Int) ∧ (n.Stops.length : Int) ≤ 8) = true := by simp; omega
  simp only [d1, Bool.not_true, Bool.false_eq_true, if_false]
  by_cases a2 : 1 ≤ n.Lines.length ∧ n.Lines.length ≤ 5
  ·have d2 : decide ((1 : Int) ≤ (n.Lines.length : Int) ∧ (n.Lines.length : Int) ≤ 5) = true := by simp; omega
   simp only [d2, Bool.not_true, Bool.false_eq_true, if_false]
   by_cases a3 : NamesP n.Stops
   ·simp only [a3, decide_true, Bool.not_true, Bool.false_eq_true, if_false]
    by_cases a4 : NamesP (n.Lines.map (·.Name))
    ·simp only [a4, decide_true, Bool.not_true, Option.bind_some, Bool.false_eq_true, if_false]
     rw [all_val (hd := Classical.propDecidable _) n.Lines (fun i x => LineP n.Stops.length x) (fun i x hx => ?_) (by unfold zq7_L1; simp)]
     ·by_cases b1 : ∀ (i : Nat) x, n.Lines[i]? = some x → LineP n.Stops.length x
      ·rw [if_pos b1]
       have : Good n := ⟨a1, a2, a3, a4, b1⟩
       simp [this]
      ·rw [if_neg b1]
       have : ¬ Good n := fun h => b1 h.2.2.2.2
       simp [this]
     ·have hi := (List.getElem?_eq_some_iff.1 hx).1
      obtain ⟨g1, g2⟩ := h3 x (List.mem_of_getElem? hx)
      unfold zq7_L1
      have hlt : decide ((i : Int) < (n.Lines.length : Int)) = true := by simp; omega
      simp only [hlt, if_true, idx_nat, hx, Option.bind_some, isValidLine_eq n x g1 g2, w64_succ (n := i) (by omega)]
      by_cases b : LineP n.Stops.length x
      ·left; simp [b]
      ·right; simp [b]
    ·have : ¬ Good n := fun h => a4 h.2.2.2.1
     simp [a4, this]
   ·have : ¬ Good n := fun h => a3 h.2.2.1
    simp [a3, this]
  ·have d2 : decide ((1 : Int) ≤ (n.Lines.length : Int) ∧ (n.Lines.length : Int) ≤ 5) = false := by simp; omega
   have : ¬ Good n := fun h => a2 h.2.1
   simp [d2, this]
 ·have d1 : decide ((2 : Int) ≤ (n.Stops.length : Int) ∧ (n.Stops.length : Int) ≤ 8) = false := by simp; omega
  have : ¬ Good n := fun h => a1 h.1
  simp [d1, this]
theorem good_eq (n : Network) (h : Bd n) : zq110 n = some (decide (Good n)) := by
 obtain ⟨h1, h2, h3⟩ := h
 unfold zq110
 simp only [l1In_eq, Option.bind_some]
 by_cases a1 : 2 ≤ n.Stops.length ∧ n.Stops.length ≤ 8
 ·have d1 : decide ((2 : Int) ≤ (n.Stops.length : Int) ∧ (n.Stops.length : Int) ≤ 8) = true := by simp; omega
  simp only [d1, Bool.not_true, Bool.false_eq_true, if_false]
  by_cases a2 : 1 ≤ n.Lines.length ∧ n.Lines.length ≤ 5
  ·have d2 : decide ((1 : Int) ≤ (n.Lines.length : Int) ∧ (n.Lines.length : Int) ≤ 5) = true := by simp; omega
   simp only [d2, Bool.not_true, Option.bind_some, Bool.false_eq_true, if_false]
   rw [all_val (hd := Classical.propDecidable _) n.Stops (fun i x => NameOK x ∧ fixI (fun e => x.toList == e.toList) n.Stops = (i : Int)) (fun i x hx => ?_) (by unfold zq110_L1; simp)]
   ·rw [all_val (hd := Classical.propDecidable _) n.Lines (fun i x => (NameOK x.Name ∧ LineP n.Stops.length x) ∧ fixI (fun e => x.Name.toList == e.toList) (n.Lines.map (·.Name)) = (i : Int)) (fun i x hx => ?_) (by unfold zq110_L2; simp)]
    ·by_cases b1 : NamesP n.Stops
     ·rw [if_pos (show ∀ (i : Nat) x, n.Stops[i]? = some x → NameOK x ∧ fixI (fun e => x.toList == e.toList) n.Stops = (i : Int) from b1)]
      by_cases b2 : ∀ (i : Nat) x, n.Lines[i]? = some x → (NameOK x.Name ∧ LineP n.Stops.length x) ∧ fixI (fun e => x.Name.toList == e.toList) (n.Lines.map (·.Name)) = (i : Int)
      ·rw [if_pos b2]
       have : Good n := ⟨a1, a2, b1, fun i y hy => by
        rw [List.getElem?_map] at hy
        obtain ⟨x, hx, rfl⟩ := Option.map_eq_some_iff.1 hy
        exact ⟨(b2 i x hx).1.1, (b2 i x hx).2⟩, fun i x hx => (b2 i x hx).1.2⟩
       simp [this]
      ·rw [if_neg b2]
       have : ¬ Good n := fun h => b2 fun i x hx => by
        have h4 := h.2.2.2.1 i x.Name (by rw [List.getElem?_map, hx]; rfl)
        exact ⟨⟨h4.1, h.2.2.2.2 i x hx⟩, h4.2⟩
       simp [this]
     ·rw [if_neg (show ¬ ∀ (i : Nat) x, n.Stops[i]? = some x → NameOK x ∧ fixI (fun e => x.toList == e.toList) n.Stops = (i : Int) from b1)]
      have : ¬ Good n := fun h => b1 h.2.2.1
      simp [this]
    ·have hi := (List.getElem?_eq_some_iff.1 hx).1
     obtain ⟨g1, g2⟩ := h3 x (List.mem_of_getElem? hx)
     unfold zq110_L2
     have hlt : decide ((i : Int) < (n.Lines.length : Int)) = true := by simp; omega
     simp only [hlt, if_true, idx_nat, hx, Option.bind_some, l2Line_eq x n.Stops.length h1 g1 g2, l2LineNamed_eq n (by omega), w64_succ (n := i) (by omega)]
     by_cases b1 : NameOK x.Name ∧ LineP n.Stops.length x
     ·by_cases b2 : fixI (fun e => x.Name.toList == e.toList) (n.Lines.map (·.Name)) = (i : Int)
      ·left; simp [b1, b2]
      ·right; simp [b1, b2]
     ·right; simp [b1]
   ·have hi := (List.getElem?_eq_some_iff.1 hx).1
    unfold zq110_L1
    have hlt : decide ((i : Int) < (n.Stops.length : Int)) = true := by simp; omega
    simp only [hlt, if_true, idx_nat, hx, Option.bind_some, l2Name_eq, l2Find_eq n.Stops (by omega), w64_succ (n := i) (by omega)]
    by_cases b1 : NameOK x
    ·by_cases b2 : fixI (fun e => x.toList == e.toList) n.Stops = (i : Int)
     ·left; simp [b1, b2]
     ·right; simp [b1, b2]
    ·right; simp [b1]
  ·have d2 : decide ((1 : Int) ≤ (n.Lines.length : Int) ∧ (n.Lines.length : Int) ≤ 5) = false := by simp; omega
   have : ¬ Good n := fun h => a2 h.2.1
   simp [d2, this]
 ·have d1 : decide ((2 : Int) ≤ (n.Stops.length : Int) ∧ (n.Stops.length : Int) ≤ 8) = false := by simp; omega
  have : ¬ Good n := fun h => a1 h.1
  simp [d1, this]
theorem l1Own_eq (l : List Int) (h : l.length ≤ 1000) : zq105 l = some l := by
 unfold zq105
 rw [chk_of (by simp; omega)]; rfl
theorem l2Own_eq (n : Network) (h : Bd n) : zq114 n = some n := by
 obtain ⟨h1, h2, h3⟩ := h
 unfold zq114
 rw [chk_of (by simp; omega)]
 simp only [Option.bind_some]
 rw [app_loop (fun x : Line => x) n.Lines (fun i a x ha hx => ?_) (fun a ha => ?_)]
 ·simp only [Option.bind_some, List.map_id', List.nil_append]
 ·have hi := (List.getElem?_eq_some_iff.1 hx).1
  obtain ⟨g1, g2⟩ := h3 x (List.mem_of_getElem? hx)
  unfold zq114_L1
  have hlt : decide ((i : Int) < (n.Lines.length : Int)) = true := by simp; omega
  have hch : ∀ y : Line, chk (a.length + ([y] : List Line).length ≤ 4294967296) = some () := fun y => chk_of (by simp; omega)
  simp only [hlt, if_true, idx_nat, hx, Option.bind_some, l1Own_eq _ g1, l1Own_eq _ g2, hch, w64_succ (n := i) (by omega)]
 ·unfold zq114_L1; simp
theorem l2Own_t_eq (n : Network) (h : Bd n) : zq115 n = some n := by
 have : zq115 n = zq114 n := rfl
 rw [this]; exact l2Own_eq n h
theorem l2Back_eq (s : List Int) (hs : s.length ≤ 1000) : zq107 s = some s.reverse := by
 unfold zq107
 have e0 : w64 ((s.length : Int) - 1) = (s.length : Int) - 1 := w64_id (by omega)
 rw [e0]
 have h := iter_rule (step := zq107_L1 s) (fun m a => ∃ j : Nat, a.1 = (s.length : Int) - 1 - j ∧ m + j = s.length ∧ a.2 = s.reverse.take j) (fun b => b = s.reverse) ?_ (k := s.length) (a := ((s.length : Int) - 1, [])) ⟨0, by simp, by omega, by simp⟩
 ·obtain ⟨b, hb, rfl⟩ := h
  rw [hb]; rfl
 rintro m ⟨v, i⟩ ⟨j, hv, hm, hi⟩
 simp only at hv hi
 subst hv
 by_cases hlt : j < s.length
 ·left
  have ev : (s.length : Int) - 1 - j = ((s.length - 1 - j : Nat) : Int) := by omega
  rw [ev]
  obtain ⟨e, he⟩ := get_ex (l := s) (i := s.length - 1 - j) (by omega)
  have hd : decide ((0 : Int) ≤ ((s.length - 1 - j : Nat) : Int)) = true := by simp
  have hlen : i.length = j := by rw [hi]; simp; omega
  have hch : chk (i.length + ([e] : List Int).length ≤ 4294967296) = some () := chk_of (by simp; omega)
  have ev2 : w64 (((s.length - 1 - j : Nat) : Int) - 1) = (s.length : Int) - 1 - ((j + 1 : Nat) : Int) := by rw [w64_id (by omega)]; omega
  refine ⟨((s.length : Int) - 1 - ((j + 1 : Nat) : Int), i ++ [e]), m - 1, ?_, by omega, j + 1, rfl, by omega, ?_⟩
  ·unfold zq107_L1
   simp only [hd, if_true, idx_nat, he, hch, Option.bind_some, ev2]
  ·show i ++ [e] = _
   rw [take_succ (x := e) (by rw [List.getElem?_reverse hlt]; exact he), hi]
 ·right
  have ej : j = s.length := by omega
  subst ej
  have hd : decide ((0 : Int) ≤ (s.length : Int) - 1 - (s.length : Int)) = false := by simp; omega
  refine ⟨i, by unfold zq107_L1; simp only [hd, Bool.false_eq_true, if_false], ?_⟩
  rw [hi, List.take_of_length_le (by simp)]
theorem l2BackF_eq (s : List Int) (hs : s.length ≤ 1000) : zq108 s = some s.reverse := l2Back_eq s hs
def LB (x : Line) : Prop := (2 ≤ x.Stops.length ∧ x.Stops.length ≤ 10) ∧ 1 ≤ x.Runs.length ∧ x.Runs.length ≤ 10
def NB (n : Network) : Prop := (2 ≤ n.Stops.length ∧ n.Stops.length ≤ 6) ∧ (1 ≤ n.Lines.length ∧ n.Lines.length ≤ 8) ∧ ∀ x ∈ n.Lines, LB x
theorem NB.bd {n : Network} (h : NB n) : Bd n := ⟨by have := h.1; omega, by have := h.2.1; omega, fun x hx => by have := h.2.2 x hx; unfold LB at this; omega⟩
theorem l1Num_ok (n : Int) (h0 : 0 ≤ n) (h1 : n < 10) : ∃ r, zq103 n = some r ∧ r.size ≤ 10 := by
 have e : zq103 n = zq103_F (zq103_k 4294967295) n := rfl
 rw [e]
 unfold zq103_F
 have d1 : decide (n < 0) = false := by simp; omega
 have d2 : decide (n < 10) = true := by simp; omega
 have e1 : w64 (n + 1) = n + 1 := w64_id (by omega)
 have hs : (str [48, 49, 50, 51, 52, 53, 54, 55, 56, 57]).size = 10 := rfl
 simp only [d1, d2, Bool.false_eq_true, if_false, if_true, e1, hs]
 rw [chk_of (by omega)]
 refine ⟨_, rfl, ?_⟩
 rw [ByteArray.size_extract, hs]
 omega
theorem line_ok {k : Nat} {c : l1Cur} (name : ByteArray) (stops : Int) (hs : 2 ≤ stops ∧ stops ≤ 1000) (h : Cur k c) (hk : k ≤ 1000000000) : ∃ r, zq84 c name stops = some r ∧ Cur (k + 40) r.2 ∧ LB r.1 := by
 unfold zq84
 obtain ⟨r, hr, hc, h0, h1⟩ := pick_ok stops h (by omega)
 obtain ⟨r1, hr1, hc1, h10, h11⟩ := pick_ok 3 hc (by omega)
 simp only [hr, hr1, Option.bind_some]
 have e1 : w64 (2 + r1.1) = ((2 + r1.1.toNat : Nat) : Int) := by rw [w64_id (by omega)]; omega
 rw [e1]
 have loop : ∃ b, iter (zq84_L1 name stops) (r.1, ((2 + r1.1.toNat : Nat) : Int), r1.2.code_, r1.2.at_, r1.2.seed_.v, []) = some b ∧ (Cur (k + 4 + 2 * 4) ⟨b.1, b.2.1, ⟨b.2.2.1⟩⟩ ∧ 1 ≤ b.2.2.2.length ∧ b.2.2.2.length ≤ 4) := by
  refine iter_rule (fun m a => (0 ≤ a.1 ∧ a.1 < stops) ∧ a.2.1 = (m : Int) ∧ m + a.2.2.2.2.2.length ≤ 4 ∧ (1 ≤ m ∨ 1 ≤ a.2.2.2.2.2.length) ∧ Cur (k + 4 + 2 * (4 - m)) ⟨a.2.2.1, a.2.2.2.1, ⟨a.2.2.2.2.1⟩⟩) _ ?_ (k := 2 + r1.1.toNat) ⟨⟨h0, by show r.1 < stops; omega⟩, rfl, by simp; omega, .inl (by omega), hc1.mono (by omega)⟩
  rintro m ⟨v, v1, v2, v3, v4, v5⟩ ⟨hv, hv1, hl, hne, hcur⟩
  simp only at hv hv1 hl hne hcur
  subst hv1
  unfold zq84_L1
  cases m with
  | zero => right; exact ⟨_, by simp; rfl, hcur, by show 1 ≤ v5.length; omega, by show v5.length ≤ 4; omega⟩
  | succ m =>
   left
   have hpos : decide ((0 : Int) < ((m + 1 : Nat) : Int)) = true := by simp
   obtain ⟨r3, hr3, hc3, h30, h31⟩ := pick_ok 2 hcur (by omega)
   have hpl := l2Place_eq (⟨name, v5, []⟩ : Line) (by show v5.length ≤ _; omega) v
   have hch : chk (v5.length + ([v] : List Int).length ≤ 4294967296) = some () := chk_of (by simp; omega)
   have hne0 : chk (stops ≠ 0) = some () := chk_of (by omega)
   have w1 : w64 (v + 1) = v + 1 := w64_id (by omega)
   have w2 : w64 (v + 1 + r3.1) = v + 1 + r3.1 := w64_id (by omega)
   have ht := tmod_rng (a := v + 1 + r3.1) (b := stops) (by omega) (by omega)
   simp only [hpos, if_true, hpl, hch, hr3, hne0, w1, w2, Option.bind_some]
   have w3 : w64 (((m + 1 : Nat) : Int) - 1) = (m : Int) := w64_pred (by omega)
   split
   ·refine ⟨_, m, by simp only [Option.bind_some]; rfl, by omega, ht, w3, ?_, .inr ?_, ?_⟩
    ·simp; omega
    ·simp
    ·exact hc3.mono (by omega)
   ·rename_i hn
    refine ⟨_, m, by simp only [Option.bind_some]; rfl, by omega, ht, w3, ?_, .inr ?_, ?_⟩
    ·show m + v5.length ≤ 4; omega
    ·show 1 ≤ v5.length
     cases v5 with
     | nil => simp [fixI] at hn
     | cons a l => simp
    ·exact hc3.mono (by omega)
 obtain ⟨⟨v7, v8, v9, v10⟩, hb, hcb, hlb⟩ := loop
 simp only at hcb hlb
 rw [hb]
 simp only [Option.bind_some]
 -- at least two stops
 have two : ∃ v11 : List Int, (if decide ((v10.length : Int) < 2) = true then (idx v10 0).bind fun e1 => (chk ((stops : Int) ≠ 0)).bind fun u4 => (chk (v10.length + ([((w64 (e1 + 1)).tmod stops)] : List Int).length ≤ 4294967296)).bind fun u5 => some (v10 ++ ([((w64 (e1 + 1)).tmod stops)] : List Int)) else some v10) = some v11 ∧ 2 ≤ v11.length ∧ v11.length ≤ 5 := by
  by_cases h2 : (v10.length : Int) < 2
  ·obtain ⟨e, he, _⟩ := idx_lt (l := v10) (i := 0) (by omega) (by omega)
   have hch : ∀ y : Int, chk (v10.length + ([y] : List Int).length ≤ 4294967296) = some () := fun y => chk_of (by simp; omega)
   have hne0 : chk (stops ≠ 0) = some () := chk_of (by omega)
   refine ⟨v10 ++ [(w64 (e + 1)).tmod stops], by simp only [h2, decide_true, if_true, he, hne0, hch, Option.bind_some], ?_, ?_⟩
   ·simp; omega
   ·simp; omega
  ·exact ⟨v10, by simp [h2], by omega, by omega⟩
 obtain ⟨v11, hv11, l1, l2⟩ := two
 rw [hv11]
 simp only [Option.bind_some]
 have loop2 : ∃ b, iter (zq84_L2 v11) (1, v7, v8, v9, []) = some b ∧ (Cur (k + 40) ⟨b.1, b.2.1, ⟨b.2.2.1⟩⟩ ∧ b.2.2.2.length + 1 = v11.length) := by
  refine iter_rule (fun m a => ∃ i : Nat, a.1 = (i : Int) ∧ m + i = v11.length ∧ a.2.2.2.2.length + 1 = i ∧ Cur (k + 12 + 2 * i) ⟨a.2.1, a.2.2.1, ⟨a.2.2.2.1⟩⟩) _ ?_ (k := v11.length - 1) ⟨1, rfl, by omega, rfl, hcb.mono (by omega)⟩
  rintro m ⟨v12, v13, v14, v15, v16⟩ ⟨i, hi, hm, hl, hcur⟩
  simp only at hi hl hcur
  subst hi
  unfold zq84_L2
  by_cases hlt : i < v11.length
  ·left
   have hd : decide ((i : Int) < (v11.length : Int)) = true := by simp; omega
   obtain ⟨r5, hr5, hc5, _⟩ := pick_ok 12 hcur (by omega)
   have hch : ∀ y : Int, chk (v16.length + ([y] : List Int).length ≤ 4294967296) = some () := fun y => chk_of (by simp; omega)
   refine ⟨_, m - 1, by simp only [hd, if_true, hr5, hch, Option.bind_some, w64_succ (n := i) (by omega)]; rfl, by omega, i + 1, rfl, by omega, ?_, ?_⟩
   ·simp; omega
   ·exact hc5.mono (by omega)
  ·right
   have hd : decide ((i : Int) < (v11.length : Int)) = false := by simp; omega
   refine ⟨_, by simp only [hd, Bool.false_eq_true, if_false]; rfl, ?_, ?_⟩
   ·exact hcur.mono (by omega)
   ·show v16.length + 1 = _; omega
 obtain ⟨⟨v17, v18, v19, v20⟩, hb2, hcb2, hl2⟩ := loop2
 simp only at hcb2 hl2
 rw [hb2]
 simp only [Option.bind_some]
 exact ⟨_, rfl, hcb2, ⟨l1, by show v11.length ≤ 10; omega⟩, by show 1 ≤ v20.length; omega, by show v20.length ≤ 10; omega⟩
theorem lineF_ok {k : Nat} {c : l1Cur} (name : ByteArray) (stops : Int) (hs : 2 ≤ stops ∧ stops ≤ 1000) (h : Cur k c) (hk : k ≤ 1000000000) : ∃ r, zq85 c name stops = some r ∧ Cur (k + 40) r.2 ∧ LB r.1 := line_ok name stops hs h hk
theorem six_len (i : Nat) (h2 : 2 ≤ i) (h6 : i ≤ 6) (l : List ByteArray) (hl : l.length = 6) : 2 ≤ ((l.take i).drop (0 : Int).toNat).length ∧ ((l.take i).drop (0 : Int).toNat).length ≤ 6 := by
 simp; omega
theorem networkT_ok {k : Nat} {c : l1Cur} (h : Cur k c) (hk : k ≤ 500000000) : ∃ r, zq87 c = some r ∧ Cur (k + 300) r.2 ∧ NB r.1 := by
 unfold zq87
 obtain ⟨r, hr, hc, h0, h1⟩ := pick_ok 5 h (by omega)
 have e1 : w64 (2 + r.1) = 2 + r.1 := w64_id (by omega)
 have hsix : ([(str [112, 111, 114, 116]), (str [109, 105, 108, 108]), (str [112, 97, 114, 107]), (str [104, 97, 108, 108]), (str [100, 111, 99, 107]), (str [102, 97, 105, 114])] : List ByteArray).length = 6 := rfl
 simp only [hr, Option.bind_some, e1, hsix]
 rw [chk_of (by omega)]
 obtain ⟨r1, hr1, hc1, h10, h11⟩ := pick_ok 3 hc (by omega)
 have e2 : w64 (1 + r1.1) = ((1 + r1.1.toNat : Nat) : Int) := by rw [w64_id (by omega)]; omega
 simp only [hr1, Option.bind_some, e2]
 have loop : ∃ b, iter (zq87_L1 r) (((1 + r1.1.toNat : Nat) : Int), r1.2.code_, r1.2.at_, r1.2.seed_.v, []) = some b ∧ (Cur (k + 4 + 40 * 3) ⟨b.1, b.2.1, ⟨b.2.2.1⟩⟩ ∧ (1 ≤ b.2.2.2.length ∧ b.2.2.2.length ≤ 3) ∧ ∀ x ∈ b.2.2.2, LB x) := by
  refine iter_rule (fun m a => a.1 = (m : Int) ∧ m + a.2.2.2.2.length ≤ 3 ∧ 1 ≤ m + a.2.2.2.2.length ∧ (∀ x ∈ a.2.2.2.2, LB x) ∧ Cur (k + 4 + 40 * (3 - m)) ⟨a.2.1, a.2.2.1, ⟨a.2.2.2.1⟩⟩) _ ?_ (k := 1 + r1.1.toNat) ⟨rfl, by simp; omega, by simp, by simp, hc1.mono (by omega)⟩
  rintro m ⟨x, v, v1, v2, v3⟩ ⟨hx, hl, hl1, hlb, hcur⟩
  simp only at hx hl hl1 hlb hcur
  subst hx
  unfold zq87_L1
  cases m with
  | zero => right; exact ⟨_, by simp; rfl, hcur, ⟨by show 1 ≤ v3.length; omega, by show v3.length ≤ 3; omega⟩, hlb⟩
  | succ m =>
   left
   have hpos : decide ((0 : Int) < ((m + 1 : Nat) : Int)) = true := by simp
   obtain ⟨r4, hr4, hs4⟩ := l1Num_ok ((m + 1 : Nat) : Int) (by omega) (by omega)
   have hs : (str [108]).size = 1 := rfl
   have hch : chk ((str [108]).size + r4.size ≤ 4294967296) = some () := chk_of (by omega)
   obtain ⟨r5, hr5, hc5, hb5⟩ := lineF_ok (str [108] ++ r4) (2 + r.1) (by omega) hcur (by omega)
   have hch2 : ∀ y : Line, chk (v3.length + ([y] : List Line).length ≤ 4294967296) = some () := fun y => chk_of (by simp; omega)
   refine ⟨_, m, by simp only [hpos, if_true, hr4, hch, e1, hr5, hch2, Option.bind_some]; rfl, by omega, ?_, ?_, ?_, ?_, ?_⟩
   ·exact w64_pred (by omega)
   ·simp; omega
   ·simp; omega
   ·intro y hy
    rcases List.mem_append.1 hy with hy | hy
    ·exact hlb y hy
    ·simp at hy; subst hy; exact hb5
   ·exact hc5.mono (by omega)
 obtain ⟨⟨v4, v5, v6, v7⟩, hb, hcb, hlb, hall⟩ := loop
 simp only at hcb hlb hall
 rw [hb]
 simp only [Option.bind_some]
 obtain ⟨r6, hr6, hc6⟩ := one_ok 2 hcb (by omega)
 simp only [hr6, Option.bind_some]
 have fin : ∀ (v8 : List UInt8) (v9 v10 : Int) (v11 : List Line), Cur (k + 200) ⟨v8, v9, ⟨v10⟩⟩ → (1 ≤ v11.length ∧ v11.length ≤ 8) → (∀ x ∈ v11, LB x) →
   ∃ r', ((zq115 (⟨((([(str [112, 111, 114, 116]), (str [109, 105, 108, 108]), (str [112, 97, 114, 107]), (str [104, 97, 108, 108]), (str [100, 111, 99, 107]), (str [102, 97, 105, 114])] : List ByteArray).take (2 + r.1).toNat).drop (0 : Int).toNat), v11⟩ : Network)).bind fun r11 => some ((⟨r11.Stops, r11.Lines⟩ : Network), (⟨v8, v9, (⟨v10⟩ : IK .u64)⟩ : l1Cur))) = some r' ∧ Cur (k + 300) r'.2 ∧ NB r'.1 := by
  intro v8 v9 v10 v11 g1 g2 g3
  have hst := six_len (2 + r.1).toNat (by omega) (by omega) _ hsix
  have hnb : NB (⟨((([(str [112, 111, 114, 116]), (str [109, 105, 108, 108]), (str [112, 97, 114, 107]), (str [104, 97, 108, 108]), (str [100, 111, 99, 107]), (str [102, 97, 105, 114])] : List ByteArray).take (2 + r.1).toNat).drop (0 : Int).toNat), v11⟩ : Network) := ⟨hst, g2, g3⟩
  rw [l2Own_t_eq _ hnb.bd]
  exact ⟨_, rfl, g1.mono (by omega), hnb⟩
 split
 ·obtain ⟨e, he, _, hem⟩ := idx_lt (l := v7) (i := 0) (by omega) (by omega)
  obtain ⟨g1, g2⟩ := hall e hem
  have hch2 : ∀ y : Line, chk (v7.length + ([y] : List Line).length ≤ 4294967296) = some () := fun y => chk_of (by simp; omega)
  simp only [he, l2BackF_eq e.Stops (by omega), l2BackF_eq e.Runs (by omega), hch2, Option.bind_some]
  refine fin _ _ _ _ (hc6.mono (by omega)) (by simp; omega) fun y hy => ?_
  rcases List.mem_append.1 hy with hy | hy
  ·exact hall y hy
  ·simp at hy; subst hy
   exact ⟨by simpa using g1, by simpa using g2⟩
 ·simp only [Option.bind_some]
  exact fin _ _ _ _ (hc6.mono (by omega)) (by omega) hall
theorem anyNetwork_ok {k : Nat} {c : l1Cur} (h : Cur k c) (hk : k ≤ 200000000) : ∃ r, zq75 c = some r ∧ Cur (k + 1000) r.2 ∧ Bd r.1 := by
 unfold zq75
 obtain ⟨r, hr, hc, hnb⟩ := networkT_ok h (by omega)
 obtain ⟨n1, n2, n3⟩ := hnb
 obtain ⟨r1, hr1, hc1, h10, h11⟩ := pick_ok (r.1.Lines.length : Int) hc (by omega)
 obtain ⟨e, he, he2, hem⟩ := idx_lt (l := r.1.Lines) (i := r1.1) h10 (by omega)
 obtain ⟨g1, g2⟩ := n3 e hem
 obtain ⟨r2, hr2, hc2, _⟩ := pick_ok 24 hc1 (by omega)
 simp only [hr, hr1, he, hr2, Option.bind_some]
 have fin : ∀ (v : List UInt8) (v1 v2 : Int) (v3 : ByteArray) (v4 : List ByteArray) (v5 : List Line) (v6 : List Int), Cur (k + 900) ⟨v, v1, ⟨v2⟩⟩ → v4.length ≤ 6 → v5.length = r.1.Lines.length → (∀ x ∈ v5, LB x) → v6.length ≤ 11 →
   ∃ r', ((idx v5 r1.1).bind fun e9 => some ((⟨v4, (v5.set r1.1.toNat (⟨v3, e9.Stops, v6⟩ : Line))⟩ : Network), (⟨v, v1, (⟨v2⟩ : IK .u64)⟩ : l1Cur))) = some r' ∧ Cur (k + 1000) r'.2 ∧ Bd r'.1 := by
  intro v v1 v2 v3 v4 v5 v6 q1 q2 q3 q4 q5
  obtain ⟨e9, he9, _, hm9⟩ := idx_lt (l := v5) (i := r1.1) h10 (by omega)
  rw [he9]
  refine ⟨_, rfl, q1.mono (by omega), by show v4.length ≤ _; omega, by simp; omega, fun x hx => ?_⟩
  rcases List.mem_or_eq_of_mem_set hx with hx | hx
  ·have := q4 x hx
   unfold LB at this; omega
  ·subst hx
   have := q4 e9 hm9
   unfold LB at this
   exact ⟨by show e9.Stops.length ≤ _; omega, by show v6.length ≤ _; omega⟩
 split
 ·obtain ⟨r4, hr4, hc4, _⟩ := ofw_ok ([(str [109, 105, 108, 108]), (str []), (str [65]), (str [97, 98, 99, 100, 101, 102, 103, 104]), (str [97, 98, 99, 100, 101, 102, 103, 104, 105])] : List ByteArray) (by simp) hc2 (by omega)
  obtain ⟨e2, he2', _⟩ := idx_lt (l := r.1.Stops) (i := 0) (by omega) (by omega)
  simp only [hr4, he2', Option.bind_some, flb_go]
  exact fin _ _ _ _ _ _ _ (hc4.mono (by omega)) (by simp; omega) rfl n3 (by omega)
 split
 ·obtain ⟨r5, hr5, hc5, _⟩ := ofw_ok ([(str [114, 49]), (str [108, 49]), (str []), (str [88])] : List ByteArray) (by simp) hc2 (by omega)
  simp only [hr5, Option.bind_some, flb_go]
  exact fin _ _ _ _ _ _ _ (hc5.mono (by omega)) (by omega) rfl n3 (by omega)
 split
 ·obtain ⟨r8, hr8, hc8, h80, h81⟩ := pick_ok (e.Stops.length : Int) hc2 (by omega)
  obtain ⟨r9, hr9, hc9, _⟩ := pick_ok 10 hc8 (by omega)
  obtain ⟨e4, he4, _⟩ := idx_lt (l := e.Stops) (i := r8.1) h80 (by omega)
  simp only [hr8, hr9, he4, Option.bind_some, flb_go]
  refine fin _ _ _ _ _ _ _ (hc9.mono (by omega)) (by omega) (by simp) (fun x hx => ?_) (by show e.Runs.length ≤ 11; omega)
  rcases List.mem_or_eq_of_mem_set hx with hx | hx
  ·exact n3 x hx
  ·subst hx; exact ⟨by simpa using g1, g2⟩
 split
 ·obtain ⟨r12, hr12, hc12, h120, h121⟩ := pick_ok (e.Runs.length : Int) hc2 (by omega)
  obtain ⟨r13, hr13, hc13, _⟩ := amongw_ok ([0, 60, 61, (-1)] : List Int) (by simp) hc12 (by omega)
  obtain ⟨e6, he6, _⟩ := idx_lt (l := e.Runs) (i := r12.1) h120 (by omega)
  simp only [hr12, hr13, he6, Option.bind_some, flb_go]
  refine fin _ _ _ _ _ _ _ (hc13.mono (by omega)) (by omega) (by simp) (fun x hx => ?_) (by simp; omega)
  rcases List.mem_or_eq_of_mem_set hx with hx | hx
  ·exact n3 x hx
  ·subst hx; exact ⟨g1, by simpa using g2⟩
 split
 ·have hch : chk (e.Runs.length + ([3] : List Int).length ≤ 4294967296) = some () := chk_of (by simp; omega)
  simp only [hch, Option.bind_some, flb_go]
  exact fin _ _ _ _ _ _ _ (hc2.mono (by omega)) (by omega) rfl n3 (by simp; omega)
 split
 ·simp only [flb_ret]
  exact ⟨_, rfl, hc2.mono (by omega), by show r.1.Stops.length ≤ _; omega, by simp, by simp⟩
 split
 ·have loop : ∃ b, iter (zq75_L1 r) (0, r2.2.code_, r2.2.at_, r2.2.seed_.v, r.1.Lines) = some b ∧ (Cur (k + 900) ⟨b.1, b.2.1, ⟨b.2.2.1⟩⟩ ∧ b.2.2.2.length ≤ 20 ∧ ∀ x ∈ b.2.2.2, LB x) := by
   refine iter_rule (fun m a => ∃ i : Nat, a.1 = (i : Int) ∧ m + i = 8 ∧ i ≤ 7 ∧ a.2.2.2.2.length ≤ 8 + i ∧ (∀ x ∈ a.2.2.2.2, LB x) ∧ Cur (k + 310 + 50 * i) ⟨a.2.1, a.2.2.1, ⟨a.2.2.2.1⟩⟩) _ ?_ (k := 8) ⟨0, rfl, rfl, by omega, by simpa using n2.2, n3, hc2.mono (by omega)⟩
   rintro m ⟨v7, v8, v9, v10, v11⟩ ⟨i, hi, hm, hi7, hl, hlb, hcur⟩
   simp only at hi hl hlb hcur
   subst hi
   unfold zq75_L1
   obtain ⟨r16, hr16, hc16, h160, h161⟩ := pick_ok 2 hcur (by omega)
   have w1 : w64 (5 + r16.1) = 5 + r16.1 := w64_id (by omega)
   simp only [hr16, w1, Option.bind_some]
   by_cases a1 : (v11.length : Int) < 5 + r16.1 ∧ (i : Int) < 7
   ·left
    have d1 : decide ((v11.length : Int) < 5 + r16.1) = true := by simp; omega
    have d2 : decide ((i : Int) < 7) = true := by simp; omega
    obtain ⟨r19, hr19, hs19⟩ := l1Num_ok (i : Int) (by omega) (by omega)
    have hs : (str [120]).size = 1 := rfl
    have hch : chk ((str [120]).size + r19.size ≤ 4294967296) = some () := chk_of (by omega)
    obtain ⟨r20, hr20, hc20, hb20⟩ := line_ok (str [120] ++ r19) (r.1.Stops.length : Int) (by omega) hc16 (by omega)
    have hch2 : ∀ y : Line, chk (v11.length + ([y] : List Line).length ≤ 4294967296) = some () := fun y => chk_of (by simp; omega)
    refine ⟨_, m - 1, by simp only [d1, d2, if_true, hr19, hch, hr20, hch2, Option.bind_some, w64_succ (n := i) (by omega)]; rfl, by omega, i + 1, rfl, by omega, by omega, ?_, fun x hx => ?_, ?_⟩
    ·simp; omega
    ·rcases List.mem_append.1 hx with hx | hx
     ·exact hlb x hx
     ·simp at hx; subst hx; exact hb20
    ·exact hc20.mono (by omega)
   ·right
    have hcond : (if decide ((v11.length : Int) < 5 + r16.1) = true then some (decide ((i : Int) < 7)) else some false) = some false := by
     by_cases b1 : (v11.length : Int) < 5 + r16.1
     ·have : decide ((i : Int) < 7) = false := by simp; omega
      simp [b1, this]
     ·simp [b1]
    refine ⟨_, by simp only [hcond, Option.bind_some, Bool.false_eq_true, if_false]; rfl, ?_, ?_, hlb⟩
    ·exact hc16.mono (by omega)
    ·show v11.length ≤ 20; omega
  obtain ⟨⟨v13, v14, v15, v16⟩, hb, hcb, hlb, hall⟩ := loop
  simp only at hcb hlb hall
  rw [hb]
  simp only [Option.bind_some, flb_ret]
  refine ⟨_, rfl, hcb.mono (by omega), by show r.1.Stops.length ≤ _; omega, by show v16.length ≤ _; omega, fun x hx => ?_⟩
  have := hall x hx
  unfold LB at this; omega
 ·simp only [flb_go]
  exact fin _ _ _ _ _ _ _ (hc2.mono (by omega)) (by omega) rfl n3 (by omega)
def TB (t : Timetable) : Prop := Bd t.Network ∧ t.Trips.length ≤ 1000
def TripP (n : Network) (x : Trip) : Prop := (1 ≤ x.Id ∧ x.Id ≤ 999) ∧ ∃ l, idx n.Lines x.Line = some l ∧ (0 ≤ x.Start ∧ x.Start ≤ 1799) ∧ 0 ≤ x.Start + l.Runs.sum ∧ x.Start + l.Runs.sum ≤ 1799
def GoodT (t : Timetable) : Prop := Good t.Network ∧ t.Trips.length ≤ 12 ∧ (∀ (i : Nat) x, t.Trips[i]? = some x → TripP t.Network x) ∧ ∀ (i : Nat) a b, t.Trips[i]? = some a → t.Trips[i + 1]? = some b → a.Id < b.Id
noncomputable instance (t : Timetable) : Decidable (GoodT t) := Classical.propDecidable _
noncomputable instance (n : Network) (x : Trip) : Decidable (TripP n x) := Classical.propDecidable _
theorem time_eq (t : Int) : zq8 t = some (decide (0 ≤ t ∧ t ≤ 1799)) := by
 unfold zq8; rw [within_eq]; rfl
theorem l4Time_eq (t : Int) : zq118 t = some (decide (0 ≤ t ∧ t ≤ 1799)) := by
 unfold zq118; rw [l1In_eq]; rfl
theorem total_eq (l : List Int) (h1 : l.length ≤ 1000000) (h2 : ∀ x ∈ l, 0 ≤ x ∧ x ≤ 1000000) : zq37 l = some l.sum := by
 unfold zq37
 rw [sum_loop (fun x : Int => x) l h1 h2 (fun i s x hx => ?_) (fun s => ?_)]
 ·simp
 ·have := get_lt hx
  unfold zq37_L1
  simp (disch := omega) only [if_pos, if_neg, decide_eq_true_eq, decide_true, decide_false, Bool.not_true, Bool.not_false, Bool.false_eq_true, Bool.not_eq_true', decide_eq_false_iff_not, if_true, if_false, w64_id, chk_of, idx_nat, Option.bind_some, Option.map_some, Int.toNat_natCast, not_true_eq_false, not_false_eq_true, true_and, and_true, and_self, false_and, and_false, reduceIte, flb_go, flb_ret, beq_self_eq_true, ne_eq, bne_self_eq_false, Int.ofNat_lt.2 this, hx]
 ·unfold zq37_L1; simp
theorem l2Run_eq (x : Line) (a b : Nat) (hab : a ≤ b) (hb : b ≤ x.Runs.length) (hl : x.Runs.length ≤ 1000) (h2 : ∀ r ∈ x.Runs, 0 ≤ r ∧ r ≤ 1000000) : zq117 x (a : Int) (b : Int) = some (((x.Runs.take b).drop a).sum) := by
 unfold zq117
 refine Tot.val (.call (P := fun v => v = ((x.Runs.take b).drop a).sum) ?_ fun v h => .ok h)
 refine .iter (fun m s => ∃ k : Nat, s.2 = ((a + k : Nat) : Int) ∧ m + k = b - a ∧ s.1 = (((x.Runs.take b).drop a).take k).sum) (n := b - a) ⟨0, by simp, by omega, by simp⟩ ?_
 rintro m ⟨s, v⟩ ⟨k, hk, hm, hs⟩
 simp only at hk hs
 subst hk
 unfold zq117_L1
 refine .iteP (fun hc => ?_) (fun hc => .dn ?_)
 ·obtain ⟨r, hr⟩ := get_ex (l := x.Runs) (i := a + k) (by omega)
  have hr2 : ((x.Runs.take b).drop a)[k]? = some r := by
   rw [List.getElem?_drop, List.getElem?_take_of_lt (by omega)]; exact hr
  have hb1 := h2 r (List.mem_of_getElem? hr)
  have hb2 := sum_bd (l := ((x.Runs.take b).drop a).take k) (M := 1000000) fun y hy => h2 y (List.mem_of_mem_take (List.mem_of_mem_drop (List.mem_of_mem_take hy)))
  have hlen : ((((x.Runs.take b).drop a).take k).length : Int) ≤ 1000 := by simp; omega
  rw [← hs] at hb2
  refine .eq (by rw [idx_nat]; exact hr) (.nx ⟨m - 1, by omega, k + 1, ?_, by omega, ?_⟩)
  ·show w64 (((a + k : Nat) : Int) + 1) = _
   rw [w64_id (by omega)]; omega
  ·show w64 (s + r) = _
   rw [w64_id (by omega), sum_take_succ hr2, hs]
 ·rw [hs, List.take_of_length_le (by rw [List.length_drop, List.length_take]; omega)]
theorem good_line {n : Network} (h : Good n) {k : Int} {l : Line} (hl : idx n.Lines k = some l) : LineP n.Stops.length l := h.2.2.2.2 _ l (idx_some hl).2.2
theorem line_stop {st : Nat} {l : Line} (h : LineP st l) {j : Nat} {s : Int} (hs : l.Stops[j]? = some s) : 0 ≤ s ∧ s < (st : Int) := (h.2.2.1 j s hs).1
theorem line_runs {st : Nat} {l : Line} (h : LineP st l) : (l.Runs.length + 1 = l.Stops.length ∧ 1 ≤ l.Runs.length ∧ l.Runs.length ≤ 5) ∧ ∀ r ∈ l.Runs, 1 ≤ r ∧ r ≤ 60 := by
 obtain ⟨h1, h2, h3, h4⟩ := h
 refine ⟨by omega, fun r hr => ?_⟩
 obtain ⟨i, hi⟩ := List.getElem?_of_mem hr
 exact h4 i r hi
theorem runs_sum {st : Nat} {l : Line} (h : LineP st l) (k : Nat) : 0 ≤ (l.Runs.take k).sum ∧ (l.Runs.take k).sum ≤ 300 := by
 obtain ⟨⟨h1, h2, h3⟩, h4⟩ := line_runs h
 have := sum_bd (l := l.Runs.take k) (M := 60) fun x hx => by have := h4 x (List.mem_of_mem_take hx); omega
 have hl : ((l.Runs.take k).length : Int) ≤ 5 := by simp; omega
 omega
theorem runs_sum' {st : Nat} {l : Line} (h : LineP st l) : 0 ≤ l.Runs.sum ∧ l.Runs.sum ≤ 300 := by
 have := runs_sum h l.Runs.length
 rwa [List.take_length] at this
theorem endOf_eq {t : Timetable} (hg : Good t.Network) {x : Trip} {l : Line} (hl : idx t.Network.Lines x.Line = some l) (hs : 0 ≤ x.Start ∧ x.Start ≤ 1799) : zq22 t x = some (x.Start + l.Runs.sum) := by
 have h := good_line hg hl
 obtain ⟨⟨h1, h2, h3⟩, h4⟩ := line_runs h
 have h5 := runs_sum' h
 unfold zq22
 rw [hl]
 simp only [Option.bind_some]
 rw [total_eq l.Runs (by omega) (fun x hx => by have := h4 x hx; omega)]
 simp (disch := omega) only [if_pos, if_neg, decide_eq_true_eq, decide_true, decide_false, Bool.not_true, Bool.not_false, Bool.false_eq_true, Bool.not_eq_true', decide_eq_false_iff_not, if_true, if_false, w64_id, chk_of, idx_nat, Option.bind_some, Option.map_some, Int.toNat_natCast, not_true_eq_false, not_false_eq_true, true_and, and_true, and_self, false_and, and_false, reduceIte, flb_go, flb_ret, beq_self_eq_true, ne_eq, bne_self_eq_false]
theorem l5Line_eq {t : Timetable} {i : Nat} {x : Trip} {l : Line} (hx : t.Trips[i]? = some x) (hl : idx t.Network.Lines x.Line = some l) : zq123 t (i : Int) = some l := by
 unfold zq123
 simp (disch := omega) only [if_pos, if_neg, decide_eq_true_eq, decide_true, decide_false, Bool.not_true, Bool.not_false, Bool.false_eq_true, Bool.not_eq_true', decide_eq_false_iff_not, if_true, if_false, w64_id, chk_of, idx_nat, Option.bind_some, Option.map_some, Int.toNat_natCast, not_true_eq_false, not_false_eq_true, true_and, and_true, and_self, false_and, and_false, reduceIte, flb_go, flb_ret, beq_self_eq_true, ne_eq, bne_self_eq_false, hx, hl]
theorem l5Stops_eq {t : Timetable} {i : Nat} {x : Trip} {l : Line} (hx : t.Trips[i]? = some x) (hl : idx t.Network.Lines x.Line = some l) : zq124 t (i : Int) = some l.Stops := by
 unfold zq124
 rw [l5Line_eq hx hl]; rfl
theorem l5At_eq {t : Timetable} (hg : Good t.Network) {i : Nat} {x : Trip} {l : Line} (hx : t.Trips[i]? = some x) (hl : idx t.Network.Lines x.Line = some l) (hs : 0 ≤ x.Start ∧ x.Start ≤ 1799) {k : Nat} (hk : k ≤ l.Runs.length) : zq119 t (i : Int) (k : Int) = some (x.Start + (l.Runs.take k).sum) := by
 have h := good_line hg hl
 obtain ⟨⟨h1, h2, h3⟩, h4⟩ := line_runs h
 have h5 := runs_sum h k
 have e := l2Run_eq l 0 k (by omega) hk (by omega) (fun x hx => by have := h4 x hx; omega)
 rw [List.drop_zero] at e
 have e' : zq117 l 0 (k : Int) = some (l.Runs.take k).sum := e
 unfold zq119
 simp (disch := omega) only [if_pos, if_neg, decide_eq_true_eq, decide_true, decide_false, Bool.not_true, Bool.not_false, Bool.false_eq_true, Bool.not_eq_true', decide_eq_false_iff_not, if_true, if_false, w64_id, chk_of, idx_nat, Option.bind_some, Option.map_some, Int.toNat_natCast, not_true_eq_false, not_false_eq_true, true_and, and_true, and_self, false_and, and_false, reduceIte, flb_go, flb_ret, beq_self_eq_true, ne_eq, bne_self_eq_false, hx, l5Line_eq hx hl, e']
theorem l5End_eq {t : Timetable} (hg : Good t.Network) {i : Nat} {x : Trip} {l : Line} (hx : t.Trips[i]? = some x) (hl : idx t.Network.Lines x.Line = some l) (hs : 0 ≤ x.Start ∧ x.Start ≤ 1799) : zq120 t (i : Int) = some (x.Start + l.Runs.sum) := by
 have h := good_line hg hl
 obtain ⟨⟨h1, h2, h3⟩, h4⟩ := line_runs h
 have e : w64 ((l.Stops.length : Int) - 1) = (l.Runs.length : Int) := by rw [w64_id (by omega)]; omega
 unfold zq120
 rw [l5Stops_eq hx hl]
 simp only [Option.bind_some, e, l5At_eq hg hx hl hs (Nat.le_refl _), List.take_length]
def TripsP (t : Timetable) : Prop := (∀ (i : Nat) x, t.Trips[i]? = some x → TripP t.Network x) ∧ ∀ (i : Nat) a b, t.Trips[i]? = some a → t.Trips[i + 1]? = some b → a.Id < b.Id
noncomputable instance (t : Timetable) : Decidable (TripsP t) := Classical.propDecidable _
theorem trip_i {t : Timetable} (hb : TB t) (hg : Good t.Network) (x : Trip) (last : Int) (hlast : 0 ≤ last) : ((if (decide (x.Id ≤ last)) = true then some true else if (decide (999 < x.Id)) = true then some true else (zq25 t.Network x.Line).bind fun r =>
   if (!r) = true then some true else (zq8 x.Start).bind fun r1 =>
   if (!r1) = true then some true else (zq22 t x).bind fun r2 =>
   (zq8 r2).bind fun r3 =>
   some (!r3))) = some (!decide (last < x.Id ∧ TripP t.Network x)) := by
 by_cases c1 : x.Id ≤ last
 ·have : ¬ (last < x.Id ∧ TripP t.Network x) := fun h => by omega
  simp [c1, this]
 ·by_cases c2 : 999 < x.Id
  ·have : ¬ (last < x.Id ∧ TripP t.Network x) := fun h => by have := h.2.1; omega
   simp [c1, c2, this]
  ·simp only [isLine_eq, time_eq, Option.bind_some, c1, c2, decide_false, Bool.false_eq_true, if_false]
   by_cases c3 : 0 ≤ x.Line ∧ x.Line < (t.Network.Lines.length : Int)
   ·obtain ⟨l, hl, _⟩ := idx_lt (l := t.Network.Lines) c3.1 c3.2
    by_cases c4 : 0 ≤ x.Start ∧ x.Start ≤ 1799
    ·have hT : (last < x.Id ∧ TripP t.Network x) ↔ (0 ≤ x.Start + l.Runs.sum ∧ x.Start + l.Runs.sum ≤ 1799) := by
      constructor
      ·rintro ⟨_, _, l', hl', _, h⟩
       rw [hl] at hl'; cases hl'; exact h
      ·intro h; exact ⟨by omega, ⟨by omega, by omega⟩, l, hl, c4, h⟩
     simp only [c3, c4, and_self, decide_true, Bool.not_true, Bool.false_eq_true, if_false, endOf_eq hg hl c4, time_eq, Option.bind_some, hT]
    ·have : ¬ (last < x.Id ∧ TripP t.Network x) := fun h => by
      obtain ⟨_, _, l', _, h4, _⟩ := h
      exact c4 h4
     simp only [c3, c4, this, and_self, decide_true, decide_false, Bool.not_true, Bool.not_false, Bool.false_eq_true, if_false, if_true]
   ·have : ¬ (last < x.Id ∧ TripP t.Network x) := fun h => by
     obtain ⟨_, _, l', hl', _⟩ := h
     have := idx_some hl'
     exact c3 ⟨this.1, this.2.1⟩
    simp only [c3, this, decide_false, Bool.not_false, if_true]
theorem areTrips_eq {t : Timetable} (hb : TB t) (hg : Good t.Network) : zq16 t = some (decide (t.Trips.length ≤ 12 ∧ TripsP t)) := by
 unfold zq16
 by_cases h12 : t.Trips.length ≤ 12
 ·have d : decide ((12 : Int) < (t.Trips.length : Int)) = false := by simp; omega
  have e : decide (t.Trips.length ≤ 12 ∧ TripsP t) = decide (TripsP t) := by simp [h12]
  rw [d, e]
  simp only [Bool.false_eq_true, if_false]
  refine flb_dec (.iter (fun m a => ∃ i : Nat, a.2 = (i : Int) ∧ m + i = t.Trips.length ∧ 0 ≤ a.1 ∧ (∀ y, 0 < i → t.Trips[i - 1]? = some y → a.1 = y.Id) ∧ (i = 0 → a.1 = 0) ∧ (∀ (j : Nat) x, j < i → t.Trips[j]? = some x → TripP t.Network x) ∧ ∀ (j : Nat) a b, j + 1 < i → t.Trips[j]? = some a → t.Trips[j + 1]? = some b → a.Id < b.Id)
   (n := t.Trips.length) ⟨0, rfl, rfl, by simp, by simp, by simp, fun j x h => by omega, fun j a b h => by omega⟩ ?_)
  rintro m ⟨last, v⟩ ⟨i, hv, hm, h0, h1, h2, h3, h4⟩
  simp only at hv h0 h1 h2
  subst hv
  unfold zq16_L1
  refine .iteP (fun hc => ?_) (fun hc => .dn (.inl ⟨rfl, fun j x hx => h3 j x (by have := get_lt hx; omega) hx, fun j a b ha hb' => h4 j a b (by have := get_lt hb'; omega) ha hb'⟩))
  obtain ⟨x, hx⟩ := get_ex (l := t.Trips) (i := i) (by omega)
  refine .eq (by rw [idx_nat]; exact hx) (.eq (trip_i hb hg x last h0) (.iteN (fun hn => .dn (.inr ⟨rfl, fun hp => hn ⟨?_, hp.1 i x hx⟩⟩)) (fun hp => .nx ⟨m - 1, by omega, i + 1, w64_succ (by omega), by omega, ?_, ?_, by simp, ?_, ?_⟩)))
  ·by_cases hi : i = 0
   ·rw [h2 hi]; have := (hp.1 i x hx).1; omega
   ·obtain ⟨y, hy⟩ := get_ex (l := t.Trips) (i := i - 1) (by omega)
    rw [h1 y (by omega) hy]
    exact hp.2 (i - 1) y x hy (by rw [show i - 1 + 1 = i by omega]; exact hx)
  ·show 0 ≤ x.Id
   have := hp.2.1; omega
  ·intro y _ hy
   rw [show i + 1 - 1 = i by omega, hx] at hy; cases hy; rfl
  ·intro j y hj hy
   by_cases hji : j = i
   ·subst hji; rw [hx] at hy; cases hy; exact hp.2
   ·exact h3 j y (by omega) hy
  ·intro j a b hj ha hb'
   by_cases hji : j + 1 = i
   ·subst hji; rw [hx] at hb'; cases hb'
    have := h1 a (by omega) (by simpa using ha)
    omega
   ·exact h4 j a b (by omega) ha hb'
 ·have d : decide ((12 : Int) < (t.Trips.length : Int)) = true := by simp; omega
  simp [d, h12]
def TripQ (t : Timetable) (i : Nat) (x : Trip) : Prop := TripP t.Network x ∧ ∀ y, 0 < i → t.Trips[i - 1]? = some y → y.Id < x.Id
noncomputable instance (t : Timetable) (i : Nat) (x : Trip) : Decidable (TripQ t i x) := Classical.propDecidable _
theorem goodT_iff (t : Timetable) : GoodT t ↔ Good t.Network ∧ t.Trips.length ≤ 12 ∧ TripsP t := Iff.rfl
theorem validT_eq {t : Timetable} (hb : TB t) : zq9 t = some (decide (GoodT t)) := by
 unfold zq9
 rw [valid_eq _ hb.1]
 by_cases hg : Good t.Network
 ·simp only [hg, decide_true, if_true, Option.bind_some, areTrips_eq hb hg, goodT_iff, true_and]
 ·have : ¬ GoodT t := fun h => hg h.1
  simp [hg, this]
theorem goodT_eq {t : Timetable} (hb : TB t) : zq122 t = some (decide (GoodT t)) := by
 unfold zq122
 rw [good_eq _ hb.1]
 by_cases hg : Good t.Network
 ·by_cases h12 : t.Trips.length ≤ 12
  ·have d : decide ((12 : Int) < (t.Trips.length : Int)) = false := by simp; omega
   have e : decide (GoodT t) = decide (TripsP t) := by rw [decide_eq_decide, goodT_iff]; simp [hg, h12]
   simp only [hg, decide_true, Bool.not_true, Bool.false_eq_true, if_false, Option.bind_some, d, e]
   refine flb_dec (.iter (fun m a => ∃ i : Nat, a = (i : Int) ∧ m + i = t.Trips.length ∧ (∀ (j : Nat) x, j < i → t.Trips[j]? = some x → TripP t.Network x) ∧ ∀ (j : Nat) a b, j + 1 < i → t.Trips[j]? = some a → t.Trips[j + 1]? = some b → a.Id < b.Id)
    (n := t.Trips.length) ⟨0, rfl, rfl, fun j x h => by omega, fun j a b h => by omega⟩ ?_)
   rintro m v ⟨i, hv, hm, h3, h4⟩
   subst hv
   unfold zq122_L1
   refine .iteP (fun hc => ?_) (fun hc => .dn (.inl ⟨rfl, fun j x hx => h3 j x (by have := get_lt hx; omega) hx, fun j a b ha hb' => h4 j a b (by have := get_lt hb'; omega) ha hb'⟩))
   obtain ⟨x, hx⟩ := get_ex (l := t.Trips) (i := i) (by omega)
   refine .eq (by rw [idx_nat]; exact hx) ?_
   have hll := hg.2.1
   have ew : w64 ((t.Network.Lines.length : Int) - 1) = (t.Network.Lines.length : Int) - 1 := w64_id (by omega)
   have key : ((zq100 x.Id 1 999).bind fun r6 =>
   (if (!r6) = true then some true else (zq100 x.Line 0 (w64 ((t.Network.Lines.length : Int) - 1))).bind fun r7 =>
   if (!r7) = true then some true else (zq118 x.Start).bind fun r8 =>
   if (!r8) = true then some true else (zq120 t (i : Int)).bind fun r9 =>
   (zq118 r9).bind fun r10 =>
   if (!r10) = true then some true else if (decide (0 < (i : Int))) = true then (idx t.Trips (w64 ((i : Int) - 1))).bind fun e2 =>
   some (decide (x.Id ≤ e2.Id)) else some false)) = some (!decide (TripQ t i x)) := by
    have no : ¬ TripP t.Network x → (!decide (TripQ t i x)) = true := fun h => (by simp [show ¬ TripQ t i x from fun q => h q.1])
    simp only [l1In_eq, l4Time_eq, ew, Option.bind_some]
    by_cases c1 : 1 ≤ x.Id ∧ x.Id ≤ 999
    ·by_cases c3 : 0 ≤ x.Line ∧ x.Line ≤ (t.Network.Lines.length : Int) - 1
     ·obtain ⟨l, hl, _⟩ := idx_lt (l := t.Network.Lines) c3.1 (by omega)
      by_cases c4 : 0 ≤ x.Start ∧ x.Start ≤ 1799
      ·simp only [c1, c3, c4, and_self, decide_true, Bool.not_true, Bool.false_eq_true, if_false, l5End_eq hg hx hl c4, l4Time_eq, Option.bind_some]
       by_cases c5 : 0 ≤ x.Start + l.Runs.sum ∧ x.Start + l.Runs.sum ≤ 1799
       ·have hT : TripP t.Network x := ⟨c1, l, hl, c4, c5⟩
        simp only [c5, and_self, decide_true, Bool.not_true, Bool.false_eq_true, if_false, ]
        by_cases c6 : 0 < i
        ·obtain ⟨y, hy⟩ := get_ex (l := t.Trips) (i := i - 1) (by omega)
         have e1 : w64 ((i : Int) - 1) = ((i - 1 : Nat) : Int) := by rw [w64_id (by omega)]; omega
         have c6' : (0 : Int) < (i : Int) := by omega
         simp only [c6', decide_true, if_true, e1, idx_nat, hy, Option.bind_some, Option.some.injEq]
         by_cases c7 : x.Id ≤ y.Id
         ·have : ¬ TripQ t i x := fun h => by have := h.2 y c6 hy; omega
          simp only [c7, decide_true, this, decide_false, Bool.not_false]
         ·have : TripQ t i x := ⟨hT, fun z _ hz => by rw [hy] at hz; cases hz; omega⟩
          simp only [c7, decide_false, this, decide_true, Bool.not_true]
        ·have c6' : ¬ (0 : Int) < (i : Int) := by omega
         have : TripQ t i x := ⟨hT, fun z h0 _ => absurd h0 c6⟩
         simp only [c6', decide_false, Bool.false_eq_true, if_false, this, decide_true, Bool.not_true]
       ·rw [no (fun hT => by
         obtain ⟨_, l', hl', _, h⟩ := hT
         rw [hl] at hl'; cases hl'; exact c5 h)]
        simp only [c5, decide_false, Bool.not_false, if_true]
      ·rw [no (fun hT => by obtain ⟨_, l', _, h, _⟩ := hT; exact c4 h)]
       simp only [c1, c3, c4, and_self, decide_true, decide_false, Bool.not_true, Bool.not_false, Bool.false_eq_true, if_false, if_true]
     ·rw [no (fun hT => by
       obtain ⟨_, l', hl', _⟩ := hT
       have := idx_some hl'
       exact c3 ⟨this.1, by omega⟩)]
      simp only [c1, c3, and_self, decide_true, decide_false, Bool.not_true, Bool.not_false, Bool.false_eq_true, if_false, if_true]
    ·rw [no (fun hT => c1 hT.1)]
     simp only [c1, decide_false, Bool.not_false, if_true]
   rw [bind_assoc', key]
   refine .iteN (fun hn => .dn (.inr ⟨rfl, fun hp => hn ⟨hp.1 i x hx, fun y hi hy => hp.2 (i - 1) y x hy (by rw [show i - 1 + 1 = i by omega]; exact hx)⟩⟩)) (fun hp => .nx ⟨m - 1, by omega, i + 1, w64_succ (by omega), by omega, ?_, ?_⟩)
   ·intro j y hj hy
    by_cases hji : j = i
    ·subst hji; rw [hx] at hy; cases hy; exact hp.1
    ·exact h3 j y (by omega) hy
   ·intro j a b hj ha hb'
    by_cases hji : j + 1 = i
    ·subst hji; rw [hx] at hb'; cases hb'
     exact hp.2 a (by omega) (by simpa using ha)
    ·exact h4 j a b (by omega) ha hb'
  ·have d : decide ((12 : Int) < (t.Trips.length : Int)) = true := by simp; omega
   have : ¬ GoodT t := fun h => h12 h.2.1
   simp [hg, d, this]
 ·have : ¬ GoodT t := fun h => hg h.1
  simp [hg, this]
theorem tripIndex_eq (t : Timetable) (h : t.Trips.length ≤ 1000) (id : Int) : zq39 t id = some (fixI (fun x => x.Id == id) t.Trips) := by
 unfold zq39 zq128 zq127
 rw [find_val t.Trips (fun x => x.Id == id) (fun i x hx => ?_) (by unfold zq127_L1; simp)]
 ·rfl
 ·have := get_lt hx
  unfold zq127_L1 zq40
  simp (disch := omega) only [if_pos, if_neg, decide_eq_true_eq, decide_true, decide_false, Bool.not_true, Bool.not_false, Bool.false_eq_true, Bool.not_eq_true', decide_eq_false_iff_not, if_true, if_false, w64_id, chk_of, idx_nat, Option.bind_some, Option.map_some, Int.toNat_natCast, not_true_eq_false, not_false_eq_true, true_and, and_true, and_self, false_and, and_false, reduceIte, flb_go, flb_ret, beq_self_eq_true, ne_eq, bne_self_eq_false, hx, Int.ofNat_lt.2 this]
  split <;> simp [*] <;> omega
theorem l5Find_eq (t : Timetable) (h : t.Trips.length ≤ 1000) (id : Int) : zq121 t id = some (fixI (fun x => x.Id == id) t.Trips) := by
 unfold zq121
 rw [find_val t.Trips (fun x => x.Id == id) (fun i x hx => ?_) (by unfold zq121_L1; simp)]
 have := get_lt hx
 unfold zq121_L1
 simp (disch := omega) only [if_pos, if_neg, decide_eq_true_eq, decide_true, decide_false, Bool.not_true, Bool.not_false, Bool.false_eq_true, Bool.not_eq_true', decide_eq_false_iff_not, if_true, if_false, w64_id, chk_of, idx_nat, Option.bind_some, Option.map_some, Int.toNat_natCast, not_true_eq_false, not_false_eq_true, true_and, and_true, and_self, false_and, and_false, reduceIte, flb_go, flb_ret, beq_self_eq_true, ne_eq, bne_self_eq_false, hx, Int.ofNat_lt.2 this]
 split <;> simp [*] <;> omega
theorem lineOf_eq {t : Timetable} {x : Trip} {l : Line} (hl : idx t.Network.Lines x.Line = some l) : zq35 t x = some l := by
 unfold zq35; rw [hl]; rfl
theorem trip_line {t : Timetable} (h : GoodT t) {i : Nat} {x : Trip} (hx : t.Trips[i]? = some x) : ∃ l, idx t.Network.Lines x.Line = some l ∧ LineP t.Network.Stops.length l ∧ (1 ≤ x.Id ∧ x.Id ≤ 999) ∧ (0 ≤ x.Start ∧ x.Start ≤ 1799) ∧ 0 ≤ x.Start + l.Runs.sum ∧ x.Start + l.Runs.sum ≤ 1799 := by
 obtain ⟨h1, l, hl, h2, h3⟩ := h.2.2.1 i x hx
 exact ⟨l, hl, good_line h.1 hl, h1, h2, h3⟩
theorem ids_lt {t : Timetable} (h : GoodT t) {i j : Nat} {a b : Trip} (hij : i < j) (ha : t.Trips[i]? = some a) (hb : t.Trips[j]? = some b) : a.Id < b.Id := by
 induction j generalizing b with
 | zero => omega
 | succ j ih =>
  obtain ⟨c, hc⟩ := get_ex (l := t.Trips) (i := j) (by have := get_lt hb; omega)
  have h1 := h.2.2.2 j c b hc hb
  by_cases hji : i = j
  ·subst hji; rw [ha] at hc; cases hc; exact h1
  ·have := ih (by omega) hc; omega
theorem trip_fix {t : Timetable} (h : GoodT t) {i : Nat} {x : Trip} (hx : t.Trips[i]? = some x) : fixI (fun y => y.Id == x.Id) t.Trips = (i : Int) := by
 refine fixI_of hx (by simp) fun j y hj hy => ?_
 have := ids_lt h hj hy hx
 simp; omega
theorem network_ok {k : Nat} {c : l1Cur} (h : Cur k c) (hk : k ≤ 500000000) : ∃ r, zq86 c = some r ∧ Cur (k + 300) r.2 ∧ NB r.1 := networkT_ok h hk
theorem anyNet_ok {k : Nat} {c : l1Cur} (h : Cur k c) (hk : k ≤ 200000000) : Tot (zq75 c) fun r => Cur (k + 1000) r.2 ∧ Bd r.1 := anyNetwork_ok h hk
def DT (t : Timetable) : Prop := Bd t.Network ∧ t.Trips.length ≤ 30
theorem DT.tb {t : Timetable} (h : DT t) : TB t := ⟨h.1, by have := h.2; omega⟩
theorem timetable_ok {k : Nat} {c : l1Cur} (h : Cur k c) (hk : k ≤ 100000000) : Tot (zq95 c) fun r => Cur (k + 400) r.2 ∧ DT r.1 ∧ NB r.1.Network ∧ r.1.Trips.length ≤ 8 := by
 unfold zq95
 refine .call (networkT_ok h (by omega)) fun r ⟨hc, hn⟩ => .call (pick_ok 8 hc (by omega)) fun r1 ⟨hc1, h0, h1⟩ => ?_
 refine .call (P := fun o => Cur (k + 400) ⟨o.1, o.2.1, ⟨o.2.2.1⟩⟩ ∧ o.2.2.2.length ≤ 8) ?_ fun o ⟨ho1, ho2⟩ => .ok ⟨ho1, ⟨hn.bd, by show o.2.2.2.length ≤ 30; omega⟩, hn, ho2⟩
 refine .iter (fun m s => s.2.1 = (m : Int) ∧ m + s.2.2.2.2.2.length ≤ 8 ∧ Cur (k + 302 + 6 * (8 - m)) ⟨s.2.2.1, s.2.2.2.1, ⟨s.2.2.2.2.1⟩⟩) (n := r1.1.toNat) ⟨by show r1.1 = _; omega, by show r1.1.toNat + 0 ≤ 8; omega, hc1.mono (by omega)⟩ ?_
 rintro m ⟨n, v, v1, v2, v3, v4⟩ ⟨hv, hl, hcur⟩
 simp only at hv hl hcur
 subst hv
 unfold zq95_L1
 refine .iteP (fun hc => ?_) (fun hc => .dn ⟨hcur.mono (by omega), by show v4.length ≤ 8; omega⟩)
 refine .call (pick_ok 3 hcur (by omega)) fun r2 ⟨hc2, _⟩ => .call (pick_ok _ hc2 (by omega)) fun r5 ⟨hc5, _⟩ => .call (pick_ok 24 hc5 (by omega)) fun r6 ⟨hc6, _⟩ => .chk (by simp; omega) (.nx ⟨m - 1, by omega, ?_, ?_, ?_⟩)
 ·show w64 ((m : Int) - 1) = _; rw [w64_id (by omega)]; omega
 ·show m - 1 + (v4 ++ [_]).length ≤ 8; simp; omega
 ·exact hc6.mono (by omega)
theorem anyTimetable_ok {k : Nat} {c : l1Cur} (h : Cur k c) (hk : k ≤ 50000000) : Tot (zq77 c) fun r => Cur (k + 2000) r.2 ∧ DT r.1 := by
 unfold zq77
 refine .call (timetable_ok h (by omega)) fun r ⟨hc, hd, hn, hl⟩ => ?_
 refine .ite (fun _ => .ok ⟨hc.mono (by omega), hd⟩) fun he => ?_
 have hpos : 0 < r.1.Trips.length := by
  have : (r.1.Trips.length : Int) ≠ 0 := by simpa using he
  omega
 refine .call (pick_ok _ hc (by omega)) fun r1 ⟨hc1, h10, h11⟩ => ?_
 have h12 : r1.1 < (r.1.Trips.length : Int) := by omega
 refine .idx h10 h12 fun e _ => ?_
 have fin : ∀ (v : List UInt8) (v1 v2 : Int) (v3 : List Line) (v4 v5 v6 : Int) (v7 : List ByteArray), Cur (k + 2000) ⟨v, v1, ⟨v2⟩⟩ → Bd ⟨v7, v3⟩ → Tot ((idx r.1.Trips r1.1).bind fun e2 => some ((⟨(⟨v7, v3⟩ : Network), (r.1.Trips.set r1.1.toNat (⟨v4, v5, v6⟩ : Trip))⟩ : Timetable), (⟨v, v1, (⟨v2⟩ : IK .u64)⟩ : l1Cur))) fun r => Cur (k + 2000) r.2 ∧ DT r.1 := fun v v1 v2 v3 v4 v5 v6 v7 q1 q2 =>
  .idx h10 h12 fun e2 _ => .ok ⟨q1, q2, by show (r.1.Trips.set _ _).length ≤ 30; rw [List.length_set]; omega⟩
 refine .flb (.call (pick_ok 24 hc1 (by omega)) fun r2 ⟨hc2, _⟩ => ?_)
 refine .ite (fun _ => .call (among_ok _ (by simp) hc2 (by omega)) fun r3 ⟨hc3, _⟩ => .go (fin _ _ _ _ _ _ _ _ (hc3.mono (by omega)) hd.1)) fun _ => ?_
 refine .ite (fun _ => .call (pick_ok 7 hc2 (by omega)) fun r3 ⟨hc3, _⟩ => .go (fin _ _ _ _ _ _ _ _ (hc3.mono (by omega)) hd.1)) fun _ => ?_
 refine .ite (fun _ => .call (among_ok _ (by simp) hc2 (by omega)) fun r3 ⟨hc3, _⟩ => .go (fin _ _ _ _ _ _ _ _ (hc3.mono (by omega)) hd.1)) fun _ => ?_
 refine .ite (fun _ => .call (anyNet_ok hc2 (by omega)) fun r3 ⟨hc3, hb⟩ => .go (fin _ _ _ _ _ _ _ _ (hc3.mono (by omega)) hb)) fun _ => ?_
 refine .ite (fun _ => ?_) fun _ => .go (fin _ _ _ _ _ _ _ _ (hc2.mono (by omega)) hd.1)
 refine .call (P := fun o => Cur (k + 2000) ⟨o.1, o.2.1, ⟨o.2.2.1⟩⟩ ∧ o.2.2.2.length ≤ 30) ?_ fun o ⟨ho1, ho2⟩ => .ret ⟨ho1, hd.1, ho2⟩
 refine .iter (fun m s => ∃ i : Nat, s.1 = (i : Int) ∧ m + i = 14 ∧ s.2.2.2.2.length ≤ 8 + i ∧ Cur (k + 500 + 2 * i) ⟨s.2.1, s.2.2.1, ⟨s.2.2.2.1⟩⟩) (n := 14) ⟨0, rfl, rfl, by simpa using hl, hc2.mono (by omega)⟩ ?_
 rintro m ⟨v8, v9, v10, v11, v12⟩ ⟨i, hv, hm, hl12, hcur⟩
 simp only at hv hl12 hcur
 subst hv
 unfold zq77_L1
 refine .call (pick_ok 2 hcur (by omega)) fun r8 ⟨hc8, _⟩ => ?_
 refine .call (P := fun b => b = true → i < 14) (.ite (fun _ => .ok fun hb => by simp at hb; omega) fun _ => .ok fun hb => by cases hb) fun b hb => ?_
 refine .ite (fun ht => .chk (by simp; omega) (.nx ⟨m - 1, by have := hb ht; omega, i + 1, w64_succ (by omega), by have := hb ht; omega, ?_, hc8.mono (by omega)⟩)) (fun _ => .dn ⟨hc8.mono (by omega), by show v12.length ≤ 30; omega⟩)
 show (v12 ++ [_]).length ≤ 8 + (i + 1); simp; omega
theorem trips_ok {k : Nat} {c : l1Cur} (h : Cur k c) (hk : k ≤ 40000000) : Tot (zq97 c) fun r => Cur (k + 3000) r.2 ∧ DT r.1 := by
 unfold zq97
 refine .call (one_ok 16 h (by omega)) fun r hc => ?_
 refine .ite (fun _ => .call (anyTimetable_ok hc (by omega)) fun r1 ⟨hc1, hd⟩ => .ok ⟨hc1.mono (by omega), hd⟩) fun _ => ?_
 refine .call (networkT_ok hc (by omega)) fun r2 ⟨hc2, hn⟩ => .call (pick_ok 6 hc2 (by omega)) fun r3 ⟨hc3, h30, h31⟩ => ?_
 refine .call (P := fun o => Cur (k + 3000) ⟨o.1, o.2.1, ⟨o.2.2.1⟩⟩ ∧ o.2.2.2.length ≤ 10) ?_ fun o ⟨ho1, ho2⟩ => ?_
 ·refine .iter (fun m s => s.1 = (m : Int) ∧ m + s.2.2.2.2.length ≤ 10 ∧ Cur (k + 310 + 6 * (10 - m)) ⟨s.2.1, s.2.2.1, ⟨s.2.2.2.1⟩⟩) (n := 3 + r3.1.toNat) ⟨by show w64 (3 + r3.1) = _; rw [w64_id (by omega)]; omega, by show 3 + r3.1.toNat + 0 ≤ 10; omega, hc3.mono (by omega)⟩ ?_
  rintro m ⟨i, v, v1, v2, v3⟩ ⟨hv, hl, hcur⟩
  simp only at hv hl hcur
  subst hv
  unfold zq97_L1
  refine .iteP (fun hc => ?_) (fun hc => .dn ⟨hcur.mono (by omega), by show v3.length ≤ 10; omega⟩)
  refine .call (pick_ok 2 hcur (by omega)) fun r7 ⟨hc7, _⟩ => .call (pick_ok _ hc7 (by omega)) fun r8 ⟨hc8, _⟩ => .call (pick_ok 16 hc8 (by omega)) fun r9 ⟨hc9, _⟩ => .chk (by simp; omega) (.nx ⟨m - 1, by omega, ?_, ?_, ?_⟩)
  ·show w64 ((m : Int) - 1) = _; rw [w64_id (by omega)]; omega
  ·show m - 1 + (v3 ++ [_]).length ≤ 10; simp; omega
  ·exact hc9.mono (by omega)
 ·refine .call (P := fun l => l.length ≤ 10) ?_ fun l hl => .ok ⟨ho1, hn.bd, by show l.length ≤ 30; omega⟩
  refine .iter (fun m s => ∃ i : Nat, s.1 = (i : Int) ∧ 1 ≤ i ∧ m + i = 11 ∧ s.2.length ≤ 10) (n := 10) ⟨1, rfl, by omega, by omega, ho2⟩ ?_
  rintro m ⟨x, v8⟩ ⟨i, hx, h1, hm, hl⟩
  simp only at hx hl
  subst hx
  unfold zq97_L2
  refine .iteP (fun hc => ?_) (fun hc => .dn hl)
  have e1 : w64 ((i : Int) - 1) = (i : Int) - 1 := w64_id (by omega)
  refine .idx (by omega) hc fun e _ => ?_
  rw [e1]
  refine .idx (by omega) (by omega) fun e2 _ => ?_
  refine .call (P := fun _ => True) ?_ fun r11 _ => .idx (by omega) hc fun e3 _ => .nx ⟨m - 1, by omega, i + 1, w64_succ (by omega), by omega, by omega, by show (v8.set _ _).length ≤ 10; rw [List.length_set]; exact hl⟩
  unfold zq102
  exact .ite (fun _ => .ok trivial) fun _ => .ok trivial
theorem idOf_ok {k : Nat} {c : l1Cur} (t : Timetable) (h : Cur k c) (hk : k ≤ 1000000000) : Tot (zq83 c t) fun r => Cur (k + 4) r.2 := by
 unfold zq83
 refine .call (P := fun o => Cur (k + 2) ⟨o.2.1, o.2.2.1, ⟨o.2.2.2⟩⟩ ∧ (o.1 = false → 0 < t.Trips.length)) (.ite (fun _ => .ok ⟨h.mono (by omega), fun h => by cases h⟩) fun he => .call (one_ok 8 h (by omega)) fun r hc => .ok ⟨hc, fun _ => ?_⟩) fun o ⟨ho, hz⟩ => ?_
 ·have : (t.Trips.length : Int) ≠ 0 := by simpa using he
  omega
 ·refine .ite (fun _ => .call (pick_ok 30 ho (by omega)) fun r1 ⟨hc1, _⟩ => .ok (hc1.mono (by omega))) fun hf => ?_
  have := hz hf
  refine .call (pick_ok _ ho (by omega)) fun r3 ⟨hc3, h0, h1⟩ => .idx h0 (by omega) fun e _ => .ok (hc3.mono (by omega))
theorem t_pick {k : Nat} {c : l1Cur} (n : Int) (h : Cur k c) (hk : k ≤ 3000000000) : Tot (zq93 c n) fun r => Cur (k + 2) r.2 ∧ 0 ≤ r.1 ∧ (r.1 < n ∨ r.1 = 0) := pick_ok n h hk
theorem t_one {k : Nat} {c : l1Cur} (n : Int) (h : Cur k c) (hk : k ≤ 3000000000) : Tot (zq91 c n) fun r => Cur (k + 2) r.2 := one_ok n h hk
theorem t_among {k : Nat} {c : l1Cur} (l : List Int) (hl : l ≠ []) (h : Cur k c) (hk : k ≤ 3000000000) : Tot (zq73 c l) fun r => Cur (k + 2) r.2 ∧ r.1 ∈ l := among_ok l hl h hk
theorem t_amongw {k : Nat} {c : l1Cur} (l : List Int) (hl : l ≠ []) (h : Cur k c) (hk : k ≤ 3000000000) : Tot (zq74 c l) fun r => Cur (k + 2) r.2 ∧ r.1 ∈ l := amongw_ok l hl h hk
theorem vBig_eq (code : List UInt8) : zq131 code = some (decide (65536 < (code.length : Int))) := rfl
theorem compare_int (x y : Int) : zq0 x y = some (if x < y then -1 else if y < x then 1 else 0) := by
 unfold zq0 zq2
 by_cases h : x < y
 ·simp [h]
 ·by_cases h2 : y < x <;> simp [h, h2]
theorem idx0 {α : Type} (l : List α) : idx l 0 = l[0]? := idx_nat l 0
theorem vInts_refl (a : List Int) (h : a.length ≤ 1000) : zq132 a a = some true := by
 unfold zq132
 simp only [bne_self_eq_false, Bool.false_eq_true, if_false]
 rw [all_val (hd := Classical.propDecidable _) a (fun _ _ => True) (fun i x hx => ?_) (by unfold zq132_L1; simp)]
 ·rw [if_pos (fun _ _ _ => trivial)]
 ·have hi := (List.getElem?_eq_some_iff.1 hx).1
  unfold zq132_L1
  have hlt : decide ((i : Int) < (a.length : Int)) = true := by simp; omega
  left
  simp only [hlt, if_true, idx_nat, hx, Option.bind_some, bne_self_eq_false, Bool.false_eq_true, if_false, w64_succ (n := i) (by omega), and_self]
theorem l1Has_eq (l : List Int) (hl : l.length ≤ 100000) (x : Int) : zq99 l x = some (decide (x ∈ l)) := by
 unfold zq99
 rw [find_loop l (fun e => e == x) (fun _ => true) (fun i y hy => ?_) (by unfold zq99_L1; simp)]
 ·by_cases h : x ∈ l
  ·have : l.findIdx? (fun e => e == x) ≠ none := fun hn => by
    have := List.findIdx?_eq_none_iff.1 hn x h
    simp at this
   cases hf : l.findIdx? (fun e => e == x) with
   | none => exact absurd hf this
   | some i => simp [h]
  ·have : l.findIdx? (fun e => e == x) = none := List.findIdx?_eq_none_iff.2 fun y hy => by
    simp only [beq_eq_false_iff_ne, ne_eq]
    intro e; subst e; exact h hy
   rw [this]; simp [h]
 ·have hi := get_lt hy
  unfold zq99_L1
  have hlt : decide ((i : Int) < (l.length : Int)) = true := by simp; omega
  simp only [hlt, if_true, idx_nat, hy, Option.bind_some, w64_succ (n := i) (by omega)]
  split <;> rfl
def RowP (st : Nat) (a : Nat) (row : List Int) : Prop := row.length = st ∧ row[a]? = some 0 ∧ ∀ d ∈ row, 0 ≤ d ∧ d ≤ 120
def FleetP (n : Network) (f : Fleet) : Prop := f.Dead.length = n.Stops.length ∧ (0 ≤ f.Turn ∧ f.Turn ≤ 30) ∧ ∀ (a : Nat) row, f.Dead[a]? = some row → RowP n.Stops.length a row
def RowsP (st : Nat) (f : Fleet) : Prop := ∀ (a : Nat) row, f.Dead[a]? = some row → RowP st a row
noncomputable instance (st : Nat) (f : Fleet) : Decidable (RowsP st f) := Classical.propDecidable _
noncomputable instance (n : Network) (f : Fleet) : Decidable (FleetP n f) := Classical.propDecidable _
noncomputable instance (st a : Nat) (row : List Int) : Decidable (RowP st a row) := Classical.propDecidable _
def FB (f : Fleet) : Prop := f.Dead.length ≤ 1000 ∧ ∀ row ∈ f.Dead, row.length ≤ 1000
theorem dead_rowI (e : List Int) (he : e.length ≤ 1000) : Tot (iter (zq24_L1 e) (0 : Int)) fun b => (b = .go () ∧ ∀ d ∈ e, 0 ≤ d ∧ d ≤ 120) ∨ (b = .ret (.dn (.ret false)) ∧ ¬ ∀ d ∈ e, 0 ≤ d ∧ d ≤ 120) := by
 refine .iter (fun m v => ∃ i : Nat, v = (i : Int) ∧ m + i = e.length ∧ ∀ (j : Nat) d, j < i → e[j]? = some d → 0 ≤ d ∧ d ≤ 120) (n := e.length) ⟨0, rfl, rfl, fun j d h => by omega⟩ ?_
 rintro m v ⟨i, rfl, hm, h3⟩
 unfold zq24_L1
 refine .iteP (fun hc => ?_) (fun hc => .dn (.inl ⟨rfl, fun d hd => ?_⟩))
 ·obtain ⟨d, hd⟩ := get_ex (l := e) (i := i) (by omega)
  refine .eq (ixs hd) (.eq (within_eq _ _ _) (.iteN (fun hn => .dn (.inr ⟨rfl, fun h => hn (h d (List.mem_of_getElem? hd))⟩)) (fun hp => .nx ⟨m - 1, by omega, i + 1, w64_succ (by omega), by omega, fun j x hj hx => ?_⟩)))
  by_cases hji : j = i
  ·subst hji; rw [hd] at hx; cases hx; exact hp
  ·exact h3 j x (by omega) hx
 ·obtain ⟨j, hj⟩ := List.getElem?_of_mem hd
  exact h3 j d (by have := get_lt hj; omega) hj
theorem dead_rowS {f : Fleet} {a : Nat} {e : List Int} (ha : f.Dead[a]? = some e) (he : e.length ≤ 1000) : Tot (iter (zq53_L1 f (a : Int)) (0 : Int)) fun b => (b = .go () ∧ ∀ d ∈ e, 0 ≤ d ∧ d ≤ 120) ∨ (b = .ret (.dn (.ret false)) ∧ ¬ ∀ d ∈ e, 0 ≤ d ∧ d ≤ 120) := by
 refine .iter (fun m v => ∃ i : Nat, v = (i : Int) ∧ m + i = e.length ∧ ∀ (j : Nat) d, j < i → e[j]? = some d → 0 ≤ d ∧ d ≤ 120) (n := e.length) ⟨0, rfl, rfl, fun j d h => by omega⟩ ?_
 rintro m v ⟨i, rfl, hm, h3⟩
 unfold zq53_L1
 refine .eq (ixs ha) (.iteP (fun hc => ?_) (fun hc => .dn (.inl ⟨rfl, fun d hd => ?_⟩)))
 ·obtain ⟨d, hd⟩ := get_ex (l := e) (i := i) (by omega)
  refine .eq (ixs ha) (.eq (ixs hd) (.eq (l1In_eq _ _ _) (.iteN (fun hn => .dn (.inr ⟨rfl, fun h => hn (h d (List.mem_of_getElem? hd))⟩)) (fun hp => .nx ⟨m - 1, by omega, i + 1, w64_succ (by omega), by omega, fun j x hj hx => ?_⟩))))
  by_cases hji : j = i
  ·subst hji; rw [hd] at hx; cases hx; exact hp
  ·exact h3 j x (by omega) hx
 ·obtain ⟨j, hj⟩ := List.getElem?_of_mem hd
  exact h3 j d (by have := get_lt hj; omega) hj
theorem row_test {st a : Nat} {e : List Int} (ha : a < st) : ((if ((e.length : Int) != (st : Int)) = true then some true else (idx e (a : Int)).bind fun e1 => some (e1 != 0))) = some (!decide (e.length = st ∧ e[a]? = some 0)) := by
 by_cases h1 : e.length = st
 ·obtain ⟨x, hx⟩ := get_ex (l := e) (i := a) (by omega)
  have hb : ((e.length : Int) != (st : Int)) = false := by simp; omega
  rw [hb, idx_nat, hx]
  by_cases h2 : x = 0
  ·subst h2; simp [h1]
  ·simp [h1, h2]
 ·have hb : ((e.length : Int) != (st : Int)) = true := by simp; omega
  simp [hb, h1]
theorem isFleet_eq {n : Network} (hn : n.Stops.length ≤ 1000) {f : Fleet} (hf : FB f) : zq24 n f = some (decide (FleetP n f)) := by
 unfold zq24
 rw [within_eq]
 by_cases h1 : f.Dead.length = n.Stops.length
 ·have hb : ((f.Dead.length : Int) != (n.Stops.length : Int)) = false := by simp; omega
  by_cases h2 : 0 ≤ f.Turn ∧ f.Turn ≤ 30
  ·simp only [hb, h2, and_self, decide_true, Bool.not_true, Bool.false_eq_true, if_false, Option.bind_some]
   have e : decide (FleetP n f) = decide (RowsP n.Stops.length f) := by
    rw [decide_eq_decide]; unfold FleetP RowsP; simp [h1, h2]
   rw [e]
   refine flb_dec (.iter (fun m v => ∃ i : Nat, v = (i : Int) ∧ m + i = f.Dead.length ∧ ∀ (j : Nat) row, j < i → f.Dead[j]? = some row → RowP n.Stops.length j row) (n := f.Dead.length) ⟨0, rfl, rfl, fun j d h => by omega⟩ ?_)
   rintro m v ⟨i, rfl, hm, h3⟩
   unfold zq24_L2
   refine .iteP (fun hc => ?_) (fun hc => .dn (.inl ⟨rfl, fun j row hj => h3 j row (by have := get_lt hj; omega) hj⟩))
   obtain ⟨row, hr⟩ := get_ex (l := f.Dead) (i := i) (by omega)
   have hrl := hf.2 row (List.mem_of_getElem? hr)
   refine .eq (ixs hr) (.eq (row_test (by omega)) (.iteN (fun hneg => .dn (.inr ⟨rfl, fun h => hneg ⟨(h i row hr).1, (h i row hr).2.1⟩⟩)) (fun hp => .flb ((dead_rowI row hrl).mono fun b hb' => ⟨fun r hr' => ?_, fun u hu => ?_⟩))))
   ·rcases hb' with ⟨h4, _⟩ | ⟨h4, h5⟩
    ·rw [h4] at hr'; cases hr'
    ·rw [h4] at hr'; cases hr'
     exact ⟨fun a' h => (by cases h), fun b h => (by cases h; exact .inr ⟨rfl, fun h => h5 (h i row hr).2.2⟩)⟩
   ·rcases hb' with ⟨_, h5⟩ | ⟨h4, _⟩
    ·refine .nx ⟨m - 1, by omega, i + 1, w64_succ (by omega), by omega, fun j x hj hx => ?_⟩
     by_cases hji : j = i
     ·subst hji; rw [hr] at hx; cases hx; exact ⟨hp.1, hp.2, h5⟩
     ·exact h3 j x (by omega) hx
    ·rw [h4] at hu; cases hu
  ·have : ¬ FleetP n f := fun h => h2 h.2.1
   simp [hb, h2, this]
 ·have hb : ((f.Dead.length : Int) != (n.Stops.length : Int)) = true := by simp; omega
  have : ¬ FleetP n f := fun h => h1 h.1
  simp [hb, this]
theorem l11Fleet_eq {n : Network} (hn : Bd n) {f : Fleet} (hf : FB f) : zq53 n f = some (decide (Good n ∧ FleetP n f)) := by
 have hn1 := hn.1
 unfold zq53
 rw [good_eq n hn, l1In_eq]
 by_cases h0 : Good n
 ·by_cases h1 : f.Dead.length = n.Stops.length
  ·have hb : ((f.Dead.length : Int) != (n.Stops.length : Int)) = false := by simp; omega
   by_cases h2 : 0 ≤ f.Turn ∧ f.Turn ≤ 30
   ·simp only [h0, hb, h2, and_self, decide_true, Bool.not_true, Bool.false_eq_true, if_false, Option.bind_some, true_and]
    have e : decide (FleetP n f) = decide (RowsP n.Stops.length f) := by
     rw [decide_eq_decide]; unfold FleetP RowsP; simp [h1, h2]
    rw [e]
    refine flb_dec (.iter (fun m v => ∃ i : Nat, v = (i : Int) ∧ m + i = f.Dead.length ∧ ∀ (j : Nat) row, j < i → f.Dead[j]? = some row → RowP n.Stops.length j row) (n := f.Dead.length) ⟨0, rfl, rfl, fun j d h => by omega⟩ ?_)
    rintro m v ⟨i, rfl, hm, h3⟩
    unfold zq53_L2
    refine .iteP (fun hc => ?_) (fun hc => .dn (.inl ⟨rfl, fun j row hj => h3 j row (by have := get_lt hj; omega) hj⟩))
    obtain ⟨row, hr⟩ := get_ex (l := f.Dead) (i := i) (by omega)
    have hrl := hf.2 row (List.mem_of_getElem? hr)
    have ht : ((if ((row.length : Int) != (n.Stops.length : Int)) = true then some true else (idx f.Dead (i : Int)).bind fun e4 => (idx e4 (i : Int)).bind fun e5 => some (e5 != 0))) = some (!decide (row.length = n.Stops.length ∧ row[i]? = some 0)) := by
     rw [ixs hr]; exact row_test (by omega)
    refine .eq (ixs hr) (.eq ht (.iteN (fun hneg => .dn (.inr ⟨rfl, fun h => hneg ⟨(h i row hr).1, (h i row hr).2.1⟩⟩)) (fun hp => .flb ((dead_rowS hr hrl).mono fun b hb' => ⟨fun r hr' => ?_, fun u hu => ?_⟩))))
    ·rcases hb' with ⟨h4, _⟩ | ⟨h4, h5⟩
     ·rw [h4] at hr'; cases hr'
     ·rw [h4] at hr'; cases hr'
      exact ⟨fun a' h => (by cases h), fun b h => (by cases h; exact .inr ⟨rfl, fun h => h5 (h i row hr).2.2⟩)⟩
    ·rcases hb' with ⟨_, h5⟩ | ⟨h4, _⟩
     ·refine .nx ⟨m - 1, by omega, i + 1, w64_succ (by omega), by omega, fun j x hj hx => ?_⟩
      by_cases hji : j = i
      ·subst hji; rw [hr] at hx; cases hx; exact ⟨hp.1, hp.2, h5⟩
      ·exact h3 j x (by omega) hx
     ·rw [h4] at hu; cases hu
   ·have : ¬ FleetP n f := fun h => h2 h.2.1
    simp [h0, hb, h2, this]
  ·have hb : ((f.Dead.length : Int) != (n.Stops.length : Int)) = true := by simp; omega
   have : ¬ FleetP n f := fun h => h1 h.1
   simp [h0, hb, this]
 ·simp [h0]
def AskF (t : Timetable) (f : Fleet) : Prop := GoodT t ∧ FleetP t.Network f
noncomputable instance (t : Timetable) (f : Fleet) : Decidable (AskF t f) := Classical.propDecidable _
theorem isRun_eq {t : Timetable} (hb : TB t) {f : Fleet} (hf : FB f) : zq29 t f = some (decide (AskF t f)) := by
 unfold zq29 AskF
 rw [validT_eq hb, isFleet_eq hb.1.1 hf]
 by_cases h : GoodT t <;> simp [h]
theorem l11Asked_eq {t : Timetable} (hb : TB t) {f : Fleet} (hf : FB f) : zq46 t f = some (decide (AskF t f)) := by
 unfold zq46 AskF
 rw [goodT_eq hb, l11Fleet_eq hb.1 hf]
 by_cases h : GoodT t
 ·have h2 : Good t.Network := h.1
  simp [h, h2]
 ·simp [h]
noncomputable def dv (t : Timetable) (f : Fleet) (x y : Trip) : Int := (zq20 t f x y).getD 0
noncomputable def ev (t : Timetable) (x : Trip) : Int := (zq22 t x).getD 0
theorem dead_both {t : Timetable} {f : Fleet} (h : AskF t f) {i k : Nat} {x y : Trip} (hx : t.Trips[i]? = some x) (hy : t.Trips[k]? = some y) : (0 ≤ dv t f x y ∧ dv t f x y ≤ 120) ∧ zq20 t f x y = some (dv t f x y) ∧ zq52 t f (i : Int) (k : Int) = some (dv t f x y) := by
 obtain ⟨hg, hf1, hf2, hf3⟩ := h
 obtain ⟨la, hla, hpa, _⟩ := trip_line hg hx
 obtain ⟨lb, hlb, hpb, _⟩ := trip_line hg hy
 obtain ⟨⟨a1, a2, a3⟩, a4⟩ := line_runs hpa
 obtain ⟨⟨b1, b2, b3⟩, b4⟩ := line_runs hpb
 obtain ⟨s, hs⟩ := get_ex (l := la.Stops) (i := la.Stops.length - 1) (by omega)
 obtain ⟨u, hu⟩ := get_ex (l := lb.Stops) (i := 0) (by omega)
 have s1 := line_stop hpa hs
 have u1 := line_stop hpb hu
 have ws : w64 ((la.Stops.length : Int) - 1) = ((la.Stops.length - 1 : Nat) : Int) := by rw [w64_id (by omega)]; omega
 obtain ⟨row, hrow⟩ := get_ex (l := f.Dead) (i := s.toNat) (by omega)
 have hR := hf3 s.toNat row hrow
 obtain ⟨d, hd⟩ := get_ex (l := row) (i := u.toNat) (by rw [hR.1]; omega)
 have hdb := hR.2.2 d (List.mem_of_getElem? hd)
 have e1 : zq20 t f x y = some d := by
  unfold zq20 zq33 zq23
  rw [lineOf_eq hla, lineOf_eq hlb]
  simp only [Option.bind_some, ws, idx_nat, hs, idx_of s1.1 hrow, idx0, hu, idx_of u1.1 hd]
 have e2 : zq52 t f (i : Int) (k : Int) = some d := by
  unfold zq52
  rw [l5Stops_eq hx hla, l5Stops_eq hy hlb]
  simp only [Option.bind_some, ws, idx_nat, hs, idx_of s1.1 hrow, idx0, hu, idx_of u1.1 hd]
 have e3 : dv t f x y = d := by unfold dv; rw [e1]; rfl
 rw [e3]
 exact ⟨hdb, e1, e2⟩
theorem end_both {t : Timetable} (hg : GoodT t) {i : Nat} {x : Trip} (hx : t.Trips[i]? = some x) : (x.Start < ev t x ∧ ev t x ≤ 1799) ∧ (0 ≤ x.Start ∧ x.Start ≤ 1799) ∧ zq22 t x = some (ev t x) ∧ zq120 t (i : Int) = some (ev t x) := by
 obtain ⟨l, hl, hp, _, hs, h1, h2⟩ := trip_line hg hx
 have e1 := endOf_eq hg.1 hl hs
 have e2 := l5End_eq hg.1 hx hl hs
 have e3 : ev t x = x.Start + l.Runs.sum := by unfold ev; rw [e1]; rfl
 obtain ⟨⟨a1, a2, a3⟩, a4⟩ := line_runs hp
 have hpos : 1 ≤ l.Runs.sum := by
  cases hr : l.Runs with
  | nil => rw [hr] at a2; simp at a2
  | cons r rs =>
   rw [hr] at a4
   have q1 := a4 r (by simp)
   have q2 := sum_nonneg (l := rs) fun z hz => by have := a4 z (by simp [hz]); omega
   rw [List.sum_cons]; omega
 rw [e3]
 exact ⟨⟨by omega, h2⟩, hs, e1, e2⟩
def Fol (t : Timetable) (f : Fleet) (x y : Trip) : Prop := ev t x + f.Turn + dv t f x y ≤ y.Start
noncomputable instance (t : Timetable) (f : Fleet) (x y : Trip) : Decidable (Fol t f x y) := Classical.propDecidable _
theorem fol_lt {t : Timetable} {f : Fleet} (h : AskF t f) {i k : Nat} {x y : Trip} (hx : t.Trips[i]? = some x) (hy : t.Trips[k]? = some y) (hf : Fol t f x y) : x.Start < y.Start := by
 have h1 := (dead_both h hx hy).1
 have h2 := end_both h.1 hx
 have h3 := h.2.2.1
 unfold Fol at hf; omega
theorem follow_both {t : Timetable} {f : Fleet} (h : AskF t f) {i k : Nat} {x y : Trip} (hx : t.Trips[i]? = some x) (hy : t.Trips[k]? = some y) : zq17 t f x y = some (decide (Fol t f x y)) ∧ zq54 t f (i : Int) (k : Int) = some (decide (Fol t f x y)) := by
 obtain ⟨h1, h2, h3⟩ := dead_both h hx hy
 obtain ⟨g1, g2, g3, g4⟩ := end_both h.1 hx
 have hT := h.2.2.1
 have w1 : w64 (w64 (ev t x + f.Turn) + dv t f x y) = ev t x + f.Turn + dv t f x y := by rw [w64_id (x := ev t x + f.Turn) (by omega), w64_id (by omega)]
 refine ⟨?_, ?_⟩
 ·unfold zq17
  rw [g3, h2]
  simp only [Option.bind_some, w1]; exact congrArg some (decide_eq_decide.2 Iff.rfl)
 ·unfold zq54
  by_cases hik : i = k
  ·subst hik
   rw [hx] at hy; cases hy
   have : ¬ Fol t f x x := fun hf => by have := fol_lt h hx hx hf; omega
   simp [this]
  ·have hb : ((i : Int) != (k : Int)) = true := by simp; omega
   simp only [hb, if_true, idx_nat, hy, g4, h3, Option.bind_some, w1]; exact congrArg some (decide_eq_decide.2 Iff.rfl)
theorem or64 {u a : Nat} (hu : u < 4096) (ha : a < 4096) : IntKind.i64.wrap (((BitVec.ofInt (IntKind.i64).bits (u : Int) ||| BitVec.ofInt (IntKind.i64).bits (a : Int)).toNat : Nat) : Int) = ((u ||| a : Nat) : Int) := by
 have h1 : (BitVec.ofInt (IntKind.i64).bits (u : Int)).toNat = u := by
  rw [BitVec.ofInt_natCast, BitVec.toNat_ofNat]
  exact Nat.mod_eq_of_lt (by show u < 2 ^ 64; omega)
 have h2 : (BitVec.ofInt (IntKind.i64).bits (a : Int)).toNat = a := by
  rw [BitVec.ofInt_natCast, BitVec.toNat_ofNat]
  exact Nat.mod_eq_of_lt (by show a < 2 ^ 64; omega)
 rw [BitVec.toNat_or, h1, h2]
 have h3 : u ||| a < 2 ^ 12 := Nat.or_lt_two_pow (by omega) (by omega)
 exact w64_id (x := ((u ||| a : Nat) : Int)) (by omega)
theorem w64_dn {n q : Nat} (hc : ((n - q : Nat) : Int) < (n : Int)) (hq : q ≤ n) (hn : n ≤ 1000000) : w64 (((n - q : Nat) : Int) + 1) = ((n - (q - 1) : Nat) : Int) := by
 rw [w64_id (by omega)]; omega
theorem bit_ok {n : Nat} (hn : n ≤ 9) {v : Int} (hv : v = -1 ∨ (0 ≤ v ∧ v < n)) : ∃ s : Nat, w64 (1 * 2 ^ (min ((IntKind.u64.wrap v) : Int).toNat (IntKind.i64).bits)) = (s : Int) ∧ s < 2 ^ n := by
 rcases hv with rfl | ⟨h0, h1⟩
 ·refine ⟨0, ?_, Nat.two_pow_pos n⟩
  kernel_rfl
 ·have e : IntKind.u64.wrap v = v := Int.emod_eq_of_lt h0 (by show v < (18446744073709551616 : Int); omega)
  rw [e]
  have hmin : min v.toNat (IntKind.i64).bits = v.toNat := Nat.min_eq_left (by show v.toNat ≤ 64; omega)
  rw [hmin]
  have hlt : 2 ^ v.toNat < 2 ^ n := Nat.pow_lt_pow_right (by omega) (by omega)
  have h9 : 2 ^ n ≤ 2 ^ 9 := Nat.pow_le_pow_right (by omega) hn
  refine ⟨2 ^ v.toNat, ?_, hlt⟩
  have e2 : (1 : Int) * 2 ^ v.toNat = ((2 ^ v.toNat : Nat) : Int) := by rw [Int.one_mul, Int.natCast_pow]; rfl
  rw [e2]
  generalize 2 ^ v.toNat = p at hlt ⊢
  generalize 2 ^ n = q at hlt h9
  exact w64_id (by omega)
theorem u64_nn (v : Int) : (0 : Int) ≤ IntKind.u64.wrap v := (u64_rng v).1
def KS (n : Nat) (kn : List (List Int)) : Prop := kn.length = n ∧ ∀ row ∈ kn, row.length = 2 ^ n
theorem ks_set {n : Nat} {kn : List (List Int)} (h : KS n kn) {i : Nat} {row : List Int} (hr : row.length = 2 ^ n) : KS n (kn.set i row) := by
 refine ⟨by rw [List.length_set]; exact h.1, fun r hm => ?_⟩
 rcases List.mem_or_eq_of_mem_set hm with hm | rfl
 ·exact h.2 r hm
 ·exact hr
theorem used_or {n : Nat} (hn : n ≤ 9) {u : Int} (hu : 0 ≤ u ∧ u < (2 ^ n : Nat)) {s : Nat} (hs : s < 2 ^ n) : 0 ≤ IntKind.i64.wrap (((BitVec.ofInt (IntKind.i64).bits u ||| BitVec.ofInt (IntKind.i64).bits (s : Int)).toNat : Nat) : Int) ∧ IntKind.i64.wrap (((BitVec.ofInt (IntKind.i64).bits u ||| BitVec.ofInt (IntKind.i64).bits (s : Int)).toNat : Nat) : Int) < (2 ^ n : Nat) := by
 have h9 : 2 ^ n ≤ 2 ^ 9 := Nat.pow_le_pow_right (by omega) hn
 obtain ⟨m, rfl⟩ : ∃ m : Nat, u = (m : Int) := ⟨u.toNat, by omega⟩
 rw [or64 (by omega) (by omega)]
 have := Nat.or_lt_two_pow (x := m) (y := s) (n := n) (by omega) hs
 omega
theorem cost_ok {t : Timetable} {f : Fleet} (h : AskF t f) (h9 : t.Trips.length ≤ 9) : ∀ (m N : Nat) (kn : List (List Int)) (i : Nat) (u : Int), m + i = t.Trips.length → m < N → KS t.Trips.length kn → (0 ≤ u ∧ u < (2 ^ t.Trips.length : Nat)) →
  Tot (zq55_k N ⟨t, f, kn⟩ (i : Int) u) fun r => KS t.Trips.length r.2
 | m, 0, kn, i, u, _, hN, _, _ => by omega
 | m, N + 1, kn, i, u, hm, hN, hk, hu => by
  show Tot (zq55_F (zq55_k N) ⟨t, f, kn⟩ (i : Int) u) _
  unfold zq55_F
  by_cases hi : i = t.Trips.length
  ·have hb : ((i : Int) == (t.Trips.length : Int)) = true := by simp; omega
   simp only [hb, if_true]
   exact .ok hk
  ·have hb : ((i : Int) == (t.Trips.length : Int)) = false := by simp; omega
   simp only [hb, Bool.false_eq_true, if_false]
   have getr : ∀ {kn : List (List Int)}, KS t.Trips.length kn → ∃ row, kn[i]? = some row ∧ row.length = 2 ^ t.Trips.length := fun {kn} hk => by
    obtain ⟨row, hr⟩ := get_ex (l := kn) (i := i) (by rw [hk.1]; omega)
    exact ⟨row, hr, hk.2 row (List.mem_of_getElem? hr)⟩
   obtain ⟨row, hr, hrl⟩ := getr hk
   have hw : w64 ((i : Int) + 1) = ((i + 1 : Nat) : Int) := w64_succ (by omega)
   refine .eq (ixs hr) (.idx hu.1 (by omega) fun e1 he1 => .iteP (fun _ => .eq (ixs hr) (.idx hu.1 (by omega) fun e3 _ => .ok hk)) fun _ => ?_)
   rw [hw]
   refine .call (cost_ok h h9 (m - 1) N kn (i + 1) u (by omega) (by omega) hk hu) fun r hr1 => ?_
   refine .call (P := fun o => KS t.Trips.length o.2) ?_ fun o ho => ?_
   ·refine .iter (fun q s => s.2.1 = ((t.Trips.length - q : Nat) : Int) ∧ q ≤ t.Trips.length ∧ KS t.Trips.length s.2.2) (n := t.Trips.length) ⟨by simp, Nat.le_refl _, hr1⟩ ?_
    rintro q ⟨v, v1, v2⟩ ⟨hv, hq, hkv⟩
    simp only at hv hkv
    subst hv
    unfold zq55_L1
    refine .iteP (fun hc => ?_) (fun hc => .dn hkv)
    have hq0 : 0 < q := by simp only at hc; omega
    obtain ⟨x, hx⟩ := get_ex (l := t.Trips) (i := t.Trips.length - q) (by omega)
    obtain ⟨y, hy⟩ := get_ex (l := t.Trips) (i := i) (by omega)
    have hfo := (follow_both h hx hy).2
    have hde := (dead_both h hx hy).2.2
    obtain ⟨s, hs1, hs2⟩ := bit_ok (n := t.Trips.length) h9 (v := ((t.Trips.length - q : Nat) : Int)) (.inr ⟨by omega, by omega⟩)
    refine .call (P := fun o => KS t.Trips.length o.2) (.chk (u64_nn _) (.call (P := fun _ => True) (.ite (fun _ => .eq hfo (.ok trivial)) fun _ => .ok trivial) fun v5 _ => .ite (fun _ => ?_) fun _ => .ok hkv)) fun o ho => .nx ⟨q - 1, by omega, ?_, by omega, ho⟩
    ·refine .eq hde (.chk (u64_nn _) ?_)
     rw [hs1, hw]
     refine .call (cost_ok h h9 (m - 1) N v2 (i + 1) _ (by omega) (by omega) hkv (used_or h9 hu hs2)) fun r7 h7 => ?_
     unfold zq101
     exact .call (P := fun _ => True) (.iteP (fun _ => .ok trivial) fun _ => .ok trivial) fun _ _ => .ok h7
    ·show w64 (((t.Trips.length - q : Nat) : Int) + 1) = _
     rw [w64_id (by omega)]; omega
   ·obtain ⟨v6, v7⟩ := o
    obtain ⟨row', hr', hrl'⟩ := getr ho
    refine .eq (ixs hr') (.idx hu.1 (by omega) fun e5 _ => .ok (ks_set ho (by rw [List.length_set]; exact hrl')))
theorem cost_all {t : Timetable} {f : Fleet} (h : AskF t f) (h9 : t.Trips.length ≤ 9) {kn : List (List Int)} {i : Nat} {u : Int} (hi : i ≤ t.Trips.length) (hk : KS t.Trips.length kn) (hu : 0 ≤ u ∧ u < (2 ^ t.Trips.length : Nat)) : Tot (zq55 ⟨t, f, kn⟩ (i : Int) u) fun r => KS t.Trips.length r.2 := by
 unfold zq55
 exact cost_ok h h9 (t.Trips.length - i) _ kn i u (by omega) (by omega) hk hu
def BeP (t : Timetable) (f : Fleet) (before : List Int) : Prop := before.length = t.Trips.length ∧ ∀ (i : Nat) b, before[i]? = some b → b = -1 ∨ ∃ (k : Nat) (x y : Trip), b = (k : Int) ∧ t.Trips[k]? = some x ∧ t.Trips[i]? = some y ∧ Fol t f x y
theorem before_ok {t : Timetable} {f : Fleet} (h : AskF t f) (h9 : t.Trips.length ≤ 9) : Tot (zq47 t f) (BeP t f) := by
 have hp9 : 2 ^ t.Trips.length ≤ 2 ^ 9 := Nat.pow_le_pow_right (by omega) h9
 have hpp := Nat.two_pow_pos t.Trips.length
 unfold zq47
 have hsz : w64 (1 * 2 ^ (min ((IntKind.u64.wrap (t.Trips.length : Int)) : Int).toNat (IntKind.i64).bits)) = ((2 ^ t.Trips.length : Nat) : Int) := by
  have e : IntKind.u64.wrap (t.Trips.length : Int) = (t.Trips.length : Int) := Int.emod_eq_of_lt (by omega) (by show (t.Trips.length : Int) < (18446744073709551616 : Int); omega)
  rw [e]
  have hmin : min ((t.Trips.length : Int)).toNat (IntKind.i64).bits = t.Trips.length := by rw [Int.toNat_natCast]; exact Nat.min_eq_left (by show t.Trips.length ≤ 64; omega)
  rw [hmin]
  have e2 : (1 : Int) * 2 ^ t.Trips.length = ((2 ^ t.Trips.length : Nat) : Int) := by rw [Int.one_mul, Int.natCast_pow]; rfl
  rw [e2]
  generalize 2 ^ t.Trips.length = p at hp9 ⊢
  exact w64_id (by omega)
 refine .call (P := KS t.Trips.length) ?_ fun v1 hv1 => .call (P := BeP t f) ?_ fun o ho => .ok ho
 ·refine .iter (fun q s => s.1 = ((t.Trips.length - q : Nat) : Int) ∧ q ≤ t.Trips.length ∧ s.2.length = t.Trips.length - q ∧ ∀ row ∈ s.2, row.length = 2 ^ t.Trips.length) (n := t.Trips.length) ⟨by simp, Nat.le_refl _, by simp, by simp⟩ ?_
  rintro q ⟨k, v⟩ ⟨hk, hq, hl, hr⟩
  simp only at hk hl hr
  subst hk
  unfold zq47_L2
  refine .iteP (fun hc => ?_) (fun hc => .dn ⟨by omega, hr⟩)
  rw [hsz]
  refine .chk (u64_nn _) (.chk ⟨by omega, by omega⟩ (.call (P := fun o => o.length = 2 ^ t.Trips.length) ?_ fun o ho => .chk (by simp; omega) (.nx ⟨q - 1, by omega, ?_, by omega, ?_, fun row hm => ?_⟩)))
  ·refine .iter (fun q s => s.1 = ((2 ^ t.Trips.length - q : Nat) : Int) ∧ q ≤ 2 ^ t.Trips.length ∧ s.2.length = 2 ^ t.Trips.length) (n := 2 ^ t.Trips.length) ⟨by simp, Nat.le_refl _, by show (List.replicate _ _).length = _; rw [List.length_replicate, Int.toNat_natCast]⟩ ?_
   rintro q ⟨k, o⟩ ⟨hk, hq, hl⟩
   simp only at hk hl
   subst hk
   unfold zq47_L1
   refine .iteP (fun hc => .idx (by omega) hc fun e _ => .nx ⟨q - 1, by omega, ?_, by omega, by rw [List.length_set]; exact hl⟩) (fun hc => .dn hl)
   show w64 (((2 ^ t.Trips.length - q : Nat) : Int) + 1) = _
   rw [w64_id (by omega)]; omega
  ·show w64 (((t.Trips.length - q : Nat) : Int) + 1) = _
   rw [w64_id (by omega)]; omega
  ·simp; omega
  ·rcases List.mem_append.1 hm with hm | hm
   ·exact hr row hm
   ·rw [List.mem_singleton.1 hm]; exact ho
 ·refine .iter (fun q (s : Int × Int × List Int × List (List Int)) => s.2.1 = ((t.Trips.length - q : Nat) : Int) ∧ q ≤ t.Trips.length ∧ s.2.2.1.length = t.Trips.length - q ∧ (0 ≤ s.1 ∧ s.1 < (2 ^ t.Trips.length : Nat)) ∧ KS t.Trips.length s.2.2.2 ∧ ∀ (i : Nat) b, s.2.2.1[i]? = some b → b = -1 ∨ ∃ (k : Nat) (x y : Trip), b = (k : Int) ∧ t.Trips[k]? = some x ∧ t.Trips[i]? = some y ∧ Fol t f x y) (n := t.Trips.length) ⟨by simp, Nat.le_refl _, by simp, ⟨Int.le_refl 0, Int.ofNat_lt.2 hpp⟩, hv1, by simp⟩ ?_
  rintro q ⟨want, before, i, v2⟩ ⟨hb, hq, hl, hu, hk, hB⟩
  simp only at hb hl hu hk hB
  subst hb
  unfold zq47_L4
  refine .iteP (fun hc => ?_) (fun hc => .dn ⟨by omega, hB⟩)
  have hw : w64 (((t.Trips.length - q : Nat) : Int) + 1) = ((t.Trips.length - q + 1 : Nat) : Int) := w64_succ (by omega)
  obtain ⟨y, hy⟩ := get_ex (l := t.Trips) (i := t.Trips.length - q) (by omega)
  refine .call (cost_all h h9 (by omega) hk hu) fun r hr => .call (P := fun (o : Int × Int × List (List Int)) => (0 ≤ o.1 ∧ o.1 < (2 ^ t.Trips.length : Nat)) ∧ KS t.Trips.length o.2.2 ∧ (o.2.1 = -1 ∨ ∃ (k : Nat) (x : Trip), o.2.1 = (k : Int) ∧ t.Trips[k]? = some x ∧ Fol t f x y)) ?_ fun ⟨want1, v3, v4⟩ hh => .chk (by clear hh; simp; omega) (.nx ⟨q - 1, by clear hh; omega, ?_, by clear hh; omega, ?_, hh.1, hh.2.1, fun j b hj => ?_⟩)
  ·rw [hw]
   refine .call (cost_all h h9 (by omega) hr hu) fun r1 hr1 => .ite (fun _ => ?_) fun _ => .ok ⟨hu, hr1, .inl rfl⟩
   refine .call (P := fun o => KS t.Trips.length o.2 ∧ (o.1 = -1 ∨ ∃ (k : Nat) (x : Trip), o.1 = (k : Int) ∧ t.Trips[k]? = some x ∧ Fol t f x y)) ?_ fun ⟨v13, v14⟩ ⟨g1, g2⟩ => .chk (u64_nn _) (.ok ?_)
   ·refine .iter (fun p s => s.2.1 = ((t.Trips.length - p : Nat) : Int) ∧ p ≤ t.Trips.length ∧ KS t.Trips.length s.2.2 ∧ (s.1 = -1 ∨ ∃ (k : Nat) (x : Trip), s.1 = (k : Int) ∧ t.Trips[k]? = some x ∧ Fol t f x y)) (n := t.Trips.length) ⟨by simp, Nat.le_refl _, hr1, .inl rfl⟩ ?_
    rintro p ⟨v5, v6, v7⟩ ⟨hv, hp, hkv, hok⟩
    simp only at hv hkv hok
    subst hv
    unfold zq47_L3
    refine .call (P := fun b => b = true → 0 < p) (.iteP (fun hc => .ok fun _ => by omega) fun _ => .ok fun h => by cases h) fun b hb => .ite (fun hbt => ?_) fun _ => .dn ⟨hkv, hok⟩
    have hp0 := hb hbt
    obtain ⟨x, hx⟩ := get_ex (l := t.Trips) (i := t.Trips.length - p) (by omega)
    have hfo := (follow_both h hx hy).2
    have hde := (dead_both h hx hy).2.2
    obtain ⟨s, hs1, hs2⟩ := bit_ok (n := t.Trips.length) h9 (v := ((t.Trips.length - p : Nat) : Int)) (.inr ⟨by omega, by omega⟩)
    refine .call (P := fun o => KS t.Trips.length o.2 ∧ (o.1 = -1 ∨ ∃ (k : Nat) (x : Trip), o.1 = (k : Int) ∧ t.Trips[k]? = some x ∧ Fol t f x y)) (.chk (u64_nn _) (.call (P := fun o => KS t.Trips.length o.2 ∧ (o.1 = true → Fol t f x y)) ?_ fun ⟨v11, v12⟩ ⟨a1, a2⟩ => .ite (fun ht => .ok ⟨a1, .inr ⟨_, x, rfl, hx, a2 ht⟩⟩) fun _ => .ok ⟨a1, hok⟩)) fun ⟨v9, v10⟩ ⟨b1, b2⟩ => .nx ⟨p - 1, by omega, ?_, by omega, b1, b2⟩
    ·refine .ite (fun _ => .eq hfo (.iteP (fun hF => .eq hde (.chk (u64_nn _) ?_)) fun _ => .ok ⟨hkv, fun h => by cases h⟩)) fun _ => .ok ⟨hkv, fun h => by cases h⟩
     rw [hs1, hw]
     exact .call (cost_all h h9 (by omega) hkv (used_or h9 hu hs2)) fun r4 h4 => .ok ⟨h4, fun _ => hF⟩
    ·show w64 (((t.Trips.length - p : Nat) : Int) + 1) = _
     rw [w64_id (by omega)]; omega
   ·obtain ⟨s, hs1, hs2⟩ := bit_ok (n := t.Trips.length) h9 (v := v13) (by
     rcases g2 with g2 | ⟨k, x, g2, hx, _⟩
     ·exact .inl g2
     ·have := get_lt hx
      exact .inr ⟨by simp only at g2; omega, by simp only at g2; omega⟩)
    dsimp only
    rw [hs1]
    exact ⟨used_or h9 hu hs2, g1, g2⟩
  ·exact w64_dn hc hq (by clear hh; omega)
  ·clear hh
   show (i ++ [v3]).length = _
   simp; omega
  ·have h3 := hh.2.2
   clear hh
   simp only at h3
   have hj : (i ++ [v3])[j]? = some b := hj
   rcases Nat.lt_or_ge j i.length with hji | hji
   ·rw [List.getElem?_append_left hji] at hj
    exact hB j b hj
   ·rw [List.getElem?_append_right hji] at hj
    have := get_lt hj
    simp only [List.length_singleton] at this
    have hj0 : j = t.Trips.length - q := by omega
    subst hj0
    rw [show t.Trips.length - q - i.length = 0 by omega] at hj
    simp only [List.getElem?_cons_zero, Option.some.injEq] at hj
    subst hj
    rcases h3 with h3 | ⟨k, x, h3, hx, hF⟩
    ·exact .inl h3
    ·exact .inr ⟨k, x, y, h3, hx, hy, hF⟩
theorem chainT_L1 (before : List Int) (hl : before.length ≤ 9) (k : Int) : Tot (iter (zq50_L1 before k) (((-1) : Int), (0 : Int))) fun v => v = -1 ∨ ∃ j : Nat, v = (j : Int) ∧ before[j]? = some k := by
 refine .iter (fun q s => s.2 = ((before.length - q : Nat) : Int) ∧ q ≤ before.length ∧ (s.1 = -1 ∨ ∃ j : Nat, s.1 = (j : Int) ∧ before[j]? = some k)) (n := before.length) ⟨by simp, Nat.le_refl _, .inl rfl⟩ ?_
 rintro q ⟨v, v1⟩ ⟨hv, hq, hok⟩
 simp only at hv hok
 subst hv
 unfold zq50_L1
 refine .iteP (fun hc => ?_) (fun hc => .dn hok)
 obtain ⟨b, hb⟩ := get_ex (l := before) (i := before.length - q) (by omega)
 refine .call (P := fun v => v = -1 ∨ ∃ j : Nat, v = (j : Int) ∧ before[j]? = some k) (.eq (ixs hb) (.ite (fun he => .ok (.inr ⟨_, rfl, by rw [hb]; simpa using he⟩)) fun _ => .ok hok)) fun v2 h2 => .nx ⟨q - 1, by omega, ?_, by omega, h2⟩
 exact w64_dn hc hq (by omega)
theorem chainT_L2 {t : Timetable} {f : Fleet} (h : AskF t f) (h9 : t.Trips.length ≤ 9) {before : List Int} (hB : BeP t f before) {i : Nat} (hi : i < before.length) : Tot (iter (zq50_L2 t before) ((i : Int), ([] : List Int))) fun b => 1 ≤ b.length ∧ b.length ≤ 1801 := by
 refine .iter (fun q s => s.2.length + q ≤ 1801 ∧ ((s.1 = -1 ∧ 1 ≤ s.2.length) ∨ ∃ (k : Nat) (x : Trip), s.1 = (k : Int) ∧ t.Trips[k]? = some x ∧ 1800 - x.Start ≤ (q : Int))) (n := 1801) ⟨by simp, .inr ?_⟩ ?_
 ·obtain ⟨x, hx⟩ := get_ex (l := t.Trips) (i := i) (by rw [← hB.1]; exact hi)
  have := (end_both h.1 hx).2.1
  exact ⟨i, x, rfl, hx, by omega⟩
 ·rintro q ⟨k, next⟩ ⟨hl, hk⟩
  simp only at hl hk
  unfold zq50_L2
  refine .iteP (fun hc => ?_) (fun hc => .dn ?_)
  ·rcases hk with ⟨hk, _⟩ | ⟨j, x, hk, hx, hs⟩
   ·omega
   ·subst hk
    have hst := (end_both h.1 hx).2.1
    refine .eq (ixs hx) (.chk (by simp; omega) (.call (chainT_L1 before (by rw [hB.1]; exact h9) (j : Int)) fun v3 h3 => .nx ⟨q - 1, by omega, by simp; omega, ?_⟩))
    rcases h3 with h3 | ⟨j', h3, hb⟩
    ·exact .inl ⟨h3, by simp⟩
    ·right
     rcases hB.2 j' _ hb with hb | ⟨k', x', y, e1, e2, e3, hF⟩
     ·omega
     ·have : k' = j := by omega
      subst this
      rw [hx] at e2; cases e2
      have := fol_lt h hx e3 hF
      exact ⟨j', y, h3, e3, by omega⟩
  ·rcases hk with ⟨_, hk⟩ | ⟨j, x, hk, _, _⟩
   ·exact ⟨hk, by omega⟩
   ·omega
theorem chainT_ok {t : Timetable} {f : Fleet} (h : AskF t f) (h9 : t.Trips.length ≤ 9) {before : List Int} (hB : BeP t f before) : Tot (zq50 t before) fun B => B.length ≤ 9 ∧ ∀ b ∈ B, 1 ≤ b.length ∧ b.length ≤ 1801 := by
 have hbl := hB.1
 unfold zq50
 refine .call (P := fun B => B.length ≤ 9 ∧ ∀ b ∈ B, 1 ≤ b.length ∧ b.length ≤ 1801) ?_ fun B hB => .ok hB
 refine .iter (fun q s => s.1 = ((before.length - q : Nat) : Int) ∧ q ≤ before.length ∧ s.2.length + q ≤ 9 ∧ ∀ b ∈ s.2, 1 ≤ b.length ∧ b.length ≤ 1801) (n := before.length) ⟨by simp, Nat.le_refl _, by simp; omega, by simp⟩ ?_
 rintro q ⟨v, B⟩ ⟨hv, hq, hl, hb⟩
 simp only at hv hl hb
 subst hv
 unfold zq50_L3
 refine .iteP (fun hc => ?_) (fun hc => .dn ⟨by omega, hb⟩)
 obtain ⟨e, he⟩ := get_ex (l := before) (i := before.length - q) (by omega)
 refine .call (P := fun B' => B'.length + (q - 1) ≤ 9 ∧ ∀ b ∈ B', 1 ≤ b.length ∧ b.length ≤ 1801) (.eq (ixs he) (.iteP (fun _ => .ok ⟨by omega, hb⟩) fun _ => .call (chainT_L2 h h9 hB (by omega)) fun b hb' => .chk (by simp; omega) (.ok ⟨by simp; omega, fun x hx => ?_⟩))) fun B' hB' => .nx ⟨q - 1, by omega, ?_, by omega, hB'⟩
 ·rcases List.mem_append.1 hx with hx | hx
  ·exact hb x hx
  ·rw [List.mem_singleton.1 hx]; exact hb'
 ·show w64 (((before.length - q : Nat) : Int) + 1) = _
  rw [w64_id (by omega)]; omega
def Pc {α : Type} (m : Option α) (Q : α → Prop) : Prop := ∀ r, m = some r → Q r
theorem Pc.call {α β : Type} {m : Option α} {P : α → Prop} {k : α → Option β} {Q : β → Prop} (h : Tot m P) (hk : ∀ x, P x → Pc (k x) Q) : Pc (m.bind k) Q := by
 obtain ⟨x, hx, hp⟩ := h
 subst hx
 exact hk x hp
theorem Pc.any {α β : Type} {m : Option α} {k : α → Option β} {Q : β → Prop} (hk : ∀ x, Pc (k x) Q) : Pc (m.bind k) Q := by
 intro r hr
 obtain ⟨x, _, hx⟩ := obind hr
 exact hk x r hx
theorem Pc.bind {α β : Type} {m : Option α} {k : α → Option β} {P : α → Prop} {Q : β → Prop} (h : Pc m P) (hk : ∀ x, P x → Pc (k x) Q) : Pc (m.bind k) Q := by
 intro r hr
 obtain ⟨x, hm, hx⟩ := obind hr
 exact hk x (h x hm) r hx
theorem Pc.ok {α : Type} {a : α} {Q : α → Prop} (h : Q a) : Pc (some a) Q := by intro r hr; cases hr; exact h
theorem Pc.ite {α : Type} {c : Bool} {a b : Option α} {Q : α → Prop} (h1 : Pc a Q) (h2 : Pc b Q) : Pc (if c = true then a else b) Q := by
 cases c
 ·exact h2
 ·exact h1
theorem Pc.flb {R V : Type} {m : Option (Fl R V)} {k : V → Option R} {Q : R → Prop} (h : Pc m fun v => (∀ r, v = .ret r → Q r) ∧ ∀ u, v = .go u → Pc (k u) Q) : Pc (Ab.flb m k) Q := by
 intro r hr
 obtain ⟨v, hv, h2⟩ := obind hr
 have := h v hv
 cases v with
 | ret r' => cases h2; exact this.1 _ rfl
 | go u => exact this.2 u rfl r h2
theorem Pc.go {R V : Type} {u : V} {Q : R → Prop} {P : V → Prop} (h : P u) : Pc (some (Fl.go u : Fl R V)) fun v => (∀ r, v = .ret r → Q r) ∧ ∀ u, v = .go u → P u := Pc.ok ⟨fun r h => (by cases h), fun u' h => by cases h; assumption⟩
theorem Pc.ret {R V : Type} {r : R} {Q : R → Prop} {P : V → Prop} (h : Q r) : Pc (some (Fl.ret r : Fl R V)) fun v => (∀ r, v = .ret r → Q r) ∧ ∀ u, v = .go u → P u := Pc.ok ⟨fun r' h => by cases h; assumption, fun u h => by cases h⟩
theorem Tot.pc {α : Type} {m : Option α} {P Q : α → Prop} (h : Tot m P) (hq : Pc m Q) : Tot m fun r => P r ∧ Q r := by
 obtain ⟨x, hx, hp⟩ := h
 exact ⟨x, hx, hp, hq x hx⟩
theorem anyNet_st {k : Nat} {c : l1Cur} (h : Cur k c) (hk : k ≤ 200000000) : Pc (zq75 c) fun r => 2 ≤ r.1.Stops.length := by
 unfold zq75
 refine .call (networkT_ok h (by omega)) fun r ⟨_, hn⟩ => .any fun r1 => .any fun e => .flb ?_
 have h2 := hn.1.1
 have fin : ∀ (v : List UInt8) (v1 v2 : Int) (v3 : ByteArray) (v4 : List ByteArray) (v5 : List Line) (v6 : List Int), 2 ≤ v4.length → Pc ((idx v5 r1.1).bind fun e9 => some ((⟨v4, (v5.set r1.1.toNat (⟨v3, e9.Stops, v6⟩ : Line))⟩ : Network), (⟨v, v1, (⟨v2⟩ : IK .u64)⟩ : l1Cur))) fun r => 2 ≤ r.1.Stops.length := fun v v1 v2 v3 v4 v5 v6 hv => .any fun e9 => .ok hv
 refine .any fun r2 => .ite (.any fun r4 => .any fun e2 => .go (fin _ _ _ _ _ _ _ (by rw [List.length_set]; exact h2))) (.ite (.any fun r5 => .go (fin _ _ _ _ _ _ _ h2)) (.ite (.any fun r8 => .any fun r9 => .any fun e4 => .go (fin _ _ _ _ _ _ _ h2)) (.ite (.any fun r12 => .any fun r13 => .any fun e6 => .go (fin _ _ _ _ _ _ _ h2)) (.ite (.any fun u => .go (fin _ _ _ _ _ _ _ h2)) (.ite (.ret h2) (.ite (.any fun ⟨v13, v14, v15, v16⟩ => .ret h2) (.go (fin _ _ _ _ _ _ _ h2))))))))
theorem anyTime_st {k : Nat} {c : l1Cur} (h : Cur k c) (hk : k ≤ 50000000) : Pc (zq77 c) fun r => 2 ≤ r.1.Network.Stops.length := by
 unfold zq77
 refine .call (timetable_ok h (by omega)) fun r ⟨hc, _, hn, hl⟩ => ?_
 have h2 := hn.1.1
 refine .ite (.ok h2) (.call (pick_ok _ hc (by omega)) fun r1 ⟨hc1, _⟩ => .any fun e => .flb (.call (pick_ok 24 hc1 (by omega)) fun r2 ⟨hc2, _⟩ => ?_))
 have fin : ∀ (v : List UInt8) (v1 v2 : Int) (v3 : List Line) (v4 v5 v6 : Int) (v7 : List ByteArray), 2 ≤ v7.length → Pc ((idx r.1.Trips r1.1).bind fun e2 => some ((⟨(⟨v7, v3⟩ : Network), (r.1.Trips.set r1.1.toNat (⟨v4, v5, v6⟩ : Trip))⟩ : Timetable), (⟨v, v1, (⟨v2⟩ : IK .u64)⟩ : l1Cur))) fun r => 2 ≤ r.1.Network.Stops.length := fun v v1 v2 v3 v4 v5 v6 v7 hv => .any fun e9 => .ok hv
 refine .ite (.any fun r3 => .go (fin _ _ _ _ _ _ _ _ h2)) (.ite (.any fun r4 => .go (fin _ _ _ _ _ _ _ _ h2)) (.ite (.any fun r5 => .go (fin _ _ _ _ _ _ _ _ h2)) (.ite (.bind (anyNet_st hc2 (by omega)) fun r6 h6 => .go (fin _ _ _ _ _ _ _ _ h6)) (.ite (.any fun ⟨v14, v15, v16, v17⟩ => .ret h2) (.go (fin _ _ _ _ _ _ _ _ h2))))))
theorem trips_st {k : Nat} {c : l1Cur} (h : Cur k c) (hk : k ≤ 40000000) : Pc (zq97 c) fun r => 2 ≤ r.1.Network.Stops.length := by
 unfold zq97
 refine .call (one_ok 16 h (by omega)) fun r hc => .ite (.bind (anyTime_st hc (by omega)) fun r1 h1 => .ok h1) (.call (network_ok hc (by omega)) fun r2 ⟨_, hn⟩ => .any fun r3 => .any fun ⟨v4, v5, v6, v7⟩ => .any fun v9 => .ok hn.1.1)
theorem fleet_ok {k : Nat} {c : l1Cur} {n : Network} (h : Cur k c) (hk : k ≤ 30000000) (hn : 2 ≤ n.Stops.length ∧ n.Stops.length ≤ 1000) : Tot (zq81 c n) fun r => Cur (k + 3000000) r.2 ∧ FB r.1 := by
 unfold zq81
 refine .call (t_amongw _ (by simp) h (by omega)) fun r ⟨hc, _⟩ => ?_
 refine .call (P := fun o => Cur (k + 2 + 2000 * n.Stops.length) ⟨o.1, o.2.1, ⟨o.2.2.1⟩⟩ ∧ o.2.2.2.length = n.Stops.length ∧ ∀ row ∈ o.2.2.2, row.length = n.Stops.length) ?_ fun ⟨v13, v14, v15, v16⟩ ⟨hc1, hl, hr⟩ => ?_
 ·refine .iter (fun q s => s.1 = ((n.Stops.length - q : Nat) : Int) ∧ q ≤ n.Stops.length ∧ s.2.2.2.2.length = n.Stops.length - q ∧ (∀ row ∈ s.2.2.2.2, row.length = n.Stops.length) ∧ Cur (k + 2 + 2000 * (n.Stops.length - q)) ⟨s.2.1, s.2.2.1, ⟨s.2.2.2.1⟩⟩) (n := n.Stops.length) ⟨by simp, Nat.le_refl _, by simp, by simp, hc.mono (by omega)⟩ ?_
  rintro q ⟨v, w1, w2, w3, w4⟩ ⟨hv, hq, hl, hr, hcur⟩
  simp only at hv hl hr hcur
  subst hv
  unfold zq81_L2
  refine .iteP (fun hcc => ?_) (fun hcc => .dn ⟨hcur.mono (by omega), by simp only; omega, hr⟩)
  have hq0 : 0 < q := by omega
  refine .call (P := fun o => Cur (k + 2 + 2000 * (n.Stops.length - q) + 2 * n.Stops.length) ⟨o.1, o.2.1, ⟨o.2.2.1⟩⟩ ∧ o.2.2.2.length = n.Stops.length) ?_ fun ⟨v9, v10, v11, v12⟩ ⟨hc2, hl2⟩ => .chk (by simp; omega) (.nx ⟨q - 1, by omega, ?_, by omega, ?_, fun row hm => ?_, hc2.mono (by omega)⟩)
  ·refine .iter (fun p s => s.1 = ((n.Stops.length - p : Nat) : Int) ∧ p ≤ n.Stops.length ∧ s.2.2.2.2.length = n.Stops.length - p ∧ Cur (k + 2 + 2000 * (n.Stops.length - q) + 2 * (n.Stops.length - p)) ⟨s.2.1, s.2.2.1, ⟨s.2.2.2.1⟩⟩) (n := n.Stops.length) ⟨by simp, Nat.le_refl _, by simp, hcur.mono (by omega)⟩ ?_
   rintro p ⟨v, x1, x2, x3, x4⟩ ⟨hv, hp, hl, hcur⟩
   simp only at hv hl hcur
   subst hv
   unfold zq81_L1
   refine .iteP (fun hcc => ?_) (fun hcc => .dn ⟨hcur.mono (by omega), by simp only; omega⟩)
   have hp0 : 0 < p := by omega
   refine .call (P := fun _ => True) (by unfold zq102; exact .iteP (fun _ => .ok trivial) fun _ => .ok trivial) fun r1 _ => .call (t_pick 4 hcur (by omega)) fun r2 ⟨hc2, _⟩ => .chk (by simp; omega) (.nx ⟨p - 1, by omega, ?_, by omega, by simp; omega, hc2.mono (by omega)⟩)
   show w64 (((n.Stops.length - p : Nat) : Int) + 1) = _
   rw [w64_id (by omega)]; omega
  ·show w64 (((n.Stops.length - q : Nat) : Int) + 1) = _
   rw [w64_id (by omega)]; omega
  ·simp; omega
  ·have hm : row ∈ w4 ++ [v12] := hm
   rcases List.mem_append.1 hm with hm | hm
   ·exact hr row hm
   ·rw [List.mem_singleton.1 hm]; exact hl2
 ·simp only at hc1 hl hr
  obtain ⟨e, he⟩ := get_ex (l := v16) (i := 0) (by omega)
  have hel := hr e (List.mem_of_getElem? he)
  have hz : idx v16 0 = some e := ixs he
  have hset : ∀ (row : List Int), row.length = n.Stops.length → FB ⟨v16.set (0 : Int).toNat row, r.1⟩ := fun row hrow => ⟨by show (v16.set _ _).length ≤ 1000; rw [List.length_set]; omega, fun x hx => by
   rcases List.mem_or_eq_of_mem_set hx with hx | rfl
   ·have := hr x hx; omega
   ·omega⟩
  have hfb : ∀ x : Int, FB ⟨v16, x⟩ := fun x => ⟨by show v16.length ≤ 1000; omega, fun row hm => by have := hr row hm; omega⟩
  refine .call (P := fun o => Cur (k + 3000000) ⟨o.1, o.2.1, ⟨o.2.2.1⟩⟩ ∧ FB ⟨o.2.2.2.1, o.2.2.2.2⟩) (.call (t_pick 32 hc1 (by omega)) fun r3 ⟨hc3, _⟩ => .ite (fun _ => .call (t_amongw _ (by simp) hc3 (by omega)) fun r4 ⟨hc4, _⟩ => .ok ⟨hc4.mono (by omega), hfb _⟩) fun _ => .ite (fun _ => .eq hz (.idx (by omega) (by omega) fun e1 _ => .ok ⟨hc3.mono (by omega), hset _ (by rw [List.length_set]; exact hel)⟩)) fun _ => .ite (fun _ => .eq hz (.call (t_amongw _ (by simp) hc3 (by omega)) fun r6 ⟨hc6, _⟩ => ?_)) fun _ => .ite (fun _ => .chk (by omega) (.ok ⟨hc3.mono (by omega), ⟨by show (v16.drop _).length ≤ 1000; simp; omega, fun row hm => by have := hr row (List.mem_of_mem_drop hm); omega⟩⟩)) fun _ => .ok ⟨hc3.mono (by omega), hfb _⟩) fun ⟨v17, v18, v19, v20, v21⟩ ⟨g1, g2⟩ => .ok ⟨g1, g2⟩
  have hw : w64 ((n.Stops.length : Int) - 1) = ((n.Stops.length - 1 : Nat) : Int) := by rw [w64_id (by omega)]; omega
  rw [hw]
  exact .idx (by omega) (by omega) fun e5 _ => .ok ⟨hc6.mono (by omega), hset _ (by rw [List.length_set]; exact hel)⟩
def BB (B : List (List Int)) : Prop := B.length ≤ 20 ∧ ∀ b ∈ B, b.length ≤ 2000
theorem bb_set {B : List (List Int)} (h : BB B) {i : Nat} {b : List Int} (hb : b.length ≤ 2000) : BB (B.set i b) := ⟨by rw [List.length_set]; exact h.1, fun x hx => by
 rcases List.mem_or_eq_of_mem_set hx with hx | rfl
 ·exact h.2 x hx
 ·exact hb⟩
theorem planned_ok {k : Nat} {c : l1Cur} (h : Cur k c) (hk : k ≤ 10000000) : Tot (zq94 c) fun r => Cur (k + 4000000) r.2.2.2 ∧ DT r.1 ∧ FB r.2.1 ∧ BB r.2.2.1 := by
 unfold zq94
 refine .call (Tot.pc (trips_ok h (by omega)) (trips_st h (by omega))) fun r ⟨⟨hc, hd⟩, hst⟩ => ?_
 refine .call (fleet_ok hc (by omega) ⟨hst, hd.1.1⟩) fun r1 ⟨hc1, hf⟩ => ?_
 refine .eq (l11Asked_eq (t := r.1) hd.tb hf) ?_
 refine .call (P := fun b => b = false → AskF r.1 r1.1 ∧ r.1.Trips.length ≤ 9) (.iteN (fun _ => .ok fun h => by cases h) fun hA => .ok fun h => ⟨hA, by have : (r.1.Trips.length : Int) ≤ 9 := (by simpa using h); omega⟩) fun b hb => .ite (fun _ => .ok ⟨hc1.mono (by omega), hd, hf, by simp, by simp⟩) fun hbf => ?_
 obtain ⟨hA, h9⟩ := hb hbf
 refine .call (before_ok (t := r.1) hA h9) fun r5 h5 => .call (chainT_ok (t := r.1) hA h9 h5) fun r6 ⟨h6, h6'⟩ => ?_
 have hBB : BB r6 := ⟨by omega, fun b hb => by have := h6' b hb; omega⟩
 refine .call (P := fun o => Cur (k + 3900000) ⟨o.1, o.2.1, ⟨o.2.2.1⟩⟩ ∧ BB o.2.2.2) ?_ fun ⟨v1, v2, v3, i⟩ ⟨g1, g2⟩ => .ok ⟨g1.mono (by omega), hd, hf, g2⟩
 refine .call (P := fun o => Cur (k + 3800000) ⟨o.2.1, o.2.2.1, ⟨o.2.2.2⟩⟩ ∧ (o.1 = true → 0 < r6.length)) (.iteP (fun h0 => .call (t_one 8 hc1 (by omega)) fun r7 hc7 => .ok ⟨hc7.mono (by omega), fun _ => by omega⟩) fun _ => .ok ⟨hc1.mono (by omega), fun h => by cases h⟩) fun ⟨v4, v5, v6, v7⟩ ⟨hc4, hpos⟩ => ?_
 refine .ite (fun hv => ?_) fun _ => .ok ⟨hc4.mono (by omega), hBB⟩
 have h0 := hpos hv
 refine .call (t_pick _ hc4 (by omega)) fun r8 ⟨hc8, p0, p1⟩ => .call (t_pick 3 hc8 (by omega)) fun r9 ⟨hc9, _⟩ => ?_
 have hr8 : r8.1 < (r6.length : Int) := by omega
 have he : ∃ e, idx r6 r8.1 = some e ∧ 1 ≤ e.length ∧ e.length ≤ 1801 := by
  obtain ⟨e, he, _, hm⟩ := idx_lt p0 hr8
  exact ⟨e, he, h6' e hm⟩
 obtain ⟨e, he, hel⟩ := he
 refine .ite (fun _ => .eq he (.call (idOf_ok r.1 hc9 (by omega)) fun r11 hc11 => .chk (by simp; omega) (.eq he (.ok ⟨hc11.mono (by omega), bb_set hBB (by simp; omega)⟩)))) fun _ => .ite (fun _ => .eq he (.chk (by omega) (.eq he (.ok ⟨hc9.mono (by omega), bb_set hBB (by simp; omega)⟩)))) fun _ => .eq he (.chk (by simp; omega) (.ok ⟨hc9.mono (by omega), ⟨by simp; omega, fun b hb => ?_⟩⟩))
 rcases List.mem_append.1 hb with hb | hb
 ·exact hBB.2 b hb
 ·rw [List.mem_singleton.1 hb]; omega
def tix (t : Timetable) (e : Int) : Int := fixI (fun x => x.Id == e) t.Trips
def tr (t : Timetable) (e : Int) : Trip := (t.Trips[(tix t e).toNat]?).getD ⟨0, 0, 0⟩
theorem tix_at {t : Timetable} {e : Int} (h : 0 ≤ tix t e) : t.Trips[(tix t e).toNat]? = some (tr t e) ∧ (tr t e).Id = e ∧ ((tix t e).toNat : Int) = tix t e ∧ (tix t e).toNat < t.Trips.length := by
 obtain ⟨k, x, h1, h2, h3, _⟩ := idx_fix (p := fun x : Trip => x.Id == e) (l := t.Trips) (by unfold tix at h; omega)
 have e1 : tix t e = (k : Int) := h1
 have e2 : tr t e = x := by unfold tr; rw [e1, Int.toNat_natCast, h2]; rfl
 rw [e1, Int.toNat_natCast, e2]
 exact ⟨h2, by simpa using h3, rfl, get_lt h2⟩
theorem tix_idx {t : Timetable} {e : Int} (h : 0 ≤ tix t e) : idx t.Trips (tix t e) = some (tr t e) := by
 have := tix_at h
 rw [← this.2.2.1]; exact ixs this.1
theorem tix_trip {t : Timetable} (hT : GoodT t) {k : Nat} {x : Trip} (hx : t.Trips[k]? = some x) : tix t x.Id = (k : Int) := trip_fix hT hx
theorem tix_inj {t : Timetable} {a b : Int} (h : 0 ≤ tix t a) (e : tix t a = tix t b) : a = b := by
 have h1 := tix_at h
 have h2 := tix_at (t := t) (e := b) (by omega)
 rw [← e, h1.1] at h2
 have := Option.some.inj h2.1
 rw [← h1.2.1, ← h2.2.1, this]
theorem tix_pos {t : Timetable} (hT : GoodT t) {e : Int} (h : 0 ≤ tix t e) : 1 ≤ e := by
 have h1 := tix_at h
 have := (hT.2.2.1 _ _ h1.1).1.1
 rw [h1.2.1] at this; exact this
theorem tripI {t : Timetable} (hb : TB t) (e : Int) : zq39 t e = some (tix t e) := tripIndex_eq t hb.2 e
theorem tripS {t : Timetable} (hb : TB t) (e : Int) : zq121 t e = some (tix t e) := l5Find_eq t hb.2 e
theorem withI {t : Timetable} (hb : TB t) {e : Int} (h : 0 ≤ tix t e) : zq41 t e = some (tr t e) := by
 unfold zq41
 rw [tripI hb]
 simp only [Option.bind_some, tix_idx h]
def FolE (t : Timetable) (f : Fleet) (a c : Int) : Prop := Fol t f (tr t a) (tr t c)
noncomputable instance (t : Timetable) (f : Fleet) (a c : Int) : Decidable (FolE t f a c) := Classical.propDecidable _
theorem fol_both {t : Timetable} {f : Fleet} (h : AskF t f) {a c : Int} (ha : 0 ≤ tix t a) (hc : 0 ≤ tix t c) : zq17 t f (tr t a) (tr t c) = some (decide (FolE t f a c)) ∧ zq54 t f (tix t a) (tix t c) = some (decide (FolE t f a c)) := by
 have h1 := tix_at ha
 have h2 := tix_at hc
 obtain ⟨g1, g2⟩ := follow_both h h1.1 h2.1
 rw [h1.2.2.1, h2.2.2.1] at g2
 rw [g1, g2]
 exact ⟨congrArg some (decide_eq_decide.2 Iff.rfl), congrArg some (decide_eq_decide.2 Iff.rfl)⟩
theorem pig {n : Nat} : ∀ {l : List Int}, l.Nodup → (∀ x ∈ l, 0 ≤ x ∧ x < (n : Int)) → l.length ≤ n := by
 induction n with
 | zero =>
  intro l _ h
  cases l with
  | nil => simp
  | cons a l => have := h a (by simp); omega
 | succ n ih =>
  intro l hd h
  by_cases hm : ((n : Nat) : Int) ∈ l
  ·have := ih (l := l.erase (n : Int)) (hd.erase _) (fun x hx => by
    have h1 := h x (List.mem_of_mem_erase hx)
    have h2 : x ≠ (n : Int) := (hd.mem_erase_iff.1 hx).1
    omega)
   rw [List.length_erase_of_mem hm] at this; omega
  ·have := ih hd (fun x hx => by
    have h1 := h x hx
    have h2 : x ≠ (n : Int) := fun e => hm (e ▸ hx)
    omega)
   omega
theorem pig_mem {n : Nat} {l : List Int} (hd : l.Nodup) (h : ∀ x ∈ l, 0 ≤ x ∧ x < (n : Int)) (hl : l.length = n) {p : Nat} (hp : p < n) : (p : Int) ∈ l := by
 by_cases hm : (p : Int) ∈ l
 ·exact hm
 ·have := pig (n := n) (l := (p : Int) :: l) (List.nodup_cons.2 ⟨hm, hd⟩) (fun x hx => by
   rcases List.mem_cons.1 hx with rfl | hx
   ·omega
   ·exact h x hx)
  simp only [List.length_cons] at this; omega
def ChainE (t : Timetable) (f : Fleet) (b : List Int) : Prop := ∀ (j : Nat) a c, b[j]? = some a → b[j + 1]? = some c → FolE t f a c
def BlockE (t : Timetable) (f : Fleet) (b : List Int) : Prop := b ≠ [] ∧ (∀ e ∈ b, 0 ≤ tix t e) ∧ ChainE t f b
def BlocksP (t : Timetable) (f : Fleet) (B : List (List Int)) : Prop := (∀ b ∈ B, BlockE t f b) ∧ (B.flatten.map (tix t)).Nodup ∧ B.flatten.length = t.Trips.length
def UsedB (u : List Bool) (at_ : List Int) : Prop := u.length = 12 ∧ ∀ p : Nat, p < 12 → u[p]? = some (decide ((p : Int) ∈ at_))
theorem used_nil : UsedB (List.replicate 12 false) [] := ⟨by simp, fun p hp => by
 rw [List.getElem?_replicate]; simp [hp]⟩
theorem used_set {u : List Bool} {at_ : List Int} (h : UsedB u at_) {r : Int} (h0 : 0 ≤ r ∧ r < 12) : UsedB (u.set r.toNat true) (at_ ++ [r]) := by
 refine ⟨by rw [List.length_set]; exact h.1, fun p hp => ?_⟩
 rw [List.getElem?_set]
 by_cases e : r.toNat = p
 ·subst e
  rw [if_pos rfl, if_pos (by rw [h.1]; exact hp)]
  have : ((r.toNat : Nat) : Int) = r := by omega
  simp [this]
 ·rw [if_neg e, h.2 p hp]
  have : (p : Int) ≠ r := by omega
  simp [this]
theorem used_idx {u : List Bool} {at_ : List Int} (h : UsedB u at_) {r : Int} (h0 : 0 ≤ r ∧ r < 12) : idx u r = some (decide (r ∈ at_)) := by
 have e : ((r.toNat : Nat) : Int) = r := by omega
 have := h.2 r.toNat (by omega)
 rw [e] at this
 rw [← e, idx_nat, this, e]
section
variable {t : Timetable} {f : Fleet} {B : List (List Int)}
theorem block_in (hb : TB t) (h : AskF t f) (hB : BB B) {v : Nat} {b : List Int} (hv : B[v]? = some b) {at0 : List Int} (hr0 : ∀ x ∈ at0, 0 ≤ x ∧ x < (t.Trips.length : Int)) {u0 : List Bool} (hu0 : UsedB u0 at0) (hd0 : at0.Nodup) :
  ∃ x x', iter (zq11_L1 t f b) ((at0.length : Int), (0 : Int), u0) = some x ∧ iter (zq48_L1 t f B (v : Int)) ((0 : Int), at0) = some x' ∧
   ((x = .ret (.dn (.ret false)) ∧ x' = .ret (.dn (.ret false))) ∨ ∃ at_ u, x = .go ((at_.length : Int), u) ∧ x' = .go at_ ∧ at_ = at0 ++ b.map (tix t) ∧ UsedB u at_ ∧ at_.Nodup ∧ (∀ e ∈ b, 0 ≤ tix t e) ∧ ChainE t f b) := by
 have hn := h.1.2.1
 have hbl := hB.2 b (List.mem_of_getElem? hv)
 refine iter2 (fun m (a : Int × Int × List Bool) (a' : Int × List Int) => ∃ j : Nat, m + j = b.length ∧ a.1 = (a'.2.length : Int) ∧ a.2.1 = (j : Int) ∧ a'.1 = (j : Int) ∧ a'.2 = at0 ++ (b.take j).map (tix t) ∧ UsedB a.2.2 a'.2 ∧ a'.2.Nodup ∧ (∀ e ∈ b.take j, 0 ≤ tix t e) ∧ ∀ (i : Nat) p q, i + 1 < j → b[i]? = some p → b[i + 1]? = some q → FolE t f p q) _ ?_ (k := b.length) ⟨0, rfl, rfl, rfl, rfl, by simp, hu0, hd0, by simp, by simp⟩
 rintro m ⟨n1, v3, u⟩ ⟨v2, at_⟩ ⟨j, hm, e1, e2, e3, e4, hU, hD, hE, hC⟩
 simp only at e1 e2 e3 e4 hU hD
 subst e2 e3 e1
 have hrange : ∀ x ∈ at_, 0 ≤ x ∧ x < (t.Trips.length : Int) := fun x hx => by
  rw [e4] at hx
  rcases List.mem_append.1 hx with hx | hx
  ·exact hr0 x hx
  ·obtain ⟨e, he, rfl⟩ := List.mem_map.1 hx
   have := tix_at (hE e he); omega
 have hlen := pig hD hrange
 by_cases hj : j < b.length
 ·obtain ⟨e, he⟩ := get_ex hj
  have hlt : decide ((j : Int) < (b.length : Int)) = true := by simp; omega
  by_cases h0 : tix t e < 0
  ·refine .inr ⟨_, _, ?_, ?_, .inl ⟨rfl, rfl⟩⟩
   ·simp only [zq11_L1, hlt, if_true, idx_nat, he, Option.bind_some, tripI hb, h0, decide_true]
   ·simp only [zq48_L1, ixs hv, hlt, if_true, idx_nat, he, Option.bind_some, tripS hb, h0, decide_true]
  have h0' : 0 ≤ tix t e := by omega
  have hta := tix_at h0'
  have hr12 : 0 ≤ tix t e ∧ tix t e < 12 := by omega
  have hck : chk ((0 : Int) ≤ tix t e ∧ tix t e < 12) = some () := chk_of hr12
  have hui := used_idx hU hr12
  have hha := l1Has_eq at_ (by omega) (tix t e)
  by_cases h1 : tix t e ∈ at_
  ·refine .inr ⟨_, _, ?_, ?_, .inl ⟨rfl, rfl⟩⟩
   ·simp only [zq11_L1, hlt, if_true, idx_nat, he, Option.bind_some, tripI hb, h0, decide_false, Bool.false_eq_true, if_false, hck, hui, h1, decide_true]
   ·simp only [zq48_L1, ixs hv, hlt, if_true, idx_nat, he, Option.bind_some, tripS hb, h0, decide_false, Bool.false_eq_true, if_false, hha, h1, decide_true]
  have hck2 : chk (at_.length + ([tix t e] : List Int).length ≤ 4294967296) = some () := chk_of (by simp; omega)
  have hDn : (at_ ++ [tix t e]).Nodup := List.nodup_append.2 ⟨hD, by simp, fun a ha c hc => by
   rw [List.mem_singleton.1 hc]; intro e; exact h1 (e ▸ ha)⟩
  have hen : ∀ e' ∈ b.take (j + 1), 0 ≤ tix t e' := fun e' he' => by
   rw [take_succ he] at he'
   rcases List.mem_append.1 he' with he' | he'
   ·exact hE e' he'
   ·rw [List.mem_singleton.1 he']; exact h0'
  have hat : at_ ++ [tix t e] = at0 ++ (b.take (j + 1)).map (tix t) := by
   rw [take_succ he, List.map_append, ← List.append_assoc, ← e4]; rfl
  have fin : (∀ (i : Nat) p q, i + 1 < j + 1 → b[i]? = some p → b[i + 1]? = some q → FolE t f p q) → ∃ k', k' < m ∧ ∃ j' : Nat, k' + j' = b.length ∧ w64 ((at_.length : Int) + 1) = ((at_ ++ [tix t e]).length : Int) ∧ w64 ((j : Int) + 1) = (j' : Int) ∧ w64 ((j : Int) + 1) = (j' : Int) ∧ at_ ++ [tix t e] = at0 ++ (b.take j').map (tix t) ∧ UsedB (u.set (tix t e).toNat true) (at_ ++ [tix t e]) ∧ (at_ ++ [tix t e]).Nodup ∧ (∀ e ∈ b.take j', 0 ≤ tix t e) ∧ ∀ (i : Nat) p q, i + 1 < j' → b[i]? = some p → b[i + 1]? = some q → FolE t f p q := fun hC' =>
   ⟨m - 1, by omega, j + 1, by omega, (by rw [w64_succ (n := at_.length) (by omega)]; simp), w64_succ (by omega), w64_succ (by omega), hat, used_set hU hr12, hDn, hen, hC'⟩
  by_cases hj0 : 0 < j
  ·obtain ⟨a, ha⟩ := get_ex (l := b) (i := j - 1) (by omega)
   have hw : w64 ((j : Int) - 1) = ((j - 1 : Nat) : Int) := by rw [w64_id (by omega)]; omega
   have haT : 0 ≤ tix t a := hE a (List.mem_of_getElem? (show (b.take j)[j - 1]? = some a by rw [List.getElem?_take_of_lt (by omega)]; exact ha))
   have hjp : decide ((0 : Int) < (j : Int)) = true := by simp; omega
   obtain ⟨f1, f2⟩ := fol_both h haT h0'
   by_cases hF : FolE t f a e
   ·obtain ⟨k', hk', rest⟩ := fin fun i p q hi hp hq => by
     by_cases hij : i + 1 < j
     ·exact hC i p q hij hp hq
     ·have : i = j - 1 := by omega
      subst this
      rw [ha] at hp; cases hp
      rw [show j - 1 + 1 = j by omega, he] at hq; cases hq
      exact hF
    refine .inl ⟨(w64 ((at_.length : Int) + 1), w64 ((j : Int) + 1), u.set (tix t e).toNat true), (w64 ((j : Int) + 1), at_ ++ [tix t e]), k', ?_, ?_, hk', rest⟩
    ·simp only [zq11_L1, hlt, if_true, idx_nat, he, Option.bind_some, tripI hb, h0, decide_false, Bool.false_eq_true, if_false, hck, hui, h1, hjp, hw, ha, withI hb haT, tix_idx h0', f1, hF, decide_true, Bool.not_true]
    ·simp only [zq48_L1, ixs hv, hlt, if_true, idx_nat, he, Option.bind_some, tripS hb, h0, decide_false, Bool.false_eq_true, if_false, hha, h1, hjp, hw, ha, f2, hF, decide_true, Bool.not_true, hck2]
   ·refine .inr ⟨_, _, ?_, ?_, .inl ⟨rfl, rfl⟩⟩
    ·simp only [zq11_L1, hlt, if_true, idx_nat, he, Option.bind_some, tripI hb, h0, decide_false, Bool.false_eq_true, if_false, hck, hui, h1, hjp, hw, ha, withI hb haT, tix_idx h0', f1, hF, Bool.not_false]
    ·simp only [zq48_L1, ixs hv, hlt, if_true, idx_nat, he, Option.bind_some, tripS hb, h0, decide_false, Bool.false_eq_true, if_false, hha, h1, hjp, hw, ha, f2, hF, Bool.not_false]
  ·have hj0' : j = 0 := by omega
   obtain ⟨k', hk', rest⟩ := fin fun i p q hi => by omega
   have hjp : decide ((0 : Int) < (j : Int)) = false := by simp; omega
   refine .inl ⟨(w64 ((at_.length : Int) + 1), w64 ((j : Int) + 1), u.set (tix t e).toNat true), (w64 ((j : Int) + 1), at_ ++ [tix t e]), k', ?_, ?_, hk', rest⟩
   ·simp only [zq11_L1, hlt, if_true, idx_nat, he, Option.bind_some, tripI hb, h0, decide_false, Bool.false_eq_true, if_false, hck, hui, h1, hjp]
   ·simp only [zq48_L1, ixs hv, hlt, if_true, idx_nat, he, Option.bind_some, tripS hb, h0, decide_false, Bool.false_eq_true, if_false, hha, h1, hjp, hck2]
 ·have hlt : decide ((j : Int) < (b.length : Int)) = false := by simp; omega
  have htk : b.take j = b := List.take_of_length_le (by omega)
  rw [htk] at e4 hE
  refine .inr ⟨_, _, ?_, ?_, .inr ⟨at_, u, rfl, rfl, e4, hU, hD, hE, fun i p q hp hq => hC i p q (by have := get_lt hq; omega) hp hq⟩⟩
  ·simp only [zq11_L1, hlt, Bool.false_eq_true, if_false]
  ·simp only [zq48_L1, ixs hv, hlt, Bool.false_eq_true, if_false, Option.bind_some]
theorem blocks_both (hb : TB t) (h : AskF t f) (hB : BB B) : ∃ v, zq11 t f B = some v ∧ zq48 t f B = some v ∧ (v = true → BlocksP t f B) := by
 have hn := h.1.2.1
 have H : ∃ x x', iter (zq11_L2 t f B) ((0 : Int), (0 : Int), (0 : Int), (List.replicate 12 (false : Bool))) = some x ∧ iter (zq48_L2 t f B) ((0 : Int), ([] : List Int)) = some x' ∧
   ((x = .ret false ∧ x' = .ret false) ∨ ∃ at_ : List Int, x = .go (at_.length : Int) ∧ x' = .go at_ ∧ at_ = B.flatten.map (tix t) ∧ at_.Nodup ∧ ∀ b ∈ B, BlockE t f b) := by
  refine iter2 (fun m (a : Int × Int × Int × List Bool) (a' : Int × List Int) => ∃ v : Nat, m + v = B.length ∧ a.1 = (a'.2.length : Int) ∧ a.2.2.1 = (v : Int) ∧ a'.1 = (v : Int) ∧ a'.2 = (B.take v).flatten.map (tix t) ∧ UsedB a.2.2.2 a'.2 ∧ a'.2.Nodup ∧ (∀ b ∈ B.take v, BlockE t f b) ∧ (v = 0 → a.2.1 = 0) ∧ (0 < v → ∃ b, B[v - 1]? = some b ∧ b[0]? = some a.2.1)) _ ?_ (k := B.length) ⟨0, rfl, rfl, rfl, rfl, by simp, used_nil, by simp, by simp, fun _ => rfl, fun h => by omega⟩
  rintro m ⟨n1, k, v', u⟩ ⟨v2, at_⟩ ⟨v, hm, e1, e2, e3, e4, hU, hD, hE, hk0, hk1⟩
  simp only at e1 e2 e3 e4 hU hD hk0 hk1
  subst e2 e3 e1
  have hrange : ∀ x ∈ at_, 0 ≤ x ∧ x < (t.Trips.length : Int) := fun x hx => by
   rw [e4] at hx
   obtain ⟨e, he, rfl⟩ := List.mem_map.1 hx
   obtain ⟨b, hb1, hb2⟩ := List.mem_flatten.1 he
   have := tix_at ((hE b hb1).2.1 e hb2); omega
  by_cases hv : v < B.length
  ·obtain ⟨b, hbv⟩ := get_ex hv
   have hlt : decide ((v : Int) < (B.length : Int)) = true := by simp; omega
   by_cases hz : b.length = 0
   ·have hzb : ((b.length : Int) == 0) = true := beq_iff_eq.2 (by omega)
    refine .inr ⟨_, _, ?_, ?_, .inl ⟨rfl, rfl⟩⟩
    ·simp only [zq11_L2, hlt, if_true, idx_nat, hbv, Option.bind_some, hzb]
    ·simp only [zq48_L2, hlt, if_true, idx_nat, hbv, Option.bind_some, hzb]
   have hzb : ((b.length : Int) == 0) = false := beq_eq_false_iff_ne.2 (by omega)
   obtain ⟨e, he⟩ := get_ex (l := b) (i := 0) (by omega)
   have he0 : idx b 0 = some e := ixs (i := 0) he
   have main : ¬ e ≤ k → (∀ R, zq48_L2 t f B ((v : Int), at_) = R ↔ (flb (iter (zq48_L1 t f B (v : Int)) ((0 : Int), at_)) fun (at_2 : List Int) => some (.nx ((w64 ((v : Int) + 1)), at_2))) = R) → (∃ b_1 b', ∃ k', zq11_L2 t f B ((at_.length : Int), k, (v : Int), u) = some (.nx b_1) ∧ zq48_L2 t f B ((v : Int), at_) = some (.nx b') ∧ k' < m ∧ ∃ v : Nat, k' + v = B.length ∧ b_1.1 = (b'.2.length : Int) ∧ b_1.2.2.1 = (v : Int) ∧ b'.1 = (v : Int) ∧ b'.2 = (B.take v).flatten.map (tix t) ∧ UsedB b_1.2.2.2 b'.2 ∧ b'.2.Nodup ∧ (∀ b ∈ B.take v, BlockE t f b) ∧ (v = 0 → b_1.2.1 = 0) ∧ (0 < v → ∃ b, B[v - 1]? = some b ∧ b[0]? = some b_1.2.1)) ∨ ∃ x x', zq11_L2 t f B ((at_.length : Int), k, (v : Int), u) = some (.dn x) ∧ zq48_L2 t f B ((v : Int), at_) = some (.dn x') ∧ ((x = .ret false ∧ x' = .ret false) ∨ ∃ at_ : List Int, x = .go (at_.length : Int) ∧ x' = .go at_ ∧ at_ = B.flatten.map (tix t) ∧ at_.Nodup ∧ ∀ b ∈ B, BlockE t f b) := by
    intro hek hS
    obtain ⟨x, x', g1, g2, g3⟩ := block_in hb h hB hbv hrange hU hD
    have hI : zq11_L2 t f B ((at_.length : Int), k, (v : Int), u) = flb (iter (zq11_L1 t f b) ((at_.length : Int), (0 : Int), u)) fun ((block2, v6) : Int × (List Bool)) => some (.nx (block2, e, (w64 ((v : Int) + 1)), v6)) := by
     simp only [zq11_L2, hlt, if_true, idx_nat, hbv, Option.bind_some, hzb, Bool.false_eq_true, if_false, he0, hek, decide_false]
    rcases g3 with ⟨rfl, rfl⟩ | ⟨at2, u2, rfl, rfl, q1, q2, q3, q4, q5⟩
    ·refine .inr ⟨_, _, ?_, ?_, .inl ⟨rfl, rfl⟩⟩
     ·rw [hI, g1]; rfl
     ·rw [hS, g2]; rfl
    ·refine .inl ⟨((at2.length : Int), e, w64 ((v : Int) + 1), u2), (w64 ((v : Int) + 1), at2), m - 1, ?_, ?_, by omega, v + 1, by omega, rfl, w64_succ (by have := hB.1; omega), w64_succ (by have := hB.1; omega), ?_, q2, q3, ?_, fun h => by omega, fun _ => ⟨b, hbv, he⟩⟩
     ·rw [hI, g1]; rfl
     ·rw [hS, g2]; rfl
     ·rw [take_succ hbv, List.flatten_append, List.map_append, ← e4, q1]; simp
     ·intro b' hb'
      rw [take_succ hbv] at hb'
      rcases List.mem_append.1 hb' with hb' | hb'
      ·exact hE b' hb'
      ·rw [List.mem_singleton.1 hb']
       exact ⟨fun hn => by rw [hn] at hz; exact hz rfl, q4, q5⟩
   by_cases hv0 : 0 < v
   ·obtain ⟨c, hc1, hc2⟩ := hk1 hv0
    have hw : w64 ((v : Int) - 1) = ((v - 1 : Nat) : Int) := by rw [w64_id (by have := hB.1; omega)]; omega
    have hvp : decide ((0 : Int) < (v : Int)) = true := by simp; omega
    have hc0 : idx c 0 = some k := ixs (i := 0) hc2
    by_cases hek : e ≤ k
    ·refine .inr ⟨_, _, ?_, ?_, .inl ⟨rfl, rfl⟩⟩
     ·simp only [zq11_L2, hlt, if_true, idx_nat, hbv, Option.bind_some, hzb, Bool.false_eq_true, if_false, he0, hek, decide_true]
     ·simp only [zq48_L2, hlt, if_true, idx_nat, hbv, Option.bind_some, hzb, Bool.false_eq_true, if_false, he0, hvp, hw, hc1, hc0, hek, decide_true]
    ·refine main hek fun R => ?_
     simp only [zq48_L2, hlt, if_true, idx_nat, hbv, Option.bind_some, hzb, Bool.false_eq_true, if_false, he0, hvp, hw, hc1, hc0, hek, decide_false]
   ·have hk := hk0 (by omega)
    subst hk
    have hvp : decide ((0 : Int) < (v : Int)) = false := by simp; omega
    have hS : zq48_L2 t f B ((v : Int), at_) = (flb (iter (zq48_L1 t f B (v : Int)) ((0 : Int), at_)) fun (at_2 : List Int) => some (.nx ((w64 ((v : Int) + 1)), at_2))) := by
     simp only [zq48_L2, hlt, if_true, idx_nat, hbv, Option.bind_some, hzb, Bool.false_eq_true, if_false, hvp]
    by_cases hek : e ≤ 0
    ·have hne : tix t e < 0 := by
      rcases Int.lt_or_le (tix t e) 0 with h | h'
      ·exact h
      ·have := tix_pos h.1 h'; omega
     have hb0 : decide ((0 : Int) < (b.length : Int)) = true := by simp; omega
     refine .inr ⟨_, _, ?_, ?_, .inl ⟨rfl, rfl⟩⟩
     ·simp only [zq11_L2, hlt, if_true, idx_nat, hbv, Option.bind_some, hzb, Bool.false_eq_true, if_false, he0, hek, decide_true]
     ·rw [hS, iter_dn (b := .ret (.dn (.ret false))) (by simp only [zq48_L1, ixs hbv, hb0, if_true, he0, Option.bind_some, tripS hb, hne, decide_true])]
      rfl
    ·exact main hek fun R => by rw [hS]
  ·have hlt : decide ((v : Int) < (B.length : Int)) = false := by simp; omega
   rw [List.take_of_length_le (by omega : B.length ≤ v)] at e4 hE
   refine .inr ⟨_, _, ?_, ?_, .inr ⟨at_, rfl, rfl, e4, hD, hE⟩⟩
   ·simp only [zq11_L2, hlt, Bool.false_eq_true, if_false]
   ·simp only [zq48_L2, hlt, Bool.false_eq_true, if_false]
 obtain ⟨x, x', g1, g2, g3⟩ := H
 unfold zq11 zq48
 rw [g1, g2]
 rcases g3 with ⟨rfl, rfl⟩ | ⟨at_, rfl, rfl, q1, q2, q3⟩
 ·exact ⟨false, rfl, rfl, fun h => by cases h⟩
 ·refine ⟨_, rfl, rfl, fun h => ⟨q3, q1 ▸ q2, ?_⟩⟩
  have : (at_.length : Int) = (t.Trips.length : Int) := by simpa using h
  rw [q1, List.length_map] at this
  omega
end
theorem valid_blocks {t : Timetable} {f : Fleet} {B : List (List Int)} (hb : TB t) (hf : FB f) (hB : BB B) : ∃ v, zq6 t f B = some v ∧ zq56 t f B = some v ∧ (v = true → AskF t f ∧ BlocksP t f B) := by
 unfold zq6 zq56
 rw [isRun_eq hb hf, l11Asked_eq hb hf]
 by_cases h : AskF t f
 ·obtain ⟨v, g1, g2, g3⟩ := blocks_both hb h hB
  exact ⟨v, by simp [h, g1], by simp [h, g2], fun hv => ⟨h, g3 hv⟩⟩
 ·exact ⟨false, by simp [h], by simp [h], fun h => by cases h⟩
def DelaysP (L : List Delay) : Prop := ∀ x ∈ L, 1 ≤ x.Minutes ∧ x.Minutes ≤ 240
theorem delays_both {t : Timetable} (hb : TB t) (hT : GoodT t) {L : List Delay} (hL : L.length ≤ 1000) : ∃ v, zq13 t L = some v ∧ zq59 t L = some v ∧ (v = true → DelaysP L) := by
 have H : ∃ x x', iter (zq13_L1 t L) ((0 : Int), (0 : Int)) = some x ∧ iter (zq59_L1 t L) (0 : Int) = some x' ∧ ((x = .ret false ∧ x' = .ret false) ∨ (x = .go () ∧ x' = .go () ∧ DelaysP L)) := by
  refine iter2 (fun m (a : Int × Int) (a' : Int) => ∃ i : Nat, m + i = L.length ∧ a.2 = (i : Int) ∧ a' = (i : Int) ∧ (∀ x ∈ L.take i, 1 ≤ x.Minutes ∧ x.Minutes ≤ 240) ∧ (i = 0 → a.1 = 0) ∧ (0 < i → ∃ x, L[i - 1]? = some x ∧ x.Trip = a.1)) _ ?_ (k := L.length) ⟨0, rfl, rfl, rfl, by simp, fun _ => rfl, fun h => by omega⟩
  rintro m ⟨d, v⟩ v' ⟨i, hm, e1, e2, hP, h0, h1⟩
  simp only at e1 h0 h1
  subst e1 e2
  by_cases hi : i < L.length
  ·obtain ⟨x, hx⟩ := get_ex hi
   have hlt : decide ((i : Int) < (L.length : Int)) = true := by simp; omega
   have hS : zq59_L1 t L (i : Int) = (if tix t x.Trip < 0 ∨ ¬ (1 ≤ x.Minutes ∧ x.Minutes ≤ 240) ∨ (0 < i ∧ x.Trip ≤ d) then some (.dn (.ret false)) else some (.nx (w64 ((i : Int) + 1)))) := by
    by_cases c1 : tix t x.Trip < 0
    ·simp only [zq59_L1, hlt, if_true, idx_nat, hx, Option.bind_some, tripS hb, c1, decide_true, true_or]
    by_cases c2 : 1 ≤ x.Minutes ∧ x.Minutes ≤ 240
    ·by_cases c3 : 0 < i
     ·obtain ⟨y, hy1, hy2⟩ := h1 c3
      have hw : w64 ((i : Int) - 1) = ((i - 1 : Nat) : Int) := by rw [w64_id (by omega)]; omega
      have hp : decide ((0 : Int) < (i : Int)) = true := by simp; omega
      simp only [zq59_L1, hlt, if_true, idx_nat, hx, Option.bind_some, tripS hb, c1, decide_false, Bool.false_eq_true, if_false, l1In_eq, c2, and_self, decide_true, Bool.not_true, hp, hw, hy1, hy2, c3, not_true, false_or, true_and, decide_eq_true_eq]
     ·have hp : decide ((0 : Int) < (i : Int)) = false := by simp; omega
      simp only [zq59_L1, hlt, if_true, idx_nat, hx, Option.bind_some, tripS hb, c1, decide_false, Bool.false_eq_true, if_false, l1In_eq, c2, and_self, decide_true, Bool.not_true, hp, c3, not_true, false_or, false_and]
    ·simp only [zq59_L1, hlt, if_true, idx_nat, hx, Option.bind_some, tripS hb, c1, decide_false, Bool.false_eq_true, if_false, l1In_eq, c2, Bool.not_false, not_false_eq_true, true_or, or_true]
   have hI : zq13_L1 t L (d, (i : Int)) = (if x.Trip ≤ d ∨ tix t x.Trip < 0 ∨ ¬ (1 ≤ x.Minutes ∧ x.Minutes ≤ 240) then some (.dn (.ret false)) else some (.nx (x.Trip, w64 ((i : Int) + 1)))) := by
    by_cases c3 : x.Trip ≤ d
    ·simp only [zq13_L1, hlt, if_true, idx_nat, hx, Option.bind_some, c3, decide_true, true_or]
    by_cases c1 : tix t x.Trip < 0
    ·simp only [zq13_L1, hlt, if_true, idx_nat, hx, Option.bind_some, tripI hb, c3, c1, decide_true, decide_false, Bool.false_eq_true, if_false, true_or, or_true]
    by_cases c2 : 1 ≤ x.Minutes ∧ x.Minutes ≤ 240
    ·simp only [zq13_L1, hlt, if_true, idx_nat, hx, Option.bind_some, tripI hb, c3, c1, c2, decide_true, decide_false, Bool.false_eq_true, if_false, within_eq, and_self, Bool.not_true, not_true, or_self]
    ·simp only [zq13_L1, hlt, if_true, idx_nat, hx, Option.bind_some, tripI hb, c3, c1, c2, decide_true, decide_false, Bool.false_eq_true, if_false, within_eq, Bool.not_false, not_false_eq_true, or_true]
   rw [hI, hS]
   have hiff : (x.Trip ≤ d ∨ tix t x.Trip < 0 ∨ ¬ (1 ≤ x.Minutes ∧ x.Minutes ≤ 240)) ↔ (tix t x.Trip < 0 ∨ ¬ (1 ≤ x.Minutes ∧ x.Minutes ≤ 240) ∨ (0 < i ∧ x.Trip ≤ d)) := by
    by_cases c1 : tix t x.Trip < 0
    ·exact ⟨fun _ => .inl c1, fun _ => .inr (.inl c1)⟩
    ·have hpos := tix_pos hT (e := x.Trip) (by omega)
     constructor
     ·rintro (h | h | h)
      ·right; right
       refine ⟨?_, h⟩
       rcases Nat.eq_zero_or_pos i with hz | hz
       ·have := h0 hz; omega
       ·exact hz
      ·exact absurd h c1
      ·exact .inr (.inl h)
     ·rintro (h | h | h)
      ·exact absurd h c1
      ·exact .inr (.inr h)
      ·exact .inl h.2
   by_cases hc : x.Trip ≤ d ∨ tix t x.Trip < 0 ∨ ¬ (1 ≤ x.Minutes ∧ x.Minutes ≤ 240)
   ·rw [if_pos hc, if_pos (hiff.1 hc)]
    exact .inr ⟨_, _, rfl, rfl, .inl ⟨rfl, rfl⟩⟩
   ·rw [if_neg hc, if_neg (fun h => hc (hiff.2 h))]
    refine .inl ⟨_, _, m - 1, rfl, rfl, by omega, i + 1, by omega, w64_succ (by omega), w64_succ (by omega), fun y hy => ?_, fun h => by omega, fun _ => ⟨x, hx, rfl⟩⟩
    rw [take_succ hx] at hy
    rcases List.mem_append.1 hy with hy | hy
    ·exact hP y hy
    ·rw [List.mem_singleton.1 hy]
     exact Classical.byContradiction fun hn => hc (.inr (.inr hn))
  ·have hlt : decide ((i : Int) < (L.length : Int)) = false := by simp; omega
   rw [List.take_of_length_le (by omega : L.length ≤ i)] at hP
   refine .inr ⟨_, _, ?_, ?_, .inr ⟨rfl, rfl, hP⟩⟩
   ·simp only [zq13_L1, hlt, Bool.false_eq_true, if_false]
   ·simp only [zq59_L1, hlt, Bool.false_eq_true, if_false]
 obtain ⟨x, x', g1, g2, g3⟩ := H
 unfold zq13 zq59
 rw [g1, g2]
 rcases g3 with ⟨rfl, rfl⟩ | ⟨rfl, rfl, h⟩
 ·exact ⟨false, rfl, rfl, fun h => by cases h⟩
 ·exact ⟨true, rfl, rfl, fun _ => h⟩
theorem late_both {t : Timetable} {f : Fleet} {B : List (List Int)} {L : List Delay} (hb : TB t) (hf : FB f) (hB : BB B) (hL : L.length ≤ 1000) : ∃ v, zq14 t f B L = some v ∧ zq57 t f B L = some v ∧ (v = true → AskF t f ∧ BlocksP t f B ∧ DelaysP L) := by
 obtain ⟨v, g1, g2, g3⟩ := valid_blocks hb hf hB
 unfold zq14 zq57
 rw [g1, g2]
 cases v with
 | false => exact ⟨false, rfl, rfl, fun h => by cases h⟩
 | true =>
  obtain ⟨hA, hP⟩ := g3 rfl
  obtain ⟨w, k1, k2, k3⟩ := delays_both hb hA.1 hL
  exact ⟨w, by simp [k1], by simp [k2], fun h => ⟨hA, hP, k3 h⟩⟩
def pv (L : List Delay) (e : Int) : Int := match L.find? (fun x => x.Trip == e) with
 | some x => x.Minutes
 | none => 0
theorem pv_bd {L : List Delay} (h : DelaysP L) (e : Int) : 0 ≤ pv L e ∧ pv L e ≤ 240 := by
 unfold pv
 cases hf : L.find? (fun x => x.Trip == e) with
 | none => simp
 | some x => have := h x (List.mem_of_find?_eq_some hf); simp only; omega
theorem prim_loop {L : List Delay} {e : Int} {step : Int → Option (Lp Int (Fl Int Unit))} (hs : ∀ (i : Nat) x, L[i]? = some x → step (i : Int) = if x.Trip = e then some (.dn (.ret x.Minutes)) else some (.nx ((i + 1 : Nat) : Int))) (hend : step (L.length : Int) = some (.dn (.go ()))) : Ab.flb (iter step (0 : Int)) (fun _ => some 0) = some (pv L e) := by
 have H : Tot (iter step (0 : Int)) fun b => (∃ x, b = .ret x.Minutes ∧ L.find? (fun x => x.Trip == e) = some x) ∨ (b = .go () ∧ L.find? (fun x => x.Trip == e) = none) := by
  refine .iter (fun m v => ∃ i : Nat, v = (i : Int) ∧ m + i = L.length ∧ ∀ x ∈ L.take i, x.Trip ≠ e) (n := L.length) ⟨0, rfl, rfl, by simp⟩ ?_
  rintro m v ⟨i, rfl, hm, hP⟩
  by_cases hi : i < L.length
  ·obtain ⟨x, hx⟩ := get_ex hi
   rw [hs i x hx]
   by_cases hc : x.Trip = e
   ·rw [if_pos hc]
    refine .dn (.inl ⟨x, rfl, ?_⟩)
    rw [List.find?_eq_some_iff_append]
    refine ⟨by simpa using hc, L.take i, L.drop (i + 1), ?_, fun a ha => by simpa using hP a ha⟩
    obtain ⟨h1, h2⟩ := List.getElem?_eq_some_iff.1 hx
    rw [← h2, ← List.drop_eq_getElem_cons h1, List.take_append_drop]
   ·rw [if_neg hc]
    refine .nx ⟨m - 1, by omega, i + 1, rfl, by omega, fun y hy => ?_⟩
    rw [take_succ hx] at hy
    rcases List.mem_append.1 hy with hy | hy
    ·exact hP y hy
    ·rw [List.mem_singleton.1 hy]; exact hc
  ·have : i = L.length := by omega
   subst this
   rw [hend]
   rw [List.take_length] at hP
   exact .dn (.inr ⟨rfl, List.find?_eq_none.2 fun x hx => by simpa using hP x hx⟩)
 obtain ⟨b, hb, h⟩ := H
 rw [hb]
 unfold pv
 rcases h with ⟨x, rfl, h⟩ | ⟨rfl, h⟩ <;> rw [h] <;> rfl
theorem primI (L : List Delay) (hL : L.length ≤ 1000) (e : Int) : zq36 L e = some (pv L e) := by
 unfold zq36
 refine prim_loop (fun i x hx => ?_) (by unfold zq36_L1; simp)
 have := get_lt hx
 have hlt : decide ((i : Int) < (L.length : Int)) = true := by simp; omega
 simp only [zq36_L1, hlt, if_true, idx_nat, hx, Option.bind_some, beq_iff_eq, w64_succ (n := i) (by omega)]
theorem primS (L : List Delay) (hL : L.length ≤ 1000) (e : Int) : zq60 L e = some (pv L e) := by
 unfold zq60
 refine prim_loop (fun i x hx => ?_) (by unfold zq60_L1; simp)
 have := get_lt hx
 have hlt : decide ((i : Int) < (L.length : Int)) = true := by simp; omega
 simp only [zq60_L1, hlt, if_true, idx_nat, hx, Option.bind_some, beq_iff_eq, w64_succ (n := i) (by omega)]
theorem end_tix {t : Timetable} {f : Fleet} (h : AskF t f) {a : Int} (ha : 0 ≤ tix t a) : ((tr t a).Start < ev t (tr t a) ∧ ev t (tr t a) ≤ 1799) ∧ (0 ≤ (tr t a).Start ∧ (tr t a).Start ≤ 1799) ∧ zq22 t (tr t a) = some (ev t (tr t a)) ∧ zq120 t (tix t a) = some (ev t (tr t a)) := by
 have h1 := tix_at ha
 obtain ⟨g1, g2, g3, g4⟩ := end_both h.1 h1.1
 rw [h1.2.2.1] at g4
 exact ⟨g1, g2, g3, g4⟩
theorem dead_tix {t : Timetable} {f : Fleet} (h : AskF t f) {a c : Int} (ha : 0 ≤ tix t a) (hc : 0 ≤ tix t c) : (0 ≤ dv t f (tr t a) (tr t c) ∧ dv t f (tr t a) (tr t c) ≤ 120) ∧ zq20 t f (tr t a) (tr t c) = some (dv t f (tr t a) (tr t c)) ∧ zq52 t f (tix t a) (tix t c) = some (dv t f (tr t a) (tr t c)) := by
 have h1 := tix_at ha
 have h2 := tix_at hc
 obtain ⟨g1, g2, g3⟩ := dead_both h h1.1 h2.1
 rw [h1.2.2.1, h2.2.2.1] at g3
 exact ⟨g1, g2, g3⟩
theorem l1Most_max (a b : Int) : zq102 a b = some (if b > a then b else a) := by
 unfold zq102
 by_cases h : b < a
 ·have : ¬ b > a := by omega
  simp [h, this]
 ·by_cases h2 : b > a
  ·simp [h, h2]
  ·have : a = b := by omega
   subst this; simp
noncomputable def dlv (t : Timetable) (f : Fleet) (L : List Delay) (b : List Int) : Nat → Int
 | 0 => pv L (b.getD 0 0)
 | k + 1 => (if ev t (tr t (b.getD k 0)) + dlv t f L b k + f.Turn + dv t f (tr t (b.getD k 0)) (tr t (b.getD (k + 1) 0)) > (tr t (b.getD (k + 1) 0)).Start then ev t (tr t (b.getD k 0)) + dlv t f L b k + f.Turn + dv t f (tr t (b.getD k 0)) (tr t (b.getD (k + 1) 0)) else (tr t (b.getD (k + 1) 0)).Start) + pv L (b.getD (k + 1) 0) - (tr t (b.getD (k + 1) 0)).Start
theorem getD0 {b : List Int} {k : Nat} {e : Int} (h : b[k]? = some e) : b.getD k 0 = e := by rw [List.getD_eq_getElem?_getD, h]; rfl
theorem dlv_bd {t : Timetable} {f : Fleet} (h : AskF t f) {L : List Delay} (hL : DelaysP L) {b : List Int} (hb : ∀ e ∈ b, 0 ≤ tix t e) : ∀ k, k < b.length → 0 ≤ dlv t f L b k ∧ dlv t f L b k ≤ 2300 * (k + 1)
 | 0, _ => by have := pv_bd hL (b.getD 0 0); unfold dlv; omega
 | k + 1, hk => by
  have ih := dlv_bd h hL hb k (by omega)
  obtain ⟨a, ha⟩ := get_ex (l := b) (i := k) (by omega)
  obtain ⟨c, hc⟩ := get_ex hk
  have ga := hb a (List.mem_of_getElem? ha)
  have gc := hb c (List.mem_of_getElem? hc)
  have e1 := end_tix h ga
  have e2 := end_tix h gc
  have e3 := (dead_tix h ga gc).1
  have e4 := pv_bd hL c
  have e5 := h.2.2.1
  unfold dlv
  rw [getD0 ha, getD0 hc]
  split <;> omega
def InjB (t : Timetable) (B : List (List Int)) : Prop := ∀ (i : Nat) b (k : Nat) e (i' : Nat) b' (k' : Nat) e', B[i]? = some b → b[k]? = some e → B[i']? = some b' → b'[k']? = some e' → tix t e = tix t e' → i = i' ∧ k = k'
theorem pwG {α : Type} {R : α → α → Prop} {M : List α} (h : M.Pairwise R) {i j : Nat} {a b : α} (hij : i < j) (ha : M[i]? = some a) (hb : M[j]? = some b) : R a b := by
 have := List.pairwise_iff_getElem.1 h i j (get_lt ha) (get_lt hb) hij
 rw [(List.getElem?_eq_some_iff.1 ha).2, (List.getElem?_eq_some_iff.1 hb).2] at this
 exact this
theorem inj_of {t : Timetable} {B : List (List Int)} (h : (B.flatten.map (tix t)).Nodup) : InjB t B := by
 rw [List.map_flatten, List.Nodup, List.pairwise_flatten] at h
 obtain ⟨h1, h2⟩ := h
 intro i b k e i' b' k' e' hb he hb' he' heq
 have gM : ∀ {i : Nat} {b : List Int}, B[i]? = some b → (B.map (List.map (tix t)))[i]? = some (b.map (tix t)) := fun h => by rw [List.getElem?_map, h]; rfl
 have gm : ∀ {b : List Int} {k : Nat} {e : Int}, b[k]? = some e → (b.map (tix t))[k]? = some (tix t e) := fun h => by rw [List.getElem?_map, h]; rfl
 rcases Nat.lt_trichotomy i i' with hlt | rfl | hlt
 ·exact absurd heq (pwG h2 hlt (gM hb) (gM hb') _ (List.mem_of_getElem? (gm he)) _ (List.mem_of_getElem? (gm he')))
 ·rw [hb] at hb'; cases hb'
  have hd := h1 _ (List.mem_of_getElem? (gM hb))
  refine ⟨rfl, ?_⟩
  rcases Nat.lt_trichotomy k k' with hlt | h | hlt
  ·exact absurd heq (pwG hd hlt (gm he) (gm he'))
  ·exact h
  ·exact absurd heq.symm (pwG hd hlt (gm he') (gm he))
 ·exact absurd heq.symm (pwG h2 hlt (gM hb') (gM hb) _ (List.mem_of_getElem? (gm he')) _ (List.mem_of_getElem? (gm he)))
def DelP (t : Timetable) (f : Fleet) (L : List Delay) (B : List (List Int)) (v j : Nat) (D : List Int) : Prop := D.length = t.Trips.length ∧ (∀ (i : Nat) b (k : Nat) e, B[i]? = some b → b[k]? = some e → (i < v ∨ (i = v ∧ k < j)) → D[(tix t e).toNat]? = some (dlv t f L b k)) ∧ ∀ p, p < t.Trips.length → (∀ (i : Nat) b (k : Nat) e, B[i]? = some b → b[k]? = some e → (i < v ∨ (i = v ∧ k < j)) → (tix t e).toNat ≠ p) → D[p]? = some 0
section
variable {t : Timetable} {f : Fleet} {L : List Delay} {B : List (List Int)}
theorem delP_zero : DelP t f L B 0 0 (List.replicate t.Trips.length 0) := ⟨by simp, fun i b k e _ _ h => by omega, fun p hp _ => by rw [List.getElem?_replicate]; simp [hp]⟩
theorem delP_next (hI : InjB t B) (hT : ∀ b ∈ B, ∀ e ∈ b, 0 ≤ tix t e) {v j : Nat} {D : List Int} (h : DelP t f L B v j D) {b : List Int} {e : Int} (hv : B[v]? = some b) (hj : b[j]? = some e) : DelP t f L B v (j + 1) (D.set (tix t e).toNat (dlv t f L b j)) := by
 obtain ⟨h1, h2, h3⟩ := h
 have hte := hT b (List.mem_of_getElem? hv) e (List.mem_of_getElem? hj)
 refine ⟨by rw [List.length_set]; exact h1, fun i b' k e' hb' he' hc => ?_, fun p hp hn => ?_⟩
 ·by_cases hs : tix t e' = tix t e
  ·obtain ⟨rfl, rfl⟩ := hI _ _ _ _ _ _ _ _ hb' he' hv hj hs
   rw [hv] at hb'; cases hb'
   rw [hs, List.getElem?_set_self (by rw [h1]; exact (tix_at hte).2.2.2)]
  ·have hte' := hT b' (List.mem_of_getElem? hb') e' (List.mem_of_getElem? he')
   rw [List.getElem?_set_ne (by omega)]
   refine h2 i b' k e' hb' he' ?_
   rcases hc with hc | ⟨hc1, hc2⟩
   ·exact .inl hc
   ·by_cases hkj : k = j
    ·subst hc1 hkj
     rw [hv] at hb'; cases hb'
     rw [hj] at he'; cases he'
     exact absurd rfl hs
    ·exact .inr ⟨hc1, by omega⟩
 ·rw [List.getElem?_set_ne (hn v b j e hv hj (.inr ⟨rfl, by omega⟩))]
  exact h3 p hp fun i b' k e' hb' he' hc => hn i b' k e' hb' he' (by omega)
theorem delP_row {v : Nat} {D : List Int} {b : List Int} (hv : B[v]? = some b) (h : DelP t f L B v b.length D) : DelP t f L B (v + 1) 0 D := by
 obtain ⟨h1, h2, h3⟩ := h
 refine ⟨h1, fun i b' k e' hb' he' hc => h2 i b' k e' hb' he' ?_, fun p hp hn => h3 p hp fun i b' k e' hb' he' hc => hn i b' k e' hb' he' (by omega)⟩
 by_cases hi : i = v
 ·subst hi
  rw [hv] at hb'; cases hb'
  exact .inr ⟨rfl, get_lt he'⟩
 ·exact .inl (by omega)
theorem del_in (hb : TB t) (hA : AskF t f) (hL : DelaysP L) (hLl : L.length ≤ 1000) (hB : BB B) (hI : InjB t B) (hT : ∀ b ∈ B, ∀ e ∈ b, 0 ≤ tix t e) {v : Nat} {b : List Int} (hv : B[v]? = some b) {D0 : List Int} (hD : DelP t f L B v 0 D0) :
  ∃ x x', iter (zq21_L1 t f L b) ((0 : Int), D0) = some x ∧ iter (zq58_L1 t f B L (v : Int)) ((0 : Int), D0) = some x' ∧ (x = x' ∧ DelP t f L B (v + 1) 0 x) := by
 have hbl := hB.2 b (List.mem_of_getElem? hv)
 have hTb := hT b (List.mem_of_getElem? hv)
 refine iter2 (fun m (a a' : Int × List Int) => a = a' ∧ ∃ j : Nat, m + j = b.length ∧ a.1 = (j : Int) ∧ DelP t f L B v j a.2) _ ?_ (k := b.length) ⟨rfl, 0, rfl, rfl, hD⟩
 rintro m ⟨j', D⟩ _ ⟨rfl, j, hm, e1, hD⟩
 simp only at e1 hD
 subst e1
 by_cases hj : j < b.length
 ·obtain ⟨e, he⟩ := get_ex hj
  have hlt : decide ((j : Int) < (b.length : Int)) = true := by simp; omega
  have hte := hTb e (List.mem_of_getElem? he)
  have hta := tix_at hte
  obtain ⟨d, hd⟩ := get_ex (l := D) (i := (tix t e).toNat) (by rw [hD.1]; exact hta.2.2.2)
  have hdi : idx D (tix t e) = some d := by rw [← hta.2.2.1]; exact ixs hd
  obtain ⟨q1, q2, q3, q4⟩ := end_tix hA hte
  have hpv := pv_bd hL e
  have hnext := delP_next hI hT hD hv he
  left
  by_cases hj0 : 0 < j
  ·obtain ⟨a, ha⟩ := get_ex (l := b) (i := j - 1) (by omega)
   have hw : w64 ((j : Int) - 1) = ((j - 1 : Nat) : Int) := by rw [w64_id (by omega)]; omega
   have hjp : decide ((0 : Int) < (j : Int)) = true := by simp; omega
   have hTa := hTb a (List.mem_of_getElem? ha)
   have hta' := tix_at hTa
   obtain ⟨r1, r2, r3, r4⟩ := end_tix hA hTa
   obtain ⟨z1, z2, z3⟩ := dead_tix hA hTa hte
   have hda : idx D (tix t a) = some (dlv t f L b (j - 1)) := by
    rw [← hta'.2.2.1]
    exact ixs (hD.2.1 v b (j - 1) a hv ha (.inr ⟨rfl, by omega⟩))
   have hbd := dlv_bd hA hL hTb (j - 1) (by omega)
   have hTu := hA.2.2.1
   have w1 : w64 (ev t (tr t a) + dlv t f L b (j - 1)) = ev t (tr t a) + dlv t f L b (j - 1) := w64_id (by omega)
   have w2 : w64 (ev t (tr t a) + dlv t f L b (j - 1) + f.Turn) = ev t (tr t a) + dlv t f L b (j - 1) + f.Turn := w64_id (by omega)
   have w3 : w64 (ev t (tr t a) + dlv t f L b (j - 1) + f.Turn + dv t f (tr t a) (tr t e)) = ev t (tr t a) + dlv t f L b (j - 1) + f.Turn + dv t f (tr t a) (tr t e) := w64_id (by omega)
   have hval : w64 (w64 ((if ev t (tr t a) + dlv t f L b (j - 1) + f.Turn + dv t f (tr t a) (tr t e) > (tr t e).Start then ev t (tr t a) + dlv t f L b (j - 1) + f.Turn + dv t f (tr t a) (tr t e) else (tr t e).Start) + pv L e) - (tr t e).Start) = dlv t f L b j := by
    have : dlv t f L b j = (if ev t (tr t a) + dlv t f L b (j - 1) + f.Turn + dv t f (tr t a) (tr t e) > (tr t e).Start then ev t (tr t a) + dlv t f L b (j - 1) + f.Turn + dv t f (tr t a) (tr t e) else (tr t e).Start) + pv L e - (tr t e).Start := by
     obtain ⟨i, rfl⟩ : ∃ i, j = i + 1 := ⟨j - 1, by omega⟩
     conv => lhs; unfold dlv
     rw [Nat.add_sub_cancel] at ha ⊢
     rw [getD0 ha, getD0 he]
    rw [this]
    split <;> rw [w64_id (x := _ + pv L e) (by omega), w64_id (by omega)]
   refine ⟨(w64 ((j : Int) + 1), D.set (tix t e).toNat (dlv t f L b j)), (w64 ((j : Int) + 1), D.set (tix t e).toNat (dlv t f L b j)), m - 1, ?_, ?_, by omega, rfl, j + 1, by omega, w64_succ (by omega), hnext⟩
   ·simp only [zq21_L1, hlt, if_true, idx_nat, he, Option.bind_some, tripI hb, tix_idx hte, hjp, hw, ha, tix_idx hTa, r3, hda, z2, w1, w2, w3, primI L hLl, hdi, hval]
   ·simp only [zq58_L1, ixs hv, hlt, if_true, idx_nat, he, Option.bind_some, tripS hb, tix_idx hte, hjp, hw, ha, r4, hda, z3, w1, w2, w3, l1Most_max, primS L hLl, hdi, hval]
  ·have hj0' : j = 0 := by omega
   subst hj0'
   have hjp : decide ((0 : Int) < ((0 : Nat) : Int)) = false := rfl
   have hval : w64 (w64 ((tr t e).Start + pv L e) - (tr t e).Start) = dlv t f L b 0 := by
    rw [w64_id (x := _ + pv L e) (by omega), w64_id (by omega)]
    unfold dlv
    rw [getD0 he]; omega
   refine ⟨(w64 (((0 : Nat) : Int) + 1), D.set (tix t e).toNat (dlv t f L b 0)), (w64 (((0 : Nat) : Int) + 1), D.set (tix t e).toNat (dlv t f L b 0)), m - 1, ?_, ?_, by omega, rfl, 1, by omega, rfl, hnext⟩
   ·simp only [zq21_L1, hlt, if_true, idx_nat, he, Option.bind_some, tripI hb, tix_idx hte, hjp, Bool.false_eq_true, if_false, primI L hLl, hdi, hval]
   ·simp only [zq58_L1, ixs hv, hlt, if_true, idx_nat, he, Option.bind_some, tripS hb, tix_idx hte, hjp, Bool.false_eq_true, if_false, primS L hLl, hdi, hval]
 ·have hlt : decide ((j : Int) < (b.length : Int)) = false := by simp; omega
  have : j = b.length := by omega
  subst this
  refine .inr ⟨D, D, ?_, ?_, rfl, delP_row hv hD⟩
  ·simp only [zq21_L1, hlt, Bool.false_eq_true, if_false]
  ·simp only [zq58_L1, ixs hv, hlt, Bool.false_eq_true, if_false, Option.bind_some]
theorem delays_of (hb : TB t) (hA : AskF t f) (hL : DelaysP L) (hLl : L.length ≤ 1000) (hB : BB B) (hI : InjB t B) (hT : ∀ b ∈ B, ∀ e ∈ b, 0 ≤ tix t e) :
  ∃ D, zq21 t f B L = some D ∧ zq58 t f B L = some D ∧ DelP t f L B B.length 0 D := by
 have hBl := hB.1
 have H : ∃ x x', iter (zq21_L2 t f B L) ((0 : Int), (List.replicate (t.Trips.length : Int).toNat (0 : Int))) = some x ∧ iter (zq58_L2 t f B L) ((0 : Int), (List.replicate (t.Trips.length : Int).toNat (0 : Int))) = some x' ∧ (x = x' ∧ DelP t f L B B.length 0 x) := by
  refine iter2 (fun m (a a' : Int × List Int) => a = a' ∧ ∃ v : Nat, m + v = B.length ∧ a.1 = (v : Int) ∧ DelP t f L B v 0 a.2) _ ?_ (k := B.length) ⟨rfl, 0, rfl, rfl, delP_zero⟩
  rintro m ⟨v', D⟩ _ ⟨rfl, v, hm, e1, hD⟩
  simp only at e1 hD
  subst e1
  by_cases hv : v < B.length
  ·obtain ⟨b, hbv⟩ := get_ex hv
   have hlt : decide ((v : Int) < (B.length : Int)) = true := by simp; omega
   obtain ⟨x, x', g1, g2, rfl, g3⟩ := del_in hb hA hL hLl hB hI hT hbv hD
   refine .inl ⟨(w64 ((v : Int) + 1), x), (w64 ((v : Int) + 1), x), m - 1, ?_, ?_, by omega, rfl, v + 1, by omega, w64_succ (by omega), g3⟩
   ·simp only [zq21_L2, hlt, if_true, idx_nat, hbv, Option.bind_some, g1]
   ·simp only [zq58_L2, hlt, if_true, Option.bind_some, g2]
  ·have hlt : decide ((v : Int) < (B.length : Int)) = false := by simp; omega
   have : v = B.length := by omega
   subst this
   refine .inr ⟨D, D, ?_, ?_, rfl, hD⟩
   ·simp only [zq21_L2, hlt, Bool.false_eq_true, if_false]
   ·simp only [zq58_L2, hlt, Bool.false_eq_true, if_false]
 obtain ⟨x, x', g1, g2, rfl, g3⟩ := H
 have hck : chk ((0 : Int) ≤ (t.Trips.length : Int) ∧ ((t.Trips.length : Int) : Int) ≤ 4294967296) = some () := chk_of (by have := hb.2; omega)
 exact ⟨x, by unfold zq21; simp only [hck, Option.bind_some, g1], by unfold zq58; simp only [hck, Option.bind_some, g2], g3⟩
theorem del_bd (hA : AskF t f) (hL : DelaysP L) (hB : BB B) (hT : ∀ b ∈ B, ∀ e ∈ b, 0 ≤ tix t e) {D : List Int} (hD : DelP t f L B B.length 0 D) {p : Nat} {x : Int} (hx : D[p]? = some x) : 0 ≤ x ∧ x ≤ 5000000 := by
 have hp : p < t.Trips.length := by rw [← hD.1]; exact get_lt hx
 by_cases hc : ∃ (i : Nat) (b : List Int) (k : Nat) (e : Int), B[i]? = some b ∧ b[k]? = some e ∧ (tix t e).toNat = p
 ·obtain ⟨i, b, k, e, h1, h2, h3⟩ := hc
  have := hD.2.1 i b k e h1 h2 (.inl (get_lt h1))
  rw [h3, hx] at this
  cases this
  have hbl := hB.2 b (List.mem_of_getElem? h1)
  have hk := get_lt h2
  have := dlv_bd hA hL (hT b (List.mem_of_getElem? h1)) k hk
  omega
 ·have := hD.2.2 p hp fun i b k e h1 h2 _ h3 => hc ⟨i, b, k, e, h1, h2, h3⟩
  rw [hx] at this; cases this; omega
end
theorem delays_draw {k : Nat} {c : l1Cur} {t : Timetable} (h : Cur k c) (hk : k ≤ 20000000) (hd : DT t) : Tot (zq80 c t) fun r => Cur (k + 1000) r.2 ∧ r.1.length ≤ 31 := by
 have hn := hd.2
 unfold zq80
 refine .call (P := fun o => Cur (k + 4 * t.Trips.length) ⟨o.1, o.2.1, ⟨o.2.2.1⟩⟩ ∧ o.2.2.2.length ≤ t.Trips.length) ?_ fun ⟨v9, v10, v11, v12⟩ ⟨hc1, hl⟩ => ?_
 ·refine .iter (fun q (s : Int × (List UInt8) × Int × Int × (List Delay)) => s.1 = ((t.Trips.length - q : Nat) : Int) ∧ q ≤ t.Trips.length ∧ s.2.2.2.2.length ≤ t.Trips.length - q ∧ Cur (k + 4 * (t.Trips.length - q)) ⟨s.2.1, s.2.2.1, ⟨s.2.2.2.1⟩⟩) (n := t.Trips.length) ⟨by simp, Nat.le_refl _, by simp, h.mono (by omega)⟩ ?_
  rintro q ⟨v, w1, w2, w3, w4⟩ ⟨hv, hq, hl, hcur⟩
  simp only at hv hl hcur
  subst hv
  unfold zq80_L1
  refine .iteP (fun hcc => ?_) (fun hcc => .dn ⟨hcur.mono (by omega), by simp only; omega⟩)
  obtain ⟨x, hx⟩ := get_ex (l := t.Trips) (i := t.Trips.length - q) (by omega)
  refine .call (P := fun o => Cur (k + 4 * (t.Trips.length - q) + 4) ⟨o.1, o.2.1, ⟨o.2.2.1⟩⟩ ∧ o.2.2.2.length ≤ t.Trips.length - q + 1) (.call (t_one 3 hcur (by omega)) fun r hr => .ite (fun _ => .eq (ixs hx) (.call (t_amongw _ (by simp) hr (by omega)) fun r2 ⟨hr2, _⟩ => .chk (by simp; omega) (.ok ⟨hr2.mono (by omega), by simp; omega⟩))) fun _ => .ok ⟨hr.mono (by omega), by dsimp only; omega⟩) fun ⟨v5, v6, v7, v8⟩ ⟨hc5, hl5⟩ => .nx ⟨q - 1, by omega, w64_dn hcc hq (by omega), by omega, ?_, hc5.mono (by omega)⟩
  simp only at hl5 ⊢; omega
 ·simp only at hl hc1
  refine .call (P := fun o => Cur (k + 1000) ⟨o.1, o.2.1, ⟨o.2.2.1⟩⟩ ∧ o.2.2.2.length ≤ 31) (.call (t_one 16 hc1 (by omega)) fun r hr => .ite (fun _ => .call (idOf_ok t hr (by omega)) fun r4 hr4 => .call (t_amongw _ (by simp) hr4 (by omega)) fun r5 ⟨hr5, _⟩ => .chk (by simp; omega) (.ok ⟨hr5.mono (by omega), by simp; omega⟩)) fun _ => .ok ⟨hr.mono (by omega), by dsimp only; omega⟩) fun ⟨v13, v14, v15, v16⟩ ⟨g1, g2⟩ => .ok ⟨g1, g2⟩
theorem place_ex {t : Timetable} {f : Fleet} {B : List (List Int)} (hP : BlocksP t f B) (hT : GoodT t) {p : Nat} {x : Trip} (hx : t.Trips[p]? = some x) : ∃ (i : Nat) (b : List Int) (k : Nat), B[i]? = some b ∧ b[k]? = some x.Id := by
 have hr : ∀ y ∈ B.flatten.map (tix t), 0 ≤ y ∧ y < (t.Trips.length : Int) := fun y hy => by
  obtain ⟨e, he, rfl⟩ := List.mem_map.1 hy
  obtain ⟨b, hb1, hb2⟩ := List.mem_flatten.1 he
  have := tix_at ((hP.1 b hb1).2.1 e hb2); omega
 have hm := pig_mem hP.2.1 hr (by rw [List.length_map]; exact hP.2.2) (get_lt hx)
 obtain ⟨e, he, hpe⟩ := List.mem_map.1 hm
 have hx' := tix_at (t := t) (e := e) (by omega)
 rw [hpe, Int.toNat_natCast, hx] at hx'
 have hid : x.Id = e := by rw [Option.some.inj hx'.1]; exact hx'.2.1
 obtain ⟨b, hb1, hb2⟩ := List.mem_flatten.1 he
 obtain ⟨i, hi⟩ := List.getElem?_of_mem hb1
 obtain ⟨k, hk⟩ := List.getElem?_of_mem hb2
 exact ⟨i, b, k, hi, by rw [hid]; exact hk⟩
structure VS (t : Timetable) (f : Fleet) (B : List (List Int)) (L : List Delay) (D : List Int) : Prop where
 tb : TB t
 ask : AskF t f
 blk : BlocksP t f B
 dl : DelaysP L
 ll : L.length ≤ 1000
 bb : BB B
 eI : zq21 t f B L = some D
 eS : zq58 t f B L = some D
 del : DelP t f L B B.length 0 D
 late : zq14 t f B L = some true
 asked : zq57 t f B L = some true
 valid : zq6 t f B = some true
theorem vs_or {t : Timetable} {f : Fleet} {B : List (List Int)} {L : List Delay} (hb : TB t) (hf : FB f) (hB : BB B) (hL : L.length ≤ 1000) : (zq14 t f B L = some false ∧ zq57 t f B L = some false) ∨ ∃ D, VS t f B L D := by
 obtain ⟨v, g1, g2, g3⟩ := late_both hb hf hB hL
 cases v with
 | false => exact .inl ⟨g1, g2⟩
 | true =>
  obtain ⟨hA, hP, hD⟩ := g3 rfl
  obtain ⟨D, d1, d2, d3⟩ := delays_of hb hA hD hL hB (inj_of hP.2.1) (fun b h => (hP.1 b h).2.1)
  refine .inr ⟨D, hb, hA, hP, hD, hL, hB, d1, d2, d3, g1, g2, ?_⟩
  obtain ⟨w, k1, _, _⟩ := valid_blocks hb hf hB
  unfold zq14 at g1
  rw [k1] at g1 ⊢
  cases w
  ·cases g1
  ·rfl
section
variable {t : Timetable} {f : Fleet} {B : List (List Int)} {L : List Delay} {D : List Int}
theorem VS.inj (S : VS t f B L D) : InjB t B := inj_of S.blk.2.1
theorem VS.tri (S : VS t f B L D) : ∀ b ∈ B, ∀ e ∈ b, 0 ≤ tix t e := fun b h => (S.blk.1 b h).2.1
theorem VS.at_ (S : VS t f B L D) {p : Nat} {x : Trip} (hx : t.Trips[p]? = some x) {i : Nat} {b : List Int} {k : Nat} (hb : B[i]? = some b) (hk : b[k]? = some x.Id) : D[p]? = some (dlv t f L b k) := by
 have := S.del.2.1 i b k x.Id hb hk (.inl (get_lt hb))
 rw [tix_trip S.ask.1 hx, Int.toNat_natCast] at this; exact this
theorem VS.bd (S : VS t f B L D) {p : Nat} {d : Int} (hd : D[p]? = some d) : 0 ≤ d ∧ d ≤ 5000000 := del_bd S.ask S.dl S.bb S.tri S.del hd
end
def stp (t : Timetable) (p : Nat) : Int := match t.Trips[p]? with
 | some x => (match idx t.Network.Lines x.Line with
  | some l => (l.Stops.length : Int)
  | none => 0)
 | none => 0
def totN (t : Timetable) (D : List Int) : Nat → Int
 | 0 => 0
 | k + 1 => totN t D k + D.getD k 0 * stp t k
theorem stp_at {t : Timetable} (hT : GoodT t) {p : Nat} {x : Trip} (hx : t.Trips[p]? = some x) : ∃ l, zq35 t x = some l ∧ zq124 t (p : Int) = some l.Stops ∧ (l.Stops.length : Int) = stp t p ∧ 0 ≤ stp t p ∧ stp t p ≤ 6 := by
 obtain ⟨l, hl, hp, _⟩ := trip_line hT hx
 obtain ⟨⟨h1, h2, h3⟩, h4⟩ := line_runs hp
 have : stp t p = (l.Stops.length : Int) := by unfold stp; rw [hx]; simp only; rw [hl]
 exact ⟨l, lineOf_eq hl, l5Stops_eq hx hl, this.symm, by omega, by omega⟩
theorem mul_bd {d s : Int} (hd : 0 ≤ d ∧ d ≤ 5000000) (hs : 0 ≤ s ∧ s ≤ 6) : 0 ≤ d * s ∧ d * s ≤ 30000000 := ⟨Int.mul_nonneg hd.1 hs.1, by
 have := Int.mul_le_mul hd.2 hs.2 hs.1 (by omega); omega⟩
section
variable {t : Timetable} {f : Fleet} {B : List (List Int)} {L : List Delay} {D : List Int}
theorem totN_bd (hT : GoodT t) (hl : D.length = t.Trips.length) (h : ∀ (p : Nat) d, D[p]? = some d → 0 ≤ d ∧ d ≤ 5000000) : ∀ k, k ≤ D.length → 0 ≤ totN t D k ∧ totN t D k ≤ 30000000 * k
 | 0, _ => by unfold totN; omega
 | k + 1, hk => by
  have ih := totN_bd hT hl h k (by omega)
  obtain ⟨d, hd⟩ := get_ex (l := D) (i := k) (by omega)
  obtain ⟨x, hx⟩ := get_ex (l := t.Trips) (i := k) (by omega)
  obtain ⟨_, _, _, _, s1, s2⟩ := stp_at hT hx
  have := mul_bd (h k d hd) ⟨s1, s2⟩
  unfold totN
  rw [getD0 hd]; omega
theorem totI (hT : GoodT t) (hl : D.length = t.Trips.length) (h : ∀ (p : Nat) d, D[p]? = some d → 0 ≤ d ∧ d ≤ 5000000) : zq38 t D = some (totN t D D.length) := by
 have hn := hT.2.1
 unfold zq38
 refine Tot.val (.call (P := fun v => v = totN t D D.length) ?_ fun v h => .ok h)
 refine .iter (fun m s => ∃ k : Nat, s.2 = (k : Int) ∧ m + k = D.length ∧ s.1 = totN t D k) (n := D.length) ⟨0, rfl, rfl, rfl⟩ ?_
 rintro m ⟨s, v⟩ ⟨k, e1, hm, e2⟩
 simp only at e1 e2
 subst e1 e2
 unfold zq38_L1
 refine .iteP (fun hc => ?_) (fun hc => .dn (by rw [show k = D.length by omega]))
 obtain ⟨d, hd⟩ := get_ex (l := D) (i := k) (by omega)
 obtain ⟨x, hx⟩ := get_ex (l := t.Trips) (i := k) (by omega)
 obtain ⟨l, l1, l2, l3, s1, s2⟩ := stp_at hT hx
 have hmb := mul_bd (h k d hd) ⟨s1, s2⟩
 have htb := totN_bd hT hl h k (by omega)
 refine .eq (ixs hd) (.eq (ixs hx) (.eq l1 (.nx ⟨m - 1, by omega, k + 1, w64_succ (by omega), by omega, ?_⟩)))
 show w64 (totN t D k + w64 (d * (l.Stops.length : Int))) = totN t D k + D.getD k 0 * stp t k
 rw [l3, getD0 hd, w64_id (x := d * stp t k) (by omega), w64_id (by omega)]
end
def kept (C b : List Int) : List Int := b.filter fun e => !decide (e ∈ C)
theorem contains_int (C : List Int) (hC : C.length ≤ 1000) (e : Int) : zq126 C e = some (decide (e ∈ C)) := by
 unfold zq126
 rw [index_int_eq C (by omega)]
 simp only [Option.bind_some]
 refine congrArg some (decide_eq_decide.2 ⟨fun h => ?_, fun h => ?_⟩)
 ·obtain ⟨k, y, _, g2, g3, _⟩ := idx_fix (p := fun z => e == z) (l := C) (by omega)
  have : e = y := by simpa using g3
  subst this
  exact List.mem_of_getElem? g2
 ·by_cases hn : 0 ≤ fixI (fun z => e == z) C
  ·exact hn
  ·have := fixI_neg (p := fun z => e == z) (l := C) (by omega) e h
   simp at this
theorem kept_len (C b : List Int) : (kept C b).length ≤ b.length := List.length_filter_le ..
theorem kept_succ {C b : List Int} {j : Nat} {e : Int} (he : b[j]? = some e) : kept C (b.take (j + 1)) = if e ∈ C then kept C (b.take j) else kept C (b.take j) ++ [e] := by
 unfold kept
 rw [take_succ he, List.filter_append]
 by_cases h : e ∈ C <;> simp [h]
theorem keptI_in {C : List Int} (hC : C.length ≤ 1000) {b : List Int} (hb : b.length ≤ 2000) {X : List (List Int)} {v : Nat} (hX : X[v]? = some []) : iter (zq32_L1 C (v : Int) b) ((0 : Int), X) = some (X.set v (kept C b)) := by
 have hv := get_lt hX
 refine Tot.val (.iter (fun m (s : Int × List (List Int)) => ∃ j : Nat, s.1 = (j : Int) ∧ m + j = b.length ∧ s.2 = X.set v (kept C (b.take j))) (n := b.length) ⟨0, rfl, rfl, ?_⟩ ?_)
 ·show X = X.set v []
  exact (set_same hX).symm
 rintro m ⟨j', Y⟩ ⟨j, e1, hm, e2⟩
 simp only at e1 e2
 subst e1 e2
 unfold zq32_L1
 refine .iteP (fun hc => ?_) (fun hc => .dn (by rw [List.take_of_length_le (by omega)]))
 obtain ⟨e, he⟩ := get_ex (l := b) (i := j) (by omega)
 have hs : (X.set v (kept C (b.take j)))[v]? = some (kept C (b.take j)) := List.getElem?_set_self hv
 have hkl := kept_len C (b.take j)
 have hkl2 : (b.take j).length ≤ j := by rw [List.length_take]; omega
 refine .call (P := fun o => o = X.set v (kept C (b.take (j + 1)))) (.eq (ixs he) (.eq (contains_int C hC e) (.iteN (fun hn => .eq (ixs hs) (.chk (by simp; omega) (.eq (ixs hs) (.ok ?_)))) (fun hy => .ok ?_)))) fun o ho => .nx ⟨m - 1, by omega, j + 1, w64_succ (by omega), by omega, ho⟩
 ·rw [Int.toNat_natCast, List.set_set, kept_succ he, if_neg hn]
 ·rw [kept_succ he, if_pos hy]
theorem keptI {C : List Int} (hC : C.length ≤ 1000) {B : List (List Int)} (hB : BB B) : zq32 B C = some (B.map (kept C)) := by
 have hBl := hB.1
 unfold zq32
 refine Tot.val (.chk (by omega) (.call (P := fun o => o = B.map (kept C)) ?_ fun o ho => .ok ho))
 refine .iter (fun m (s : Int × List (List Int)) => ∃ v : Nat, s.1 = (v : Int) ∧ m + v = B.length ∧ s.2.length = B.length ∧ (∀ (i : Nat) b, i < v → B[i]? = some b → s.2[i]? = some (kept C b)) ∧ ∀ i, v ≤ i → i < B.length → s.2[i]? = some []) (n := B.length) ⟨0, rfl, rfl, by simp, fun i b h => by omega, fun i _ hi => by rw [List.getElem?_replicate]; simp [hi]⟩ ?_
 rintro m ⟨v', X⟩ ⟨v, e1, hm, hl, g1, g2⟩
 simp only at e1 hl g1 g2
 subst e1
 unfold zq32_L2
 refine .iteP (fun hc => ?_) (fun hc => .dn ?_)
 ·obtain ⟨b, hb⟩ := get_ex (l := B) (i := v) (by omega)
  refine .eq (ixs hb) (.eq (keptI_in hC (hB.2 b (List.mem_of_getElem? hb)) (g2 v (Nat.le_refl _) (by omega))) (.nx ⟨m - 1, by omega, v + 1, w64_succ (by omega), by omega, by simp only; rw [List.length_set]; exact hl, fun i c hi hic => ?_, fun i hi hil => ?_⟩))
  ·by_cases hiv : i = v
   ·subst hiv
    rw [hb] at hic; cases hic
    exact List.getElem?_set_self (by omega)
   ·simp only
    rw [List.getElem?_set_ne (by omega)]
    exact g1 i c (by omega) hic
  ·simp only
   rw [List.getElem?_set_ne (by omega)]
   exact g2 i (by omega) hil
 ·have hv : v = B.length := by omega
  refine List.ext_getElem? fun i => ?_
  rw [List.getElem?_map]
  rcases Nat.lt_or_ge i B.length with h | h
  ·obtain ⟨b, hb⟩ := get_ex h
   rw [hb, g1 i b (by omega) hb]; rfl
  ·rw [List.getElem?_eq_none (by omega), List.getElem?_eq_none h]; rfl
theorem keptS {C : List Int} (hC : C.length ≤ 1000) {b : List Int} (hb : b.length ≤ 2000) : zq66 b C = some (kept C b) := by
 unfold zq66
 refine Tot.val (.call (P := fun o => o = kept C b) ?_ fun o ho => .ok ho)
 refine .iter (fun m (s : Int × List Int) => ∃ j : Nat, s.1 = (j : Int) ∧ m + j = b.length ∧ s.2 = kept C (b.take j)) (n := b.length) ⟨0, rfl, rfl, rfl⟩ ?_
 rintro m ⟨j', Y⟩ ⟨j, e1, hm, e2⟩
 simp only at e1 e2
 subst e1 e2
 unfold zq66_L1
 refine .iteP (fun hc => ?_) (fun hc => .dn (by rw [List.take_of_length_le (by omega)]))
 obtain ⟨e, he⟩ := get_ex (l := b) (i := j) (by omega)
 have hkl := kept_len C (b.take j)
 have hkl2 : (b.take j).length ≤ j := by rw [List.length_take]; omega
 refine .call (P := fun o => o = kept C (b.take (j + 1))) (.eq (ixs he) (.eq (l1Has_eq C (by omega) e) (.iteN (fun hn => .eq (ixs he) (.chk (by simp; omega) (.ok ?_))) (fun hy => .ok ?_)))) fun o ho => .nx ⟨m - 1, by omega, j + 1, w64_succ (by omega), by omega, ho⟩
 ·rw [kept_succ he, if_neg hn]
 ·rw [kept_succ he, if_pos hy]
theorem keptAllS {C : List Int} (hC : C.length ≤ 1000) {B : List (List Int)} (hB : BB B) : zq67 B C = some (B.map (kept C)) := by
 have hBl := hB.1
 unfold zq67
 refine Tot.val (.call (P := fun o => o = B.map (kept C)) ?_ fun o ho => .ok ho)
 refine .iter (fun m (s : Int × List (List Int)) => ∃ j : Nat, s.1 = (j : Int) ∧ m + j = B.length ∧ s.2 = (B.take j).map (kept C)) (n := B.length) ⟨0, rfl, rfl, by simp⟩ ?_
 rintro m ⟨j', Y⟩ ⟨j, e1, hm, e2⟩
 simp only at e1 e2
 subst e1 e2
 unfold zq67_L1
 refine .iteP (fun hc => ?_) (fun hc => .dn (by rw [List.take_of_length_le (by omega)]))
 obtain ⟨b, hb⟩ := get_ex (l := B) (i := j) (by omega)
 refine .eq (ixs hb) (.eq (keptS hC (hB.2 b (List.mem_of_getElem? hb))) (.chk (by simp; omega) (.nx ⟨m - 1, by omega, j + 1, w64_succ (by omega), by omega, ?_⟩)))
 simp only
 rw [take_succ hb, List.map_append]; rfl
def CancP (t : Timetable) (C : List Int) : Prop := (∀ e ∈ C, 0 ≤ tix t e) ∧ C.Pairwise (· < ·)
theorem canc_both {t : Timetable} (hb : TB t) (hT : GoodT t) {C : List Int} (hC : C.length ≤ 1000) : ∃ v, zq12 t C = some v ∧ zq68 t C = some v ∧ (v = true ↔ CancP t C) := by
 have H : ∃ x x', iter (zq12_L1 t C) ((0 : Int), (0 : Int)) = some x ∧ iter (zq68_L1 t C) (0 : Int) = some x' ∧ ((x = .ret false ∧ x' = .ret false ∧ ¬ CancP t C) ∨ (x = .go () ∧ x' = .go () ∧ CancP t C)) := by
  refine iter2 (fun m (a : Int × Int) (a' : Int) => ∃ i : Nat, m + i = C.length ∧ a.2 = (i : Int) ∧ a' = (i : Int) ∧ CancP t (C.take i) ∧ (∀ e ∈ C.take i, e ≤ a.1) ∧ (i = 0 → a.1 = 0) ∧ (0 < i → C[i - 1]? = some a.1)) _ ?_ (k := C.length) ⟨0, rfl, rfl, rfl, ⟨by simp, by simp⟩, by simp, fun _ => rfl, fun h => by omega⟩
  rintro m ⟨d, v⟩ v' ⟨i, hm, e1, e2, hP, hle, h0, h1⟩
  simp only at e1 hle h0 h1
  subst e1 e2
  by_cases hi : i < C.length
  ·obtain ⟨x, hx⟩ := get_ex hi
   have hlt : decide ((i : Int) < (C.length : Int)) = true := by simp; omega
   have hS : zq68_L1 t C (i : Int) = (if tix t x < 0 ∨ (0 < i ∧ x ≤ d) then some (.dn (.ret false)) else some (.nx (w64 ((i : Int) + 1)))) := by
    by_cases c1 : tix t x < 0
    ·simp only [zq68_L1, hlt, if_true, idx_nat, hx, Option.bind_some, tripS hb, c1, decide_true, true_or]
    by_cases c3 : 0 < i
    ·have hw : w64 ((i : Int) - 1) = ((i - 1 : Nat) : Int) := by rw [w64_id (by omega)]; omega
     have hp : decide ((0 : Int) < (i : Int)) = true := by simp; omega
     simp only [zq68_L1, hlt, if_true, idx_nat, hx, Option.bind_some, tripS hb, c1, decide_false, Bool.false_eq_true, if_false, hp, hw, h1 c3, c3, false_or, true_and, decide_eq_true_eq]
    ·have hp : decide ((0 : Int) < (i : Int)) = false := by simp; omega
     simp only [zq68_L1, hlt, if_true, idx_nat, hx, Option.bind_some, tripS hb, c1, decide_false, Bool.false_eq_true, if_false, hp, c3, false_or, false_and]
   have hI : zq12_L1 t C (d, (i : Int)) = (if x ≤ d ∨ tix t x < 0 then some (.dn (.ret false)) else some (.nx (x, w64 ((i : Int) + 1)))) := by
    by_cases c3 : x ≤ d
    ·simp only [zq12_L1, hlt, if_true, idx_nat, hx, Option.bind_some, c3, decide_true, true_or]
    by_cases c1 : tix t x < 0
    ·simp only [zq12_L1, hlt, if_true, idx_nat, hx, Option.bind_some, tripI hb, c3, c1, decide_true, decide_false, Bool.false_eq_true, if_false, or_true]
    ·simp only [zq12_L1, hlt, if_true, idx_nat, hx, Option.bind_some, tripI hb, c3, c1, decide_false, Bool.false_eq_true, if_false, or_self]
   rw [hI, hS]
   have hiff : (x ≤ d ∨ tix t x < 0) ↔ (tix t x < 0 ∨ (0 < i ∧ x ≤ d)) := by
    by_cases c1 : tix t x < 0
    ·exact ⟨fun _ => .inl c1, fun _ => .inr c1⟩
    ·have hpos := tix_pos hT (e := x) (by omega)
     constructor
     ·rintro (h | h)
      ·right
       refine ⟨?_, h⟩
       rcases Nat.eq_zero_or_pos i with hz | hz
       ·have := h0 hz; omega
       ·exact hz
      ·exact absurd h c1
     ·rintro (h | h)
      ·exact absurd h c1
      ·exact .inl h.2
   by_cases hc : x ≤ d ∨ tix t x < 0
   ·rw [if_pos hc, if_pos (hiff.1 hc)]
    refine .inr ⟨_, _, rfl, rfl, .inl ⟨rfl, rfl, fun h => ?_⟩⟩
    have hx0 := h.1 x (List.mem_of_getElem? hx)
    have hx1 := tix_pos hT hx0
    rcases hc with hc | hc
    ·rcases Nat.eq_zero_or_pos i with hz | hz
     ·have := h0 hz; omega
     ·have := pwG h.2 (by omega : i - 1 < i) (h1 hz) hx; omega
    ·omega
   ·rw [if_neg hc, if_neg (fun h => hc (hiff.2 h))]
    refine .inl ⟨_, _, m - 1, rfl, rfl, by omega, i + 1, by omega, w64_succ (by omega), w64_succ (by omega), ⟨fun y hy => ?_, ?_⟩, fun y hy => ?_, fun h => by omega, fun _ => hx⟩
    ·rw [take_succ hx] at hy
     rcases List.mem_append.1 hy with hy | hy
     ·exact hP.1 y hy
     ·rw [List.mem_singleton.1 hy]; omega
    ·rw [take_succ hx]
     refine List.pairwise_append.2 ⟨hP.2, by simp, fun a ha c hc' => ?_⟩
     rw [List.mem_singleton.1 hc']
     have := hle a ha; omega
    ·rw [take_succ hx] at hy
     simp only
     rcases List.mem_append.1 hy with hy | hy
     ·have := hle y hy; omega
     ·rw [List.mem_singleton.1 hy]; omega
  ·have hlt : decide ((i : Int) < (C.length : Int)) = false := by simp; omega
   rw [List.take_of_length_le (by omega : C.length ≤ i)] at hP
   refine .inr ⟨_, _, ?_, ?_, .inr ⟨rfl, rfl, hP⟩⟩
   ·simp only [zq12_L1, hlt, Bool.false_eq_true, if_false]
   ·simp only [zq68_L1, hlt, Bool.false_eq_true, if_false]
 obtain ⟨x, x', g1, g2, g3⟩ := H
 unfold zq12 zq68
 rw [g1, g2]
 rcases g3 with ⟨rfl, rfl, h⟩ | ⟨rfl, rfl, h⟩
 ·exact ⟨false, rfl, rfl, fun e => (by cases e), fun e => absurd e h⟩
 ·exact ⟨true, rfl, rfl, fun _ => h, fun _ => rfl⟩
section
variable {t : Timetable} {f : Fleet} {B : List (List Int)} {C : List Int}
noncomputable instance (t : Timetable) (f : Fleet) (b : List Int) : Decidable (ChainE t f b) := Classical.propDecidable _
def PossP (t : Timetable) (f : Fleet) (M : List (List Int)) : Prop := ∀ (i : Nat) b, M[i]? = some b → ChainE t f b
noncomputable instance (t : Timetable) (f : Fleet) (M : List (List Int)) : Decidable (PossP t f M) := Classical.propDecidable _
theorem row_loop {R : Type} (rv : R) {b : List Int} (hb : b.length ≤ 2000) {step : Int → Option (Lp Int (Fl R Unit))}
  (hs : ∀ (j : Nat) a c, b[j]? = some a → b[j + 1]? = some c → step ((j + 1 : Nat) : Int) = if FolE t f a c then some (.nx (w64 (((j + 1 : Nat) : Int) + 1))) else some (.dn (.ret rv))) (he : ∀ j : Nat, b.length ≤ j → step (j : Int) = some (.dn (.go ()))) :
  Tot (iter step (1 : Int)) fun r => (r = .go () ∧ ChainE t f b) ∨ (r = .ret rv ∧ ¬ ChainE t f b) := by
 refine .iter (fun m v => ∃ j : Nat, v = ((j + 1 : Nat) : Int) ∧ m + j = b.length ∧ ∀ (i : Nat) a c, i < j → b[i]? = some a → b[i + 1]? = some c → FolE t f a c) (n := b.length) ⟨0, rfl, rfl, fun i a c h => by omega⟩ ?_
 rintro m v ⟨j, rfl, hm, hP⟩
 by_cases hj : j + 1 < b.length
 ·obtain ⟨a, ha⟩ := get_ex (l := b) (i := j) (by omega)
  obtain ⟨c, hc⟩ := get_ex hj
  rw [hs j a c ha hc]
  by_cases hF : FolE t f a c
  ·rw [if_pos hF]
   refine .nx ⟨m - 1, by omega, j + 1, w64_succ (by omega), by omega, fun i p q hi hp hq => ?_⟩
   by_cases hij : i = j
   ·subst hij; rw [ha] at hp; rw [hc] at hq; cases hp; cases hq; exact hF
   ·exact hP i p q (by omega) hp hq
  ·rw [if_neg hF]
   exact .dn (.inr ⟨rfl, fun h => hF (h j a c ha hc)⟩)
 ·rw [he (j + 1) (by omega)]
  exact .dn (.inl ⟨rfl, fun i p q hp hq => hP i p q (by have := get_lt hq; omega) hp hq⟩)
theorem kept_tri (hT : ∀ b ∈ B, ∀ e ∈ b, 0 ≤ tix t e) : ∀ b ∈ B.map (kept C), ∀ e ∈ b, 0 ≤ tix t e := fun b hb e he => by
 obtain ⟨b0, h0, rfl⟩ := List.mem_map.1 hb
 exact hT b0 h0 e ((List.mem_filter.1 he).1)
theorem kept_bb (hB : BB B) : BB (B.map (kept C)) := ⟨by rw [List.length_map]; exact hB.1, fun b hb => by
 obtain ⟨b0, h0, rfl⟩ := List.mem_map.1 hb
 exact Nat.le_trans (kept_len C b0) (hB.2 b0 h0)⟩
theorem possI (hb : TB t) (h : AskF t f) (hB : BB B) (hC : C.length ≤ 1000) (hT : ∀ b ∈ B, ∀ e ∈ b, 0 ≤ tix t e) : zq28 t f B C = some (decide (PossP t f (B.map (kept C)))) := by
 unfold zq28
 rw [keptI hC hB]
 simp only [Option.bind_some]
 have hT' := kept_tri (C := C) hT
 have hB' := kept_bb (C := C) hB
 generalize B.map (kept C) = M at hT' hB'
 have hM := hB'.1
 refine flb_dec (.iter (fun m v => ∃ i : Nat, v = (i : Int) ∧ m + i = M.length ∧ ∀ (j : Nat) b, j < i → M[j]? = some b → ChainE t f b) (n := M.length) ⟨0, rfl, rfl, fun j b h => by omega⟩ ?_)
 rintro m v ⟨i, rfl, hm, hP⟩
 unfold zq28_L2
 refine .iteP (fun hc => ?_) (fun hc => .dn (.inl ⟨rfl, fun j b hj => hP j b (by have := get_lt hj; omega) hj⟩))
 obtain ⟨b, hbi⟩ := get_ex (l := M) (i := i) (by omega)
 have hbl := hB'.2 b (List.mem_of_getElem? hbi)
 have hTb := hT' b (List.mem_of_getElem? hbi)
 refine .eq (ixs hbi) ?_
 obtain ⟨r, hr, hrr⟩ := row_loop (t := t) (f := f) (.dn (.ret false)) hbl (step := zq28_L1 t f M (i : Int)) (fun j a c ha hc => by
  have hlt : decide (((j + 1 : Nat) : Int) < (b.length : Int)) = true := by have := get_lt hc; simp; omega
  have hw : w64 (((j + 1 : Nat) : Int) - 1) = (j : Int) := by have := get_lt hc; rw [w64_id (by omega)]; omega
  have ga := hTb a (List.mem_of_getElem? ha)
  have gc := hTb c (List.mem_of_getElem? hc)
  have hf := (fol_both h ga gc).1
  by_cases hF : FolE t f a c
  ·simp only [zq28_L1, ixs hbi, Option.bind_some, hlt, if_true, hw, idx_nat, ha, hc, withI hb ga, withI hb gc, hf, hF, decide_true, Bool.not_true, Bool.false_eq_true, if_false]
  ·simp only [zq28_L1, ixs hbi, Option.bind_some, hlt, if_true, hw, idx_nat, ha, hc, withI hb ga, withI hb gc, hf, hF, decide_false, Bool.not_false, if_false]) (fun j hj => by
  have hlt : decide ((j : Int) < (b.length : Int)) = false := by simp; omega
  simp only [zq28_L1, ixs hbi, Option.bind_some, hlt, Bool.false_eq_true, if_false])
 rw [hr]
 rcases hrr with ⟨rfl, hch⟩ | ⟨rfl, hch⟩
 ·refine .nx ⟨m - 1, by omega, i + 1, w64_succ (by omega), by omega, fun j c hj hjc => ?_⟩
  by_cases hji : j = i
  ·subst hji; rw [hbi] at hjc; cases hjc; exact hch
  ·exact hP j c (by omega) hjc
 ·exact .dn (.inr ⟨rfl, fun hA => hch (hA i b hbi)⟩)
theorem follS (hb : TB t) (h : AskF t f) {b : List Int} (hbl : b.length ≤ 2000) (hTb : ∀ e ∈ b, 0 ≤ tix t e) : zq65 t f b = some (decide (ChainE t f b)) := by
 unfold zq65
 refine flb_dec (row_loop (t := t) (f := f) false hbl (fun j a c ha hc => ?_) (fun j hj => ?_))
 ·have hlt : decide (((j + 1 : Nat) : Int) < (b.length : Int)) = true := by have := get_lt hc; simp; omega
  have hw : w64 (((j + 1 : Nat) : Int) - 1) = (j : Int) := by have := get_lt hc; rw [w64_id (by omega)]; omega
  have ga := hTb a (List.mem_of_getElem? ha)
  have gc := hTb c (List.mem_of_getElem? hc)
  have hf := (fol_both h ga gc).2
  by_cases hF : FolE t f a c
  ·simp only [zq65_L1, Option.bind_some, hlt, if_true, hw, idx_nat, ha, hc, tripS hb, hf, hF, decide_true, Bool.not_true, Bool.false_eq_true, if_false]
  ·simp only [zq65_L1, Option.bind_some, hlt, if_true, hw, idx_nat, ha, hc, tripS hb, hf, hF, decide_false, Bool.not_false, if_false]
 ·have hlt : decide ((j : Int) < (b.length : Int)) = false := by simp; omega
  simp only [zq65_L1, hlt, Bool.false_eq_true, if_false]
theorem possS (hb : TB t) (h : AskF t f) (hB : BB B) (hC : C.length ≤ 1000) (hT : ∀ b ∈ B, ∀ e ∈ b, 0 ≤ tix t e) : Ab.flb (iter (zq69_L1 t f B C) (0 : Int)) (fun _ => some true) = some (decide (PossP t f (B.map (kept C)))) := by
 have hM := hB.1
 refine flb_dec (.iter (fun m v => ∃ i : Nat, v = (i : Int) ∧ m + i = B.length ∧ ∀ (j : Nat) b, j < i → B[j]? = some b → ChainE t f (kept C b)) (n := B.length) ⟨0, rfl, rfl, fun j b h => by omega⟩ ?_)
 rintro m v ⟨i, rfl, hm, hP⟩
 have gM : ∀ {j : Nat} {c : List Int}, (B.map (kept C))[j]? = some c → ∃ b, B[j]? = some b ∧ kept C b = c := fun {j c} hj => by
  rw [List.getElem?_map] at hj
  cases hb : B[j]? with
  | none => rw [hb] at hj; cases hj
  | some b => rw [hb] at hj; exact ⟨b, rfl, Option.some.inj hj⟩
 unfold zq69_L1
 refine .iteP (fun hc => ?_) (fun hc => .dn (.inl ⟨rfl, fun j c hj => ?_⟩))
 ·obtain ⟨b, hbi⟩ := get_ex (l := B) (i := i) (by omega)
  have hbm := List.mem_of_getElem? hbi
  have hkl := kept_len C b
  have hbl := hB.2 b hbm
  refine .eq (ixs hbi) (.eq (keptS hC hbl) (.eq (follS hb h (by omega) fun e he => hT b hbm e ((List.mem_filter.1 he).1)) (.iteN (fun hn => .dn (.inr ⟨rfl, fun hA => hn (hA i _ (by rw [List.getElem?_map, hbi]; rfl))⟩)) (fun hp => .nx ⟨m - 1, by omega, i + 1, w64_succ (by omega), by omega, fun j c hj hjc => ?_⟩))))
  by_cases hji : j = i
  ·subst hji; rw [hbi] at hjc; cases hjc; exact hp
  ·exact hP j c (by omega) hjc
 ·obtain ⟨b, hb, rfl⟩ := gM hj
  exact hP j b (by have := get_lt hb; omega) hb
theorem choice_both (hb : TB t) (hf : FB f) (hB : BB B) (hC : C.length ≤ 1000) {L : List Delay} (hL : L.length ≤ 1000) : ∃ v, zq5 t f B C = some v ∧
  ((v = false ∧ zq61 t f B L C = some false) ∨ (v = true ∧ AskF t f ∧ BlocksP t f B ∧ CancP t C ∧ PossP t f (B.map (kept C)) ∧ ∃ w, zq13 t L = some w ∧ zq61 t f B L C = some w ∧ (w = true → DelaysP L))) := by
 obtain ⟨v, g1, g2, g3⟩ := valid_blocks hb hf hB
 unfold zq5 zq61 zq57
 rw [g1, g2]
 cases v with
 | false => exact ⟨false, rfl, .inl ⟨rfl, rfl⟩⟩
 | true =>
  obtain ⟨hA, hP⟩ := g3 rfl
  have hT := fun b h => (hP.1 b h).2.1
  obtain ⟨w, k1, k2, k3⟩ := delays_both hb hA.1 hL
  obtain ⟨c, c1, c2, c3⟩ := canc_both hb hA.1 hC
  unfold zq69
  rw [c1, c2, possI hb hA hB hC hT, possS hb hA hB hC hT, k1, k2]
  cases c with
  | false => exact ⟨false, rfl, .inl ⟨rfl, by cases w <;> rfl⟩⟩
  | true =>
   by_cases hp : PossP t f (B.map (kept C))
   ·refine ⟨true, by simp [hp], .inr ⟨rfl, hA, hP, c3.1 rfl, hp, w, rfl, ?_, k3⟩⟩
    cases w <;> simp [hp]
   ·refine ⟨false, by simp [hp], .inl ⟨rfl, ?_⟩⟩
    cases w <;> simp [hp]
end
def NegP (t : Timetable) (C D X : List Int) : Prop := X.length = D.length ∧ ∀ (p : Nat) x d, t.Trips[p]? = some x → D[p]? = some d → X[p]? = some (if x.Id ∈ C then -1 else d)
section
variable {t : Timetable} {f : Fleet} {B : List (List Int)} {C D : List Int} {L : List Delay}
theorem neg_ext (hl : D.length = t.Trips.length) {X X' : List Int} (h : NegP t C D X) (h' : NegP t C D X') : X = X' := by
 refine List.ext_getElem? fun p => ?_
 rcases Nat.lt_or_ge p D.length with hp | hp
 ·obtain ⟨d, hd⟩ := get_ex hp
  obtain ⟨x, hx⟩ := get_ex (l := t.Trips) (i := p) (by omega)
  rw [h.2 p x d hx hd, h'.2 p x d hx hd]
 ·rw [List.getElem?_eq_none (by rw [h.1]; exact hp), List.getElem?_eq_none (by rw [h'.1]; exact hp)]
theorem negI (hb : TB t) (hT : GoodT t) (hC : C.length ≤ 1000) (hc : ∀ e ∈ C, 0 ≤ tix t e) (hl : D.length = t.Trips.length) : Tot (iter (zq19_L1 t C) ((0 : Int), D)) fun X => NegP t C D X := by
 refine .iter (fun m (s : Int × List Int) => ∃ j : Nat, s.1 = (j : Int) ∧ m + j = C.length ∧ NegP t (C.take j) D s.2) (n := C.length) ⟨0, rfl, rfl, rfl, fun p x d hx hd => by simp [hd]⟩ ?_
 rintro m ⟨v, X⟩ ⟨j, e1, hm, hN⟩
 simp only at e1 hN
 subst e1
 unfold zq19_L1
 refine .iteP (fun h => ?_) (fun h => .dn (by rw [List.take_of_length_le (by omega)] at hN; exact hN))
 obtain ⟨e, he⟩ := get_ex (l := C) (i := j) (by omega)
 have hte := hc e (List.mem_of_getElem? he)
 have hta := tix_at hte
 obtain ⟨y, hy⟩ := get_ex (l := X) (i := (tix t e).toNat) (by rw [hN.1, hl]; exact hta.2.2.2)
 have hyi : idx X (tix t e) = some y := by rw [← hta.2.2.1]; exact ixs hy
 refine .eq (ixs he) (.eq (tripI hb e) (.eq hyi (.nx ⟨m - 1, by omega, j + 1, w64_succ (by omega), by omega, by simp only; rw [List.length_set]; exact hN.1, fun p x d hx hd => ?_⟩)))
 simp only
 rw [take_succ he]
 have hxi := tix_trip hT hx
 by_cases hp : (tix t e).toNat = p
 ·subst hp
  rw [hta.1] at hx; cases hx
  rw [List.getElem?_set_self (by rw [hN.1]; exact get_lt hd), hta.2.1]
  simp
 ·rw [List.getElem?_set_ne hp, hN.2 p x d hx hd]
  have : x.Id ≠ e := fun h => by rw [h] at hxi; omega
  simp [this]
theorem negS (hC : C.length ≤ 1000) (hn : t.Trips.length ≤ 1000) (hl : D.length = t.Trips.length) : Tot (iter (zq64_L1 t C) ((0 : Int), D)) fun X => NegP t C D X := by
 refine .iter (fun m (s : Int × List Int) => ∃ j : Nat, s.1 = (j : Int) ∧ m + j = D.length ∧ s.2.length = D.length ∧ (∀ (p : Nat) x d, p < j → t.Trips[p]? = some x → D[p]? = some d → s.2[p]? = some (if x.Id ∈ C then -1 else d)) ∧ ∀ p, j ≤ p → s.2[p]? = D[p]?) (n := D.length) ⟨0, rfl, rfl, rfl, fun p x d h => by omega, fun p _ => rfl⟩ ?_
 rintro m ⟨v, X⟩ ⟨j, e1, hm, g0, g1, g2⟩
 simp only at e1 g0 g1 g2
 subst e1
 unfold zq64_L1
 refine .iteP (fun h => ?_) (fun h => .dn ⟨g0, fun p x d hx hd => g1 p x d (by have := get_lt hd; omega) hx hd⟩)
 obtain ⟨x, hx⟩ := get_ex (l := t.Trips) (i := j) (by omega)
 obtain ⟨d, hd⟩ := get_ex (l := D) (i := j) (by omega)
 have hy : X[j]? = some d := by rw [g2 j (Nat.le_refl _)]; exact hd
 refine .call (P := fun o => o.length = D.length ∧ (∀ (p : Nat) x d, p < j + 1 → t.Trips[p]? = some x → D[p]? = some d → o[p]? = some (if x.Id ∈ C then -1 else d)) ∧ ∀ p, j + 1 ≤ p → o[p]? = D[p]?) (.eq (ixs hx) (.eq (l1Has_eq C (by omega) x.Id) (.iteP (fun hm' => .eq (ixs hy) (.ok ⟨by rw [List.length_set]; exact g0, fun p x' d' hp hx' hd' => ?_, fun p hp => ?_⟩)) (fun hm' => .ok ⟨g0, fun p x' d' hp hx' hd' => ?_, fun p hp => g2 p (by omega)⟩)))) fun o ⟨k1, k2, k3⟩ => .nx ⟨m - 1, by omega, j + 1, w64_succ (by omega), by omega, k1, k2, k3⟩
 ·rw [Int.toNat_natCast]
  by_cases hpj : p = j
  ·subst hpj
   rw [hx] at hx'; cases hx'
   rw [List.getElem?_set_self (by omega), if_pos hm']
  ·rw [List.getElem?_set_ne (by omega)]
   exact g1 p x' d' (by omega) hx' hd'
 ·rw [Int.toNat_natCast, List.getElem?_set_ne (by omega)]
  exact g2 p (by omega)
 ·by_cases hpj : p = j
  ·subst hpj
   rw [hx] at hx'; cases hx'
   rw [hd] at hd'; cases hd'
   rw [hy, if_neg hm']
  ·exact g1 p x' d' (by omega) hx' hd'
theorem kept_flat (C : List Int) (B : List (List Int)) : (B.map (kept C)).flatten = kept C B.flatten := by
 unfold kept
 rw [List.filter_flatten]
theorem kept_inj (hP : BlocksP t f B) : InjB t (B.map (kept C)) := by
 refine inj_of ?_
 rw [kept_flat]
 exact List.Nodup.sublist (List.Sublist.map _ List.filter_sublist) hP.2.1
theorem choice_delays (hb : TB t) (hA : AskF t f) (hP : BlocksP t f B) (hB : BB B) (hC : C.length ≤ 1000) (hc : CancP t C) (hL : DelaysP L) (hLl : L.length ≤ 1000) :
  ∃ D X, D.length = t.Trips.length ∧ (∀ (p : Nat) d, D[p]? = some d → 0 ≤ d ∧ d ≤ 5000000) ∧ DelP t f L (B.map (kept C)) (B.map (kept C)).length 0 D ∧ NegP t C D X ∧ zq19 t f B L C = some X ∧ zq64 t f B L C = some X := by
 have hT := fun b h => (hP.1 b h).2.1
 have hT' := kept_tri (C := C) hT
 have hB' := kept_bb (C := C) hB
 obtain ⟨D, d1, d2, d3⟩ := delays_of hb hA hL hLl hB' (kept_inj (C := C) hP) hT'
 have hn := hA.1.2.1
 obtain ⟨X, x1, x2⟩ := negI hb hA.1 hC hc.1 d3.1
 obtain ⟨X', y1, y2⟩ := negS (C := C) (t := t) hC (by omega) d3.1
 have := neg_ext d3.1 x2 y2
 subst this
 refine ⟨D, X, d3.1, fun p d hd => del_bd hA hL hB' hT' d3 hd, d3, x2, ?_, ?_⟩
 ·unfold zq19
  simp only [keptI hC hB, Option.bind_some, d1, x1]
 ·unfold zq64
  simp only [keptAllS hC hB, Option.bind_some, d2, y1]
theorem sub_len : ∀ {l m : List Int}, l.Nodup → (∀ x ∈ l, x ∈ m) → l.length ≤ m.length
 | [], m, _, _ => by simp
 | a :: l, m, hd, h => by
  have ha := h a (List.mem_cons_self ..)
  have h1 := List.nodup_cons.1 hd
  have := sub_len (l := l) (m := m.erase a) h1.2 (fun x hx => (List.mem_erase_of_ne (fun e => h1.1 (by rw [← e]; exact hx))).2 (h x (List.mem_cons_of_mem _ hx)))
  rw [List.length_erase_of_mem ha] at this
  have := List.length_pos_of_mem ha
  simp only [List.length_cons]; omega
end
theorem draw_choice {k : Nat} {c : l1Cur} {t : Timetable} (h : Cur k c) (hk : k ≤ 20000000) (hd : DT t) : Tot (zq79 c t) fun r => Cur (k + 1000) r.2 ∧ r.1.length ≤ 31 := by
 have hn := hd.2
 unfold zq79
 refine .call (P := fun o => Cur (k + 4 * t.Trips.length) ⟨o.1, o.2.1, ⟨o.2.2.1⟩⟩ ∧ o.2.2.2.length ≤ t.Trips.length) ?_ fun ⟨v9, v10, v11, v12⟩ ⟨hc1, hl⟩ => ?_
 ·refine .iter (fun q (s : Int × (List UInt8) × Int × Int × (List Int)) => s.1 = ((t.Trips.length - q : Nat) : Int) ∧ q ≤ t.Trips.length ∧ s.2.2.2.2.length ≤ t.Trips.length - q ∧ Cur (k + 4 * (t.Trips.length - q)) ⟨s.2.1, s.2.2.1, ⟨s.2.2.2.1⟩⟩) (n := t.Trips.length) ⟨by simp, Nat.le_refl _, by simp, h.mono (by omega)⟩ ?_
  rintro q ⟨v, w1, w2, w3, w4⟩ ⟨hv, hq, hl, hcur⟩
  simp only at hv hl hcur
  subst hv
  unfold zq79_L1
  refine .iteP (fun hcc => ?_) (fun hcc => .dn ⟨hcur.mono (by omega), by simp only; omega⟩)
  obtain ⟨x, hx⟩ := get_ex (l := t.Trips) (i := t.Trips.length - q) (by omega)
  refine .call (P := fun o => Cur (k + 4 * (t.Trips.length - q) + 4) ⟨o.1, o.2.1, ⟨o.2.2.1⟩⟩ ∧ o.2.2.2.length ≤ t.Trips.length - q + 1) (.call (t_one 4 hcur (by omega)) fun r hr => .ite (fun _ => .eq (ixs hx) (.chk (by simp; omega) (.ok ⟨hr.mono (by omega), by simp; omega⟩))) fun _ => .ok ⟨hr.mono (by omega), by dsimp only; omega⟩) fun ⟨v5, v6, v7, v8⟩ ⟨hc5, hl5⟩ => .nx ⟨q - 1, by omega, w64_dn hcc hq (by omega), by omega, ?_, hc5.mono (by omega)⟩
  simp only at hl5 ⊢; omega
 ·simp only at hl hc1
  refine .call (P := fun o => Cur (k + 1000) ⟨o.1, o.2.1, ⟨o.2.2.1⟩⟩ ∧ o.2.2.2.length ≤ 31) (.call (t_one 16 hc1 (by omega)) fun r hr => .ite (fun _ => .call (idOf_ok t hr (by omega)) fun r4 hr4 => .chk (by simp; omega) (.ok ⟨hr4.mono (by omega), by simp; omega⟩)) fun _ => .ok ⟨hr.mono (by omega), by dsimp only; omega⟩) fun ⟨v13, v14, v15, v16⟩ ⟨g1, g2⟩ => .ok ⟨g1, g2⟩
def wt (e : Int) : Int := ((2 ^ (1000 - e).toNat : Nat) : Int)
def W (l : List Int) : Int := (l.map wt).sum
theorem wt_pos (e : Int) : 0 < wt e := Int.ofNat_lt.2 (Nat.two_pow_pos _)
theorem wt_lt {e a : Int} (h : e < a) (ha : a ≤ 999) : 2 * wt a ≤ wt e := by
 unfold wt
 have h1 : (1000 - a).toNat + 1 ≤ (1000 - e).toNat := by omega
 have h2 := Nat.pow_le_pow_right (n := 2) (by omega) h1
 rw [Nat.pow_succ] at h2
 omega
theorem W_cons (a : Int) (l : List Int) : W (a :: l) = wt a + W l := by unfold W; simp
theorem W_append (a b : List Int) : W (a ++ b) = W a + W b := by unfold W; simp
theorem W_nonneg (l : List Int) : 0 ≤ W l := sum_nonneg fun x hx => by
 obtain ⟨e, _, rfl⟩ := List.mem_map.1 hx
 have := wt_pos e; omega
theorem W_lt : ∀ {l : List Int} {e : Int}, l.Pairwise (· < ·) → (∀ x ∈ l, e < x ∧ x ≤ 999) → W l < wt e
 | [], e, _, _ => by have := wt_pos e; unfold W; simpa using this
 | a :: l, e, hp, h => by
  have h1 := List.pairwise_cons.1 hp
  have h2 := h a (List.mem_cons_self ..)
  have := W_lt (l := l) (e := a) h1.2 fun x hx => ⟨h1.1 x hx, (h x (List.mem_cons_of_mem _ hx)).2⟩
  have := wt_lt h2.1 h2.2
  rw [W_cons]; omega
theorem W_inj : ∀ {A B : List Int}, A.Pairwise (· < ·) → B.Pairwise (· < ·) → (∀ x ∈ A, x ≤ 999) → (∀ x ∈ B, x ≤ 999) → W A = W B → A = B
 | [], [], _, _, _, _, _ => rfl
 | [], b :: B, _, _, _, _, h => by
  have h1 := wt_pos b
  have h2 := W_nonneg B
  rw [W_cons] at h
  have h3 : W [] = 0 := rfl
  omega
 | a :: A, [], _, _, _, _, h => by
  have h1 := wt_pos a
  have h2 := W_nonneg A
  rw [W_cons] at h
  have h3 : W [] = 0 := rfl
  omega
 | a :: A, b :: B, hA, hB, gA, gB, h => by
  have pA := List.pairwise_cons.1 hA
  have pB := List.pairwise_cons.1 hB
  rcases Int.lt_trichotomy a b with hab | hab | hab
  ·have h1 : W (b :: B) < wt a := W_lt hB fun x hx => by
    refine ⟨?_, gB x hx⟩
    rcases List.mem_cons.1 hx with rfl | hx
    ·exact hab
    ·have := pB.1 x hx; omega
   have h2 := W_nonneg A
   rw [W_cons] at h; omega
  ·subst hab
   rw [W_cons, W_cons] at h
   rw [W_inj pA.2 pB.2 (fun x hx => gA x (List.mem_cons_of_mem _ hx)) (fun x hx => gB x (List.mem_cons_of_mem _ hx)) (by omega)]
  ·have h1 : W (a :: A) < wt b := W_lt hA fun x hx => by
    refine ⟨?_, gA x hx⟩
    rcases List.mem_cons.1 hx with rfl | hx
    ·exact hab
    ·have := pA.1 x hx; omega
   have h2 := W_nonneg B
   have h3 := W_cons b B
   omega
theorem W_diff {A B : List Int} (hA : A.Pairwise (· < ·)) (hB : B.Pairwise (· < ·)) (gB : ∀ x ∈ B, x ≤ 999) {j : Nat} {a b : Int} (ht : A.take j = B.take j) (ha : A[j]? = some a) (hb : B[j]? = some b) (hab : a < b) : W B < W A := by
 have eA : A = A.take j ++ a :: A.drop (j + 1) := by
  obtain ⟨h1, h2⟩ := List.getElem?_eq_some_iff.1 ha
  rw [← h2, ← List.drop_eq_getElem_cons h1, List.take_append_drop]
 have eB : B = B.take j ++ b :: B.drop (j + 1) := by
  obtain ⟨h1, h2⟩ := List.getElem?_eq_some_iff.1 hb
  rw [← h2, ← List.drop_eq_getElem_cons h1, List.take_append_drop]
 have hB2 : (b :: B.drop (j + 1)).Pairwise (· < ·) := by
  rw [eB] at hB
  exact (List.pairwise_append.1 hB).2.1
 have gB2 : ∀ x ∈ b :: B.drop (j + 1), a < x ∧ x ≤ 999 := fun x hx => by
  refine ⟨?_, gB x (by rw [eB]; exact List.mem_append_right _ hx)⟩
  rcases List.mem_cons.1 hx with rfl | hx
  ·exact hab
  ·have := (List.pairwise_cons.1 hB2).1 x hx; omega
 have h1 := W_lt hB2 gB2
 have h2 := W_nonneg (A.drop (j + 1))
 rw [eA, eB, W_append, W_append, ht, W_cons a]
 omega
theorem sorted_ext : ∀ {A B : List Int}, A.Pairwise (· < ·) → B.Pairwise (· < ·) → (∀ e, e ∈ A ↔ e ∈ B) → A = B
 | [], [], _, _, _ => rfl
 | [], b :: B, _, _, h => by have := (h b).2 (List.mem_cons_self ..); simp at this
 | a :: A, [], _, _, h => by have := (h a).1 (List.mem_cons_self ..); simp at this
 | a :: A, b :: B, hA, hB, h => by
  have pA := List.pairwise_cons.1 hA
  have pB := List.pairwise_cons.1 hB
  have hab : a = b := by
   rcases List.mem_cons.1 ((h a).1 (List.mem_cons_self ..)) with h1 | h1
   ·exact h1
   ·rcases List.mem_cons.1 ((h b).2 (List.mem_cons_self ..)) with h2 | h2
    ·exact h2.symm
    ·have := pB.1 a h1
     have := pA.1 b h2
     omega
  subst hab
  rw [sorted_ext pA.2 pB.2 fun e => ⟨fun he => ?_, fun he => ?_⟩]
  ·rcases List.mem_cons.1 ((h e).1 (List.mem_cons_of_mem _ he)) with h1 | h1
   ·have := pA.1 e he; omega
   ·exact h1
  ·rcases List.mem_cons.1 ((h e).2 (List.mem_cons_of_mem _ he)) with h1 | h1
   ·have := pB.1 e he; omega
   ·exact h1
def le3 (a b : Int × Int × Int) : Prop := a.1 < b.1 ∨ (a.1 = b.1 ∧ (a.2.1 < b.2.1 ∨ (a.2.1 = b.2.1 ∧ a.2.2 ≤ b.2.2)))
def add3 (a b : Int × Int × Int) : Int × Int × Int := (a.1 + b.1, a.2.1 + b.2.1, a.2.2 + b.2.2)
theorem le3_refl (a : Int × Int × Int) : le3 a a := .inr ⟨rfl, .inr ⟨rfl, Int.le_refl _⟩⟩
theorem le3_trans {a b c : Int × Int × Int} (h : le3 a b) (h' : le3 b c) : le3 a c := by unfold le3 at *; omega
theorem le3_add {a b c d : Int × Int × Int} (h : le3 a b) (h' : le3 c d) : le3 (add3 a c) (add3 b d) := by unfold le3 add3 at *; simp only; omega
theorem le3_anti {a b : Int × Int × Int} (h : le3 a b) (h' : le3 b a) : a.1 = b.1 ∧ a.2.1 = b.2.1 ∧ a.2.2 = b.2.2 := by unfold le3 at *; omega
theorem le3_total {a b : Int × Int × Int} (h : ¬ le3 a b) : le3 b a := by unfold le3 at *; omega
theorem perm_sum {l m : List Int} (h : l.Perm m) : l.sum = m.sum := by
 induction h with
 | nil => rfl
 | cons a _ ih => simp [ih]
 | swap a b l => simp only [List.sum_cons]; omega
 | trans _ _ h1 h2 => rw [h1, h2]
def mkB (p : Nat → Bool) : Nat → Nat
 | 0 => 0
 | k + 1 => (if p k then 2 ^ k else 0) + mkB p k
theorem mkB_lt (p : Nat → Bool) : ∀ k, mkB p k < 2 ^ k
 | 0 => by simp [mkB]
 | k + 1 => by
  have := mkB_lt p k
  unfold mkB
  rw [Nat.pow_succ]
  split <;> omega
theorem mkB_bit (p : Nat → Bool) : ∀ k i, i < k → (mkB p k).testBit i = p i
 | 0, i, h => by omega
 | k + 1, i, h => by
  have hl := mkB_lt p k
  unfold mkB
  by_cases hik : i = k
  ·subst hik
   cases hp : p i
   ·simp only [Bool.false_eq_true, if_false, Nat.zero_add]
    exact Nat.testBit_lt_two_pow hl
   ·simp only [if_true]
    rw [Nat.testBit_two_pow_add_eq, Nat.testBit_lt_two_pow hl]; rfl
  ·have ih := mkB_bit p k i (by omega)
   cases hp : p k
   ·simp only [Bool.false_eq_true, if_false, Nat.zero_add]; exact ih
   ·simp only [if_true]
    rw [Nat.testBit_two_pow_add_gt (by omega)]; exact ih
theorem ofI64 {x : Nat} (hx : x < 4096) : (BitVec.ofInt (IntKind.i64).bits (x : Int)).toNat = x := by
 show (BitVec.ofInt 64 (x : Int)).toNat = x
 rw [BitVec.toNat_ofInt]; omega
theorem bitR {z : Nat} (hz : z < 4096) {v : Nat} (hv : v ≤ 63) : IntKind.i64.wrap ((BitVec.ofInt (IntKind.i64).bits ((z : Int).fdiv (2 ^ (min ((v : Nat) : Int).toNat (IntKind.i64).bits))) &&& BitVec.ofInt (IntKind.i64).bits 1).toNat : Int) = if z.testBit v then 1 else 0 := by
 have e : min ((v : Nat) : Int).toNat (IntKind.i64).bits = v := by show min ((v : Nat) : Int).toNat 64 = _; omega
 have e2 : (2 : Int) ^ v = ((2 ^ v : Nat) : Int) := by rw [Int.natCast_pow]; rfl
 have e3 : (z : Int).fdiv ((2 ^ v : Nat) : Int) = ((z / 2 ^ v : Nat) : Int) := by
  rw [Int.fdiv_eq_ediv_of_nonneg _ (Int.natCast_nonneg _)]; rfl
 have h1 : z / 2 ^ v < 4096 := Nat.lt_of_le_of_lt (Nat.div_le_self _ _) hz
 have e4 : (BitVec.ofInt (IntKind.i64).bits 1).toNat = 1 := ofI64 (x := 1) (by omega)
 rw [e, e2, e3, BitVec.toNat_and, ofI64 h1, e4, Nat.and_one_is_mod, Nat.testBit_eq_decide_div_mod_eq]
 have h2 : z / 2 ^ v % 2 = 0 ∨ z / 2 ^ v % 2 = 1 := by omega
 rcases h2 with h2 | h2
 ·rw [h2]; rfl
 ·rw [h2]; rfl
theorem u64_nat {v : Nat} (hv : v ≤ 1000000) : IntKind.u64.wrap (v : Int) = (v : Int) := Int.emod_eq_of_lt (by omega) (by show (v : Int) < (18446744073709551616 : Int); omega)
theorem pow12 {n : Nat} (h : n ≤ 12) : w64 (1 * 2 ^ (min ((n : Nat) : Int).toNat (IntKind.i64).bits)) = ((2 ^ n : Nat) : Int) ∧ 2 ^ n ≤ 4096 := by
 have e : min ((n : Nat) : Int).toNat (IntKind.i64).bits = n := by show min ((n : Nat) : Int).toNat 64 = _; omega
 have h2 : 2 ^ n ≤ 2 ^ 12 := Nat.pow_le_pow_right (by omega) h
 have e2 : (2 : Int) ^ n = ((2 ^ n : Nat) : Int) := by rw [Int.natCast_pow]; rfl
 rw [e, Int.one_mul, e2]
 generalize 2 ^ n = q at h2 ⊢
 exact ⟨w64_id (by omega), h2⟩
theorem put_ok {l : List Int} (h : l.Pairwise (· < ·)) (hl : l.length ≤ 10000) (n : Int) : Tot (zq106 l n) fun r => r.Pairwise (· < ·) ∧ ∀ x, x ∈ r ↔ x ∈ l ∨ x = n := by
 unfold zq106
 refine .call (P := fun v => ∃ k : Nat, v = (k : Int) ∧ k ≤ l.length ∧ (∀ (i : Nat) x, i < k → l[i]? = some x → x < n) ∧ ∀ x, l[k]? = some x → n ≤ x) ?_ fun v ⟨k, hv, hk, hlo, hhi⟩ => ?_
 ·refine Tot.iter (fun m v => ∃ k : Nat, v = (k : Int) ∧ m + k = l.length ∧ ∀ (i : Nat) x, i < k → l[i]? = some x → x < n) (n := l.length) ⟨0, rfl, by omega, fun i x h => by omega⟩ ?_
  rintro m v ⟨k, rfl, hm, hlo⟩
  unfold zq106_L1
  refine .call (P := fun b => (b = true → k < l.length ∧ ∀ x, l[k]? = some x → x < n) ∧ (b = false → ∀ x, l[k]? = some x → n ≤ x)) (.iteP (fun hc => ?_) (fun hc => .ok ⟨fun h => (by cases h), fun _ x hx => by have := get_lt hx; omega⟩)) fun b hb => .ite (fun ht => ?_) (fun hf => .dn ⟨k, rfl, by omega, hlo, hb.2 hf⟩)
  ·obtain ⟨x, hx⟩ := get_ex (l := l) (i := k) (by omega)
   refine .eq (ixs hx) (.ok ⟨fun h => ⟨by omega, fun y hy => ?_⟩, fun h y hy => ?_⟩)
   ·rw [hx] at hy; cases hy; exact of_decide_eq_true h
   ·rw [hx] at hy; cases hy; have := of_decide_eq_false h; omega
  ·obtain ⟨q1, q2⟩ := hb.1 ht
   refine .nx ⟨m - 1, by omega, k + 1, w64_succ (by omega), by omega, fun i x hi hx => ?_⟩
   by_cases hik : i = k
   ·subst hik; exact q2 x hx
   ·exact hlo i x (by omega) hx
 ·subst hv
  refine .call (P := fun b => (b = true → n ∈ l) ∧ (b = false → ∀ x, l[k]? = some x → n < x)) (.iteP (fun hc => ?_) (fun hc => .ok ⟨fun h => (by cases h), fun _ x hx => by have := get_lt hx; omega⟩)) fun b hb => .ite (fun ht => ?_) (fun hf => ?_)
  ·obtain ⟨x, hx⟩ := get_ex (l := l) (i := k) (by omega)
   refine .eq (ixs hx) (.ok ⟨fun h => ?_, fun h y hy => ?_⟩)
   ·have := eq_of_beq h; subst this; exact List.mem_of_getElem? hx
   ·rw [hx] at hy; cases hy; have h1 := ne_of_beq_false h; have := hhi x hx; omega
  ·have hm := hb.1 ht
   refine .ok ⟨h, fun x => ⟨.inl, fun hx => ?_⟩⟩
   rcases hx with hx | rfl
   ·exact hx
   ·exact hm
  ·have hgt := hb.2 hf
   rw [Int.toNat_natCast]
   have hlt : (l.take k).length = k := by rw [List.length_take]; omega
   refine .chk (by omega) (.chk (by simp; omega) (.chk (by simp; omega) (.chk (by omega) (.chk (by simp; omega) (.ok ?_)))))
   have e : [] ++ (l.take k).drop (0 : Int).toNat = l.take k := rfl
   rw [e]
   have ha1 : ∀ x ∈ l.take k, x < n := fun x hx => by
    obtain ⟨i, hi⟩ := List.getElem?_of_mem hx
    have hik : i < k := by have := get_lt hi; omega
    rw [List.getElem?_take_of_lt hik] at hi
    exact hlo i x hik hi
   have ha2 : ∀ x ∈ l.drop k, n < x := fun x hx => by
    obtain ⟨i, hi⟩ := List.getElem?_of_mem hx
    rw [List.getElem?_drop] at hi
    obtain ⟨y, hy⟩ := get_ex (l := l) (i := k) (by have := get_lt hi; omega)
    have h1 := hgt y hy
    by_cases hi0 : i = 0
    ·subst hi0; rw [Nat.add_zero, hy] at hi; cases hi; exact h1
    ·have := pwG h (by omega : k < k + i) hy hi; omega
   refine ⟨?_, fun x => ?_⟩
   ·rw [List.append_assoc, List.pairwise_append]
    refine ⟨h.sublist (List.take_sublist _ _), ?_, fun x hx y hy => ?_⟩
    ·rw [List.singleton_append, List.pairwise_cons]
     exact ⟨ha2, h.sublist (List.drop_sublist _ _)⟩
    ·have := ha1 x hx
     rcases List.mem_append.1 hy with hy | hy
     ·have : y = n := by simpa using hy
      omega
     ·have := ha2 y hy; omega
   ·rw [List.mem_append, List.mem_append, List.mem_singleton]
    have hsp : x ∈ l ↔ x ∈ l.take k ∨ x ∈ l.drop k := by rw [← List.mem_append, List.take_append_drop]
    rw [hsp]
    constructor
    ·rintro ((h | h) | h)
     ·exact .inl (.inl h)
     ·exact .inr h
     ·exact .inl (.inr h)
    ·rintro ((h | h) | h)
     ·exact .inl (.inl h)
     ·exact .inr h
     ·exact .inl (.inr h)
theorem cmpI {A B : List Int} (hA : A.Pairwise (· < ·)) (hB : B.Pairwise (· < ·)) (gA : ∀ x ∈ A, x ≤ 999) (gB : ∀ x ∈ B, x ≤ 999) (lA : A.length ≤ 1000) : ∃ c, zq125 A B = some c ∧ (A.length = B.length → (c < 0 ↔ W B < W A)) := by
 unfold zq125
 have H : Tot (iter (zq125_L1 A B) (0 : Int)) fun r => (∃ c, r = .ret c ∧ (A.length = B.length → (c < 0 ↔ W B < W A))) ∨ (r = .go () ∧ (A.length = B.length → A = B)) := by
  refine .iter (fun m v => ∃ j : Nat, v = (j : Int) ∧ m + j = A.length ∧ A.take j = B.take j) (n := A.length) ⟨0, rfl, rfl, by simp⟩ ?_
  rintro m v ⟨j, rfl, hm, ht⟩
  unfold zq125_L1
  refine .iteP (fun hc => ?_) (fun hc => .dn (.inr ⟨rfl, fun hl => by rw [List.take_of_length_le (by omega), List.take_of_length_le (by omega)] at ht; exact ht⟩))
  obtain ⟨a, ha⟩ := get_ex (l := A) (i := j) (by omega)
  refine .eq (ixs ha) (.iteP (fun h => .dn (.inl ⟨1, rfl, fun hl => by omega⟩)) (fun h => ?_))
  obtain ⟨b, hb⟩ := get_ex (l := B) (i := j) (by omega)
  refine .eq (ixs hb) (.eq (compare_int a b) ?_)
  by_cases h1 : a < b
  ·have := W_diff hA hB gB ht ha hb h1
   simp only [h1, if_true]
   exact .dn (.inl ⟨-1, rfl, fun _ => ⟨fun _ => this, fun _ => by omega⟩⟩)
  ·by_cases h2 : b < a
   ·have := W_diff hB hA gA ht.symm hb ha h2
    simp only [h1, h2, if_true, if_false]
    exact .dn (.inl ⟨1, rfl, fun _ => ⟨fun h => by omega, fun h => by omega⟩⟩)
   ·have hab : a = b := by omega
    subst hab
    simp only [h1, if_false]
    exact .nx ⟨m - 1, by omega, j + 1, w64_succ (by omega), by omega, by rw [take_succ ha, take_succ hb, ht]⟩
 obtain ⟨r, hr, h⟩ := H
 rw [hr]
 rcases h with ⟨c, rfl, h⟩ | ⟨rfl, h⟩
 ·exact ⟨c, rfl, h⟩
 ·simp only [flb_go]
  by_cases hl : (A.length : Int) < (B.length : Int)
  ·exact ⟨-1, by simp only [hl, decide_true, if_true], fun e => by omega⟩
  ·refine ⟨0, by simp only [hl, decide_false, Bool.false_eq_true, if_false], fun e => ?_⟩
   rw [h e]; omega
theorem smallS {A B : List Int} (hA : A.Pairwise (· < ·)) (hB : B.Pairwise (· < ·)) (gA : ∀ x ∈ A, x ≤ 999) (gB : ∀ x ∈ B, x ≤ 999) (lA : A.length ≤ 10000) (hl : A.length = B.length) : zq70 A B = some (decide (W B < W A)) := by
 unfold zq70
 have H : Tot (iter (zq70_L1 A B) (0 : Int)) fun r => r = .ret (decide (W B < W A)) ∨ (r = .go () ∧ A = B) := by
  refine .iter (fun m v => ∃ j : Nat, v = (j : Int) ∧ m + j = A.length ∧ A.take j = B.take j) (n := A.length) ⟨0, rfl, rfl, by simp⟩ ?_
  rintro m v ⟨j, rfl, hm, ht⟩
  unfold zq70_L1
  by_cases hj : j < A.length
  ·have h1 : decide ((j : Int) < (A.length : Int)) = true := by rw [decide_eq_true_eq]; omega
   have h2 : decide ((j : Int) < (B.length : Int)) = true := by rw [decide_eq_true_eq]; omega
   obtain ⟨a, ha⟩ := get_ex (l := A) (i := j) hj
   obtain ⟨b, hb⟩ := get_ex (l := B) (i := j) (by omega)
   simp only [h1, h2, if_true, Option.bind_some, idx_nat, ha, hb]
   by_cases hab : a = b
   ·subst hab
    simp only [bne_self_eq_false, Bool.false_eq_true, if_false]
    exact .nx ⟨m - 1, by omega, j + 1, w64_succ (by omega), by omega, by rw [take_succ ha, take_succ hb, ht]⟩
   ·have hne : (a != b) = true := by simp [hab]
    simp only [hne, if_true]
    refine .dn (.inl ?_)
    rcases Int.lt_or_lt_of_ne hab with h | h
    ·have := W_diff hA hB gB ht ha hb h
     simp [h, this]
    ·have h3 := W_diff hB hA gA ht.symm hb ha h
     have h4 : ¬ a < b := by omega
     have h5 : ¬ W B < W A := by omega
     simp [h4, h5]
  ·have h1 : decide ((j : Int) < (A.length : Int)) = false := by rw [decide_eq_false_iff_not]; omega
   simp only [h1, Bool.false_eq_true, if_false, Option.bind_some]
   rw [List.take_of_length_le (by omega), List.take_of_length_le (by omega)] at ht
   exact .dn (.inr ⟨rfl, ht⟩)
 obtain ⟨r, hr, h⟩ := H
 rw [hr]
 rcases h with rfl | ⟨rfl, h⟩
 ·rfl
 ·subst h
  simp
theorem or3 (a b c : Int) : zq1 [a, b, c] = some (if a ≠ 0 then a else if b ≠ 0 then b else c) := by
 have st : ∀ (i : Nat) x, ([a, b, c] : List Int)[i]? = some x → zq1_L1 [a, b, c] (i : Int) = if x = 0 then some (.nx ((i + 1 : Nat) : Int)) else some (.dn (.ret x)) := fun i x hx => by
  have hi : i < 3 := get_lt hx
  have hlt : decide ((i : Int) < (([a, b, c] : List Int).length : Int)) = true := by rw [decide_eq_true_eq]; show (i : Int) < 3; omega
  by_cases h : x = 0
  ·have hb : (x != 0) = false := by simp [h]
   rw [if_pos h]
   simp only [zq1_L1, hlt, if_true, idx_nat, hx, Option.bind_some, hb, Bool.false_eq_true, if_false, w64_succ (n := i) (by omega)]
  ·have hb : (x != 0) = true := by simp [h]
   simp only [zq1_L1, hlt, if_true, idx_nat, hx, Option.bind_some, hb, h, if_false]
 have fin : zq1_L1 [a, b, c] ((3 : Nat) : Int) = some (.dn (.go ())) := by
  have hlt : decide (((3 : Nat) : Int) < (([a, b, c] : List Int).length : Int)) = false := rfl
  simp only [zq1_L1, hlt, Bool.false_eq_true, if_false]
 have s0 := st 0 a rfl
 have s1 := st 1 b rfl
 have s2 := st 2 c rfl
 unfold zq1
 show Ab.flb (iter (zq1_L1 [a, b, c]) ((0 : Nat) : Int)) _ = _
 by_cases ha : a = 0
 ·rw [if_pos ha] at s0
  rw [iter_nx s0]
  by_cases hb : b = 0
  ·rw [if_pos hb] at s1
   rw [iter_nx s1]
   by_cases hc : c = 0
   ·rw [if_pos hc] at s2
    rw [iter_nx s2, iter_dn fin]
    simp [ha, hb, hc]
   ·rw [if_neg hc] at s2
    rw [iter_dn s2]
    simp [ha, hb]
  ·rw [if_neg hb] at s1
   rw [iter_dn s1]
   simp [ha, hb]
 ·rw [if_neg ha] at s0
  rw [iter_dn s0]
  simp [ha]
noncomputable def cE (t : Timetable) (f : Fleet) (L : List Delay) (pen : Int) (C b : List Int) (e : Int) : Int := (if e ∈ C then pen else dlv t f L (kept C b) ((kept C b).idxOf e)) * stp t (tix t e).toNat
noncomputable def cB (t : Timetable) (f : Fleet) (L : List Delay) (pen : Int) (C b : List Int) : Int := (b.map (cE t f L pen C b)).sum
noncomputable def q3 (t : Timetable) (f : Fleet) (L : List Delay) (pen : Int) (C b : List Int) : Int × Int × Int := (cB t f L pen C b, ((b.filter fun e => decide (e ∈ C)).length : Int), -W (b.filter fun e => decide (e ∈ C)))
noncomputable def q3s (t : Timetable) (f : Fleet) (L : List Delay) (pen : Int) (C : List Int) : List (List Int) → Int × Int × Int
 | [] => (0, 0, 0)
 | b :: B => add3 (q3 t f L pen C b) (q3s t f L pen C B)
def ids (t : Timetable) : List Int := t.Trips.map (·.Id)
def sub (t : Timetable) (m : Nat) : List Int := (ids t).filter fun e => m.testBit (tix t e).toNat
section
variable {t : Timetable} {f : Fleet} {B : List (List Int)} {L : List Delay} {pen : Int}
theorem q3_congr {C C' b : List Int} (h : ∀ e ∈ b, (e ∈ C ↔ e ∈ C')) : q3 t f L pen C b = q3 t f L pen C' b := by
 have hk : kept C b = kept C' b := List.filter_congr fun e he => by rw [decide_eq_decide.2 (h e he)]
 have hf : (b.filter fun e => decide (e ∈ C)) = b.filter fun e => decide (e ∈ C') := List.filter_congr fun e he => decide_eq_decide.2 (h e he)
 have hc : cB t f L pen C b = cB t f L pen C' b := by
  unfold cB
  congr 1
  refine List.map_congr_left fun e he => ?_
  unfold cE
  rw [hk]
  by_cases hm : e ∈ C
  ·rw [if_pos hm, if_pos ((h e he).1 hm)]
  ·rw [if_neg hm, if_neg fun h' => hm ((h e he).2 h')]
 unfold q3
 rw [hc, hf]
theorem q3s_le {S T : List Int} : ∀ {B : List (List Int)}, (∀ b ∈ B, le3 (q3 t f L pen S b) (q3 t f L pen T b)) → le3 (q3s t f L pen S B) (q3s t f L pen T B)
 | [], _ => le3_refl _
 | b :: B, h => by
  unfold q3s
  exact le3_add (h b (List.mem_cons_self ..)) (q3s_le fun b' hb' => h b' (List.mem_cons_of_mem _ hb'))
theorem q3s_fst {C : List Int} {g : Int → Int} : ∀ {B : List (List Int)}, (∀ b ∈ B, ∀ e ∈ b, cE t f L pen C b e = g e) → (q3s t f L pen C B).1 = (B.flatten.map g).sum
 | [], _ => rfl
 | b :: B, h => by
  have ih := q3s_fst (B := B) (C := C) (g := g) fun b' hb' => h b' (List.mem_cons_of_mem _ hb')
  have h1 : cB t f L pen C b = (b.map g).sum := by
   unfold cB
   rw [List.map_congr_left (h b (List.mem_cons_self ..))]
  show cB t f L pen C b + (q3s t f L pen C B).1 = _
  rw [ih, h1, List.flatten_cons, List.map_append, List.sum_append]
theorem q3s_len {C : List Int} : ∀ {B : List (List Int)}, (q3s t f L pen C B).2.1 = ((B.flatten.filter fun e => decide (e ∈ C)).length : Int) ∧ (q3s t f L pen C B).2.2 = -W (B.flatten.filter fun e => decide (e ∈ C))
 | [] => ⟨rfl, rfl⟩
 | b :: B => by
  obtain ⟨h1, h2⟩ := q3s_len (B := B) (C := C)
  rw [List.flatten_cons, List.filter_append, List.length_append, W_append]
  constructor
  ·show ((b.filter fun e => decide (e ∈ C)).length : Int) + (q3s t f L pen C B).2.1 = _
   rw [h1]; omega
  ·show -W (b.filter fun e => decide (e ∈ C)) + (q3s t f L pen C B).2.2 = _
   rw [h2]; omega
theorem flat_nodup (hP : BlocksP t f B) : B.flatten.Nodup := by
 have := hP.2.1
 rw [List.Nodup, List.pairwise_map] at this
 exact this.imp fun h e => h (by rw [e])
theorem flat_all (hT : GoodT t) (hP : BlocksP t f B) {e : Int} (he : 0 ≤ tix t e) : ∃ b ∈ B, e ∈ b := by
 have hte := tix_at he
 obtain ⟨i, b, k, hi, hk⟩ := place_ex hP hT hte.1
 rw [hte.2.1] at hk
 exact ⟨b, List.mem_of_getElem? hi, List.mem_of_getElem? hk⟩
theorem W_perm {l m : List Int} (h : l.Perm m) : W l = W m := perm_sum (h.map wt)
theorem q3s_canc (hT : GoodT t) (hP : BlocksP t f B) {C : List Int} (hc : CancP t C) : (q3s t f L pen C B).2.1 = (C.length : Int) ∧ (q3s t f L pen C B).2.2 = -W C := by
 have hp : (B.flatten.filter fun e => decide (e ∈ C)).Perm C := by
  rw [List.perm_ext_iff_of_nodup ((flat_nodup hP).sublist List.filter_sublist) (hc.2.imp fun h => by omega)]
  intro e
  rw [List.mem_filter]
  refine ⟨fun h => by simpa using h.2, fun h => ⟨?_, by simpa using h⟩⟩
  obtain ⟨b, hb, he⟩ := flat_all hT hP (hc.1 e h)
  exact List.mem_flatten.2 ⟨b, hb, he⟩
 obtain ⟨h1, h2⟩ := q3s_len (t := t) (f := f) (L := L) (pen := pen) (C := C) (B := B)
 rw [h1, h2, hp.length_eq, W_perm hp]
 exact ⟨rfl, rfl⟩
theorem flat_perm (hT : GoodT t) (hP : BlocksP t f B) : (B.flatten.map fun e => (tix t e).toNat).Perm (List.range t.Trips.length) := by
 have h0 : ∀ e ∈ B.flatten, 0 ≤ tix t e := fun e he => by
  obtain ⟨b, hb1, hb2⟩ := List.mem_flatten.1 he
  exact (hP.1 b hb1).2.1 e hb2
 have n1 : (B.flatten.map fun e => (tix t e).toNat).Nodup := by
  rw [List.Nodup, List.pairwise_map]
  refine List.Pairwise.imp_of_mem (fun {a b} ha hb hab he => ?_) (flat_nodup hP)
  have := h0 a ha
  have := h0 b hb
  exact hab (tix_inj (h0 a ha) (by omega))
 rw [List.perm_ext_iff_of_nodup n1 List.nodup_range]
 intro p
 rw [List.mem_map, List.mem_range]
 constructor
 ·rintro ⟨e, he, rfl⟩
  exact (tix_at (h0 e he)).2.2.2
 ·intro hp
  obtain ⟨x, hx⟩ := get_ex (l := t.Trips) hp
  obtain ⟨b, hb, he⟩ := flat_all (B := B) hT hP (e := x.Id) (by rw [tix_trip hT hx]; omega)
  exact ⟨x.Id, List.mem_flatten.2 ⟨b, hb, he⟩, by rw [tix_trip hT hx]; rfl⟩
noncomputable def yS (t : Timetable) (pen : Int) (X : List Int) (p : Nat) : Int := (if X.getD p 0 < 0 then pen else X.getD p 0) * stp t p
theorem rsum_succ (g : Nat → Int) (k : Nat) : ((List.range (k + 1)).map g).sum = ((List.range k).map g).sum + g k := by
 rw [List.range_succ, List.map_append, List.sum_append]; simp
theorem yS_bd (hT : GoodT t) (hp : 0 ≤ pen ∧ pen ≤ 1000) {X : List Int} (hl : X.length = t.Trips.length) (hX : ∀ (p : Nat) x, X[p]? = some x → x ≤ 5000000) {p : Nat} (h : p < t.Trips.length) : 0 ≤ yS t pen X p ∧ yS t pen X p ≤ 30000000 := by
 obtain ⟨x, hx⟩ := get_ex (l := X) (i := p) (by omega)
 obtain ⟨y, hy⟩ := get_ex h
 obtain ⟨_, _, _, _, s1, s2⟩ := stp_at hT hy
 have := hX p x hx
 unfold yS
 rw [getD0 hx]
 refine mul_bd ?_ ⟨s1, s2⟩
 split <;> omega
theorem ySum_bd (hT : GoodT t) (hp : 0 ≤ pen ∧ pen ≤ 1000) {X : List Int} (hl : X.length = t.Trips.length) (hX : ∀ (p : Nat) x, X[p]? = some x → x ≤ 5000000) : ∀ k, k ≤ t.Trips.length → 0 ≤ ((List.range k).map (yS t pen X)).sum ∧ ((List.range k).map (yS t pen X)).sum ≤ 30000000 * k
 | 0, _ => by simp
 | k + 1, hk => by
  have ih := ySum_bd hT hp hl hX k (by omega)
  have := yS_bd hT hp hl hX (p := k) (by omega)
  rw [rsum_succ]; omega
theorem cost_all_ (hb : TB t) (hA : AskF t f) (hP : BlocksP t f B) (hB : BB B) (hL : DelaysP L) (hLl : L.length ≤ 1000) (hp : 0 ≤ pen ∧ pen ≤ 1000) {C : List Int} (hC : C.length ≤ 1000) (hc : CancP t C) :
  zq18 t f B L pen C = some (q3s t f L pen C B).1 ∧ zq63 t f B L pen C = some (q3s t f L pen C B).1 ∧ 0 ≤ (q3s t f L pen C B).1 ∧ (q3s t f L pen C B).1 ≤ 360000000 := by
 obtain ⟨D, X, d1, d2, d3, d4, d5, d6⟩ := choice_delays (C := C) hb hA hP hB hC hc hL hLl
 have hT := hA.1
 have hn := hT.2.1
 have hXl : X.length = t.Trips.length := by rw [d4.1, d1]
 have hXb : ∀ (p : Nat) x, X[p]? = some x → x ≤ 5000000 := fun p y hy => by
  obtain ⟨x, hx⟩ := get_ex (l := t.Trips) (i := p) (by have := get_lt hy; omega)
  obtain ⟨d, hd⟩ := get_ex (l := D) (i := p) (by have := get_lt hy; omega)
  have h1 := d4.2 p x d hx hd
  rw [hy] at h1
  have h2 := d2 p d hd
  have h3 := Option.some.inj h1
  rw [h3]; split <;> omega
 have hbd := ySum_bd hT hp hXl hXb t.Trips.length (Nat.le_refl _)
 have hg : ∀ b ∈ B, ∀ e ∈ b, cE t f L pen C b e = yS t pen X (tix t e).toNat := fun b hbB e he => by
  have hte := (hP.1 b hbB).2.1 e he
  have hta := tix_at hte
  obtain ⟨i, hi⟩ := List.getElem?_of_mem hbB
  obtain ⟨d, hd⟩ := get_ex (l := D) (i := (tix t e).toNat) (by rw [d1]; exact hta.2.2.2)
  have hx := d4.2 _ _ d hta.1 hd
  rw [hta.2.1] at hx
  have hd0 := d2 _ d hd
  unfold cE yS
  rw [getD0 hx]
  by_cases hm : e ∈ C
  ·rw [if_pos hm, if_pos hm, if_pos (by omega)]
  ·rw [if_neg hm, if_neg hm, if_neg (by omega)]
   have hk : (kept C b)[(kept C b).idxOf e]? = some e := by
    have hmem : e ∈ kept C b := List.mem_filter.2 ⟨he, by simpa using hm⟩
    have hlt := List.idxOf_lt_length_of_mem hmem
    rw [List.getElem?_eq_getElem hlt, List.getElem_idxOf hlt]
   have := d3.2.1 i (kept C b) _ e (by rw [List.getElem?_map, hi]; rfl) hk (.inl (by rw [List.length_map]; exact get_lt hi))
   rw [hd] at this
   rw [Option.some.inj this]
 have hsum : (q3s t f L pen C B).1 = ((List.range t.Trips.length).map (yS t pen X)).sum := by
  rw [q3s_fst hg, ← perm_sum ((flat_perm hT hP).map (yS t pen X)), List.map_map]
  rfl
 rw [hsum]
 refine ⟨?_, ?_, by omega, by omega⟩
 ·unfold zq18
  rw [d5]
  refine Tot.val (.eq rfl (.call (P := fun v => v = ((List.range t.Trips.length).map (yS t pen X)).sum) ?_ fun v h => .ok h))
  refine .iter (fun m (s : Int × Int) => ∃ k : Nat, s.2 = (k : Int) ∧ m + k = X.length ∧ s.1 = ((List.range k).map (yS t pen X)).sum) (n := X.length) ⟨0, rfl, rfl, rfl⟩ ?_
  rintro m ⟨s, v⟩ ⟨k, e1, hm, e2⟩
  simp only at e1 e2
  subst e1 e2
  unfold zq18_L1
  refine .iteP (fun h => ?_) (fun h => .dn (by rw [show k = t.Trips.length by omega]))
  obtain ⟨y, hy⟩ := get_ex (l := X) (i := k) (by omega)
  obtain ⟨x, hx⟩ := get_ex (l := t.Trips) (i := k) (by omega)
  obtain ⟨l, l1, l2, l3, s1, s2⟩ := stp_at hT hx
  have q1 := yS_bd hT hp hXl hXb (p := k) (by omega)
  have q2 := ySum_bd hT hp hXl hXb k (by omega)
  refine .eq (ixs hy) (.call (P := fun v => v * stp t k = yS t pen X k) (.iteP (fun h0 => .ok ?_) (fun h0 => .ok ?_)) fun v hv => .eq (ixs hx) (.eq l1 (.nx ⟨m - 1, by omega, k + 1, w64_succ (by omega), by omega, ?_⟩)))
  ·unfold yS; rw [getD0 hy, if_pos h0]
  ·unfold yS; rw [getD0 hy, if_neg h0]
  ·show w64 (((List.range k).map (yS t pen X)).sum + w64 (v * (l.Stops.length : Int))) = _
   rw [l3, hv, w64_id (x := yS t pen X k) (by omega), rsum_succ, w64_id (by omega)]
 ·unfold zq63
  rw [d6]
  refine Tot.val (.eq rfl (.call (P := fun v => v = ((List.range t.Trips.length).map (yS t pen X)).sum) ?_ fun v h => .ok h))
  refine .iter (fun m (s : Int × Int) => ∃ k : Nat, s.2 = (k : Int) ∧ m + k = X.length ∧ s.1 = ((List.range k).map (yS t pen X)).sum) (n := X.length) ⟨0, rfl, rfl, rfl⟩ ?_
  rintro m ⟨s, v⟩ ⟨k, e1, hm, e2⟩
  simp only at e1 e2
  subst e1 e2
  unfold zq63_L1
  refine .iteP (fun h => ?_) (fun h => .dn (by rw [show k = t.Trips.length by omega]))
  obtain ⟨y, hy⟩ := get_ex (l := X) (i := k) (by omega)
  obtain ⟨x, hx⟩ := get_ex (l := t.Trips) (i := k) (by omega)
  obtain ⟨l, l1, l2, l3, s1, s2⟩ := stp_at hT hx
  have q1 := yS_bd hT hp hXl hXb (p := k) (by omega)
  have q2 := ySum_bd hT hp hXl hXb k (by omega)
  refine .eq (ixs hy) (.call (P := fun v => v * stp t k = yS t pen X k) (.iteP (fun h0 => .ok ?_) (fun h0 => .ok ?_)) fun v hv => .eq l2 (.nx ⟨m - 1, by omega, k + 1, w64_succ (by omega), by omega, ?_⟩))
  ·unfold yS; rw [getD0 hy, if_pos h0]
  ·unfold yS; rw [getD0 hy, if_neg h0]
  ·show w64 (((List.range k).map (yS t pen X)).sum + w64 (v * (l.Stops.length : Int))) = _
   rw [l3, hv, w64_id (x := yS t pen X k) (by omega), rsum_succ, w64_id (by omega)]
theorem ids_sorted (hT : GoodT t) : (ids t).Pairwise (· < ·) := by
 unfold ids
 rw [List.pairwise_map, List.pairwise_iff_getElem]
 intro i j hi hj hij
 exact ids_lt hT hij (List.getElem?_eq_getElem hi) (List.getElem?_eq_getElem hj)
theorem mem_ids (hT : GoodT t) {e : Int} : e ∈ ids t ↔ 0 ≤ tix t e := by
 unfold ids
 rw [List.mem_map]
 constructor
 ·rintro ⟨x, hx, rfl⟩
  obtain ⟨k, hk⟩ := List.getElem?_of_mem hx
  rw [tix_trip hT hk]; omega
 ·intro h
  have := tix_at h
  exact ⟨tr t e, List.mem_of_getElem? this.1, this.2.1⟩
theorem canc_le {C : List Int} (hT : GoodT t) (hc : CancP t C) : (∀ x ∈ C, x ≤ 999) ∧ C.length ≤ 12 := by
 have hn := hT.2.1
 refine ⟨fun x hx => ?_, ?_⟩
 ·have h := tix_at (hc.1 x hx)
  have := (hT.2.2.1 _ _ h.1).1.2
  rw [h.2.1] at this; exact this
 ·have := sub_len (l := C) (m := ids t) (hc.2.imp fun h => by omega) fun x hx => (mem_ids hT).2 (hc.1 x hx)
  unfold ids at this
  rw [List.length_map] at this; omega
theorem sub_canc (hT : GoodT t) (m : Nat) : CancP t (sub t m) := ⟨fun e he => (mem_ids hT).1 (List.mem_filter.1 he).1, (ids_sorted hT).sublist List.filter_sublist⟩
theorem sub_of (hT : GoodT t) {C : List Int} (hc : CancP t C) : ∃ m, m < 2 ^ t.Trips.length ∧ sub t m = C := by
 refine ⟨mkB (fun k => match t.Trips[k]? with
  | some x => decide (x.Id ∈ C)
  | none => false) t.Trips.length, mkB_lt _ _, sorted_ext (sub_canc hT _).2 hc.2 fun e => ?_⟩
 unfold sub
 rw [List.mem_filter, mem_ids hT]
 constructor
 ·rintro ⟨h0, h1⟩
  have ht := tix_at h0
  rw [mkB_bit _ _ _ ht.2.2.2] at h1
  simp only [ht.1, ht.2.1, decide_eq_true_eq] at h1
  exact h1
 ·intro he
  have h0 := hc.1 e he
  have ht := tix_at h0
  refine ⟨h0, ?_⟩
  rw [mkB_bit _ _ _ ht.2.2.2]
  simp only [ht.1, ht.2.1, decide_eq_true_eq]
  exact he
theorem subI (hT : GoodT t) {m : Nat} (hm : m < 4096) : iter (zq3_L1 t (m : Int)) ((0 : Int), ([] : List Int)) = some (sub t m) := by
 have hn := hT.2.1
 have hil : (ids t).length = t.Trips.length := by unfold ids; rw [List.length_map]
 refine Tot.val (.iter (fun q (s : Int × List Int) => ∃ j : Nat, s.1 = (j : Int) ∧ q + j = t.Trips.length ∧ s.2 = ((ids t).take j).filter fun e => m.testBit (tix t e).toNat) (n := t.Trips.length) ⟨0, rfl, rfl, rfl⟩ ?_)
 rintro q ⟨v, v3⟩ ⟨j, e1, hq, e2⟩
 simp only at e1 e2
 subst e1 e2
 unfold zq3_L1
 refine .iteP (fun hc => ?_) (fun hc => .dn (by rw [List.take_of_length_le (by omega)]; rfl))
 obtain ⟨x, hx⟩ := get_ex (l := t.Trips) (i := j) (by omega)
 have hid : (ids t)[j]? = some x.Id := by unfold ids; rw [List.getElem?_map, hx]; rfl
 have hbit := bitR hm (v := j) (by omega)
 have hfl : (((ids t).take j).filter fun e => m.testBit (tix t e).toNat).length ≤ j := Nat.le_trans (List.length_filter_le ..) (by rw [List.length_take]; omega)
 have htx := tix_trip hT hx
 refine .call (P := fun o => o = ((ids t).take (j + 1)).filter fun e => m.testBit (tix t e).toNat) (.eq (ixs hx) (.chk (by omega) ?_)) fun o ho => .nx ⟨q - 1, by omega, j + 1, w64_succ (by omega), by omega, ho⟩
 rw [hbit, take_succ hid, List.filter_append]
 cases hb : m.testBit j
 ·simp only [Bool.false_eq_true, if_false]
  refine .ite (fun h => by simp at h) (fun _ => .ok ?_)
  simp [htx, hb]
 ·simp only [if_true]
  refine .ite (fun h => .chk (by simp only [List.length_singleton]; omega) (.ok ?_)) (fun h => by simp at h)
  simp [htx, hb]
end
noncomputable instance (a b : Int × Int × Int) : Decidable (le3 a b) := Classical.propDecidable _
theorem cmpv (c c' : Int) : ((if c < c' then (-1 : Int) else if c' < c then 1 else 0) < 0 ↔ c < c') ∧ ((if c < c' then (-1 : Int) else if c' < c then 1 else 0) = 0 ↔ c = c') := by
 split
 ·constructor <;> constructor <;> intro _ <;> omega
 ·split
  ·constructor <;> constructor <;> intro _ <;> omega
  ·constructor <;> constructor <;> intro _ <;> omega
theorem or_lt {c c' l l' w w' z : Int} (hz : l = l' → (z < 0 ↔ w' < w)) : (if (if c < c' then (-1 : Int) else if c' < c then 1 else 0) ≠ 0 then (if c < c' then (-1 : Int) else if c' < c then 1 else 0) else if (if l < l' then (-1 : Int) else if l' < l then 1 else 0) ≠ 0 then (if l < l' then (-1 : Int) else if l' < l then 1 else 0) else z) < 0 ↔ ¬ le3 (c', l', -w') (c, l, -w) := by
 obtain ⟨a1, a2⟩ := cmpv c c'
 obtain ⟨b1, b2⟩ := cmpv l l'
 generalize (if c < c' then (-1 : Int) else if c' < c then 1 else 0) = a at a1 a2 ⊢
 generalize (if l < l' then (-1 : Int) else if l' < l then 1 else 0) = b at b1 b2 ⊢
 unfold le3
 simp only
 by_cases ha : a = 0
 ·have hc := a2.1 ha
  rw [if_neg (fun h => h ha)]
  by_cases hb : b = 0
  ·have hl := b2.1 hb
   have := hz hl
   rw [if_neg (fun h => h hb)]; omega
  ·rw [if_pos hb]; omega
 ·rw [if_pos ha]; omega
section
variable {t : Timetable} {f : Fleet} {B : List (List Int)} {L : List Delay} {D : List Int} {pen : Int}
theorem kept_nil (b : List Int) : kept [] b = b := by unfold kept; simp
theorem feas_nil (hP : BlocksP t f B) : PossP t f (B.map (kept [])) := by
 intro i b hb
 rw [List.getElem?_map] at hb
 cases h : B[i]? with
 | none => rw [h] at hb; cases hb
 | some c =>
  rw [h] at hb
  have : kept [] c = b := Option.some.inj hb
  rw [← this, kept_nil]
  exact (hP.1 c (List.mem_of_getElem? h)).2.2
theorem sub_zero (t : Timetable) : sub t 0 = [] := by unfold sub; simp
theorem penI (hp : 0 ≤ pen ∧ pen ≤ 1000) : zq27 pen = some true := by
 unfold zq27
 rw [within_eq]
 simp [hp]
theorem bestI (S : VS t f B L D) (hp : 0 ≤ pen ∧ pen ≤ 1000) : ∃ R, zq3 t f B L pen = some (R, (q3s t f L pen R B).1, true) ∧ CancP t R ∧ PossP t f (B.map (kept R)) ∧ ∀ C, CancP t C → PossP t f (B.map (kept C)) → le3 (q3s t f L pen R B) (q3s t f L pen C B) := by
 have hT := S.ask.1
 have hn := hT.2.1
 obtain ⟨hw, hw2⟩ := pow12 hn
 have hpp := Nat.two_pow_pos t.Trips.length
 have CA := fun {C : List Int} (hc : CancP t C) => cost_all_ (pen := pen) S.tb S.ask S.blk S.bb S.dl S.ll hp (C := C) (by have := (canc_le hT hc).2; omega) hc
 have H : Tot (iter (zq3_L2 t f B L pen) ((1073741824 : Int), (0 : Int), ([] : List Int))) fun o => o.1 = (q3s t f L pen o.2 B).1 ∧ CancP t o.2 ∧ PossP t f (B.map (kept o.2)) ∧ ∀ j, j < 2 ^ t.Trips.length → PossP t f (B.map (kept (sub t j))) → le3 (q3s t f L pen o.2 B) (q3s t f L pen (sub t j) B) := by
  refine .iter (fun q (s : Int × Int × List Int) => ∃ i : Nat, s.2.1 = (i : Int) ∧ q + i = 2 ^ t.Trips.length ∧ (i = 0 → s.1 = 1073741824 ∧ s.2.2 = []) ∧ (0 < i → s.1 = (q3s t f L pen s.2.2 B).1 ∧ CancP t s.2.2 ∧ PossP t f (B.map (kept s.2.2)) ∧ ∀ j, j < i → PossP t f (B.map (kept (sub t j))) → le3 (q3s t f L pen s.2.2 B) (q3s t f L pen (sub t j) B))) (n := 2 ^ t.Trips.length) ⟨0, rfl, rfl, fun _ => ⟨rfl, rfl⟩, fun h => by omega⟩ ?_
  rintro q ⟨cost, v, x⟩ ⟨i, e1, hq, g0, g1⟩
  simp only at e1 g0 g1
  subst e1
  unfold zq3_L2
  dsimp only
  rw [hw]
  refine .iteP (fun hc => ?_) (fun hc => .dn ?_)
  ·have hi : i < 2 ^ t.Trips.length := by omega
   have hC := sub_canc hT i
   obtain ⟨c1, _, c3, c4⟩ := CA hC
   have hCl := canc_le hT hC
   have hpo := possI (C := sub t i) S.tb S.ask S.bb (by omega) S.tri
   refine .call (P := fun o => o.1 = (q3s t f L pen o.2 B).1 ∧ CancP t o.2 ∧ PossP t f (B.map (kept o.2)) ∧ ∀ j, j < i + 1 → PossP t f (B.map (kept (sub t j))) → le3 (q3s t f L pen o.2 B) (q3s t f L pen (sub t j) B)) (.eq (subI hT (by omega)) (.eq hpo (.iteN (fun hno => .ok ?_) (fun hyes => .eq c1 ?_)))) fun o ho => .nx ⟨q - 1, by omega, i + 1, w64_succ (by omega), by omega, fun h => by omega, fun _ => ho⟩
   ·have hi0 : 0 < i := by
     rcases Nat.eq_zero_or_pos i with h | h
     ·subst h
      rw [sub_zero] at hno
      exact absurd (feas_nil S.blk) hno
     ·exact h
    obtain ⟨k1, k2, k3, k4⟩ := g1 hi0
    refine ⟨k1, k2, k3, fun j hj hf => ?_⟩
    by_cases hji : j = i
    ·subst hji; exact absurd hf hno
    ·exact k4 j (by omega) hf
   ·rcases Nat.eq_zero_or_pos i with h0 | hi0
    ·obtain ⟨z1, z2⟩ := g0 h0
     subst z1 z2 h0
     obtain ⟨z, hz, _⟩ := cmpI (A := sub t 0) (B := []) hC.2 (by simp) hCl.1 (by simp) (by omega)
     refine .eq (compare_int _ _) (.eq (compare_int _ _) (.eq hz (.eq (or3 _ _ _) (.iteP (fun _ => .ok ⟨rfl, hC, hyes, fun j hj hf => ?_⟩) (fun hr => ?_)))))
     ·have : j = 0 := by omega
      subst this; exact le3_refl _
     ·exfalso
      apply hr
      have hlt : (q3s t f L pen (sub t 0) B).1 < 1073741824 := by omega
      simp only [hlt, if_true]
      rw [if_pos (by decide)]
      decide
    ·obtain ⟨k1, k2, k3, k4⟩ := g1 hi0
     obtain ⟨m1, m2⟩ := q3s_canc (t := t) (f := f) (B := B) (L := L) (pen := pen) hT S.blk hC
     obtain ⟨n1, n2⟩ := q3s_canc (t := t) (f := f) (B := B) (L := L) (pen := pen) hT S.blk k2
     have hxl := canc_le hT k2
     obtain ⟨z, hz, hz2⟩ := cmpI (A := sub t i) (B := x) hC.2 k2.2 hCl.1 hxl.1 (by omega)
     have hor := or_lt (c := (q3s t f L pen (sub t i) B).1) (c' := cost) (l := ((sub t i).length : Int)) (l' := (x.length : Int)) (w := W (sub t i)) (w' := W x) (z := z) (fun h => hz2 (by omega))
     have e1 : (cost, (x.length : Int), -W x) = q3s t f L pen x B := by rw [k1, ← n1, ← n2]
     have e2 : ((q3s t f L pen (sub t i) B).1, ((sub t i).length : Int), -W (sub t i)) = q3s t f L pen (sub t i) B := by rw [← m1, ← m2]
     rw [e1, e2] at hor
     refine .eq (compare_int _ _) (.eq (compare_int _ _) (.eq hz (.eq (or3 _ _ _) (.iteP (fun hr => .ok ⟨rfl, hC, hyes, fun j hj hf => ?_⟩) (fun hr => .ok ⟨k1, k2, k3, fun j hj hf => ?_⟩)))))
     ·by_cases hji : j = i
      ·subst hji; exact le3_refl _
      ·exact le3_trans (le3_total (hor.1 hr)) (k4 j (by omega) hf)
     ·by_cases hji : j = i
      ·subst hji
       exact Classical.byContradiction fun h => hr (hor.2 h)
      ·exact k4 j (by omega) hf
  ·have hi : i = 2 ^ t.Trips.length := by omega
   have := g1 (by omega)
   rw [hi] at this; exact this
 obtain ⟨⟨cost, R⟩, hr, h1, h2, h3, h4⟩ := H
 simp only at h1 h2 h3 h4
 refine ⟨R, ?_, h2, h3, fun C hc hf => ?_⟩
 ·have hck : chk ((0 : Int) ≤ (t.Trips.length : Int)) = some () := chk_of (by omega)
  unfold zq3
  simp only [S.late, penI hp, Option.bind_some, Bool.not_true, Bool.false_eq_true, if_false, hck, hr, h1]
 ·obtain ⟨m, hm, rfl⟩ := sub_of hT hc
  exact h4 m hm hf
theorem row_nodup (hP : BlocksP t f B) {b : List Int} (hb : b ∈ B) : (b.map (tix t)).Nodup ∧ b.Nodup := by
 have h := hP.2.1
 rw [List.map_flatten, List.Nodup, List.pairwise_flatten] at h
 have h1 := h.1 _ (List.mem_map.2 ⟨b, hb, rfl⟩)
 refine ⟨h1, ?_⟩
 rw [List.pairwise_map] at h1
 exact h1.imp fun h e => h (by rw [e])
theorem row_len (hT : GoodT t) (hP : BlocksP t f B) {b : List Int} (hb : b ∈ B) : b.length ≤ 12 := by
 have hn := hT.2.1
 have := sub_len (m := ids t) (row_nodup hP hb).2 fun x hx => (mem_ids hT).2 ((hP.1 b hb).2.1 x hx)
 unfold ids at this
 rw [List.length_map] at this; omega
def SubN (b : List Int) (m : Nat) (r : List Int) : Prop := r.Pairwise (· < ·) ∧ ∀ e, e ∈ r ↔ ∃ v, b[v]? = some e ∧ m.testBit v = true
theorem subN_of {b r : List Int} (hd : b.Nodup) (hr : r.Pairwise (· < ·)) (hs : ∀ e ∈ r, e ∈ b) : ∃ m, m < 2 ^ b.length ∧ SubN b m r := by
 refine ⟨mkB (fun k => match b[k]? with
  | some x => decide (x ∈ r)
  | none => false) b.length, mkB_lt _ _, hr, fun e => ⟨fun he => ?_, fun ⟨v, hv, hm⟩ => ?_⟩⟩
 ·obtain ⟨v, hv⟩ := List.getElem?_of_mem (hs e he)
  refine ⟨v, hv, ?_⟩
  rw [mkB_bit _ _ _ (get_lt hv)]
  simp only [hv, decide_eq_true_eq]; exact he
 ·rw [mkB_bit _ _ _ (get_lt hv)] at hm
  simp only [hv, decide_eq_true_eq] at hm; exact hm
theorem subset_len {b r : List Int} (hr : r.Pairwise (· < ·)) (hs : ∀ e ∈ r, e ∈ b) : r.length ≤ b.length := sub_len (hr.imp fun h => by omega) hs
theorem subN_sub {b r : List Int} {m : Nat} (h : SubN b m r) : ∀ e ∈ r, e ∈ b := fun e he => by
 obtain ⟨v, hv, _⟩ := (h.2 e).1 he
 exact List.mem_of_getElem? hv
theorem subsetS {b : List Int} (hb : b.length ≤ 12) {m : Nat} (hm : m < 4096) : Tot (zq71 b (m : Int)) fun r => SubN b m r := by
 unfold zq71
 refine .call (P := fun r => SubN b m r) ?_ fun r hr => .ok hr
 refine .iter (fun q (s : List Int × Int) => ∃ j : Nat, s.2 = (j : Int) ∧ q + j = b.length ∧ s.1.Pairwise (· < ·) ∧ ∀ e, e ∈ s.1 ↔ ∃ v, v < j ∧ b[v]? = some e ∧ m.testBit v = true) (n := b.length) ⟨0, rfl, rfl, by simp, fun e => by simp⟩ ?_
 rintro q ⟨r, v⟩ ⟨j, e1, hq, g1, g2⟩
 simp only at e1 g1 g2
 subst e1
 unfold zq71_L1
 refine .iteP (fun hc => ?_) (fun hc => .dn ⟨g1, fun e => ?_⟩)
 ·have hu := u64_nat (v := j) (by omega)
  have hbit := bitR hm (v := j) (by omega)
  obtain ⟨e, he⟩ := get_ex (l := b) (i := j) (by omega)
  have hrl : r.length ≤ b.length := subset_len g1 fun e he => by
   obtain ⟨v, _, hv, _⟩ := (g2 e).1 he
   exact List.mem_of_getElem? hv
  refine .call (P := fun o => o.Pairwise (· < ·) ∧ ∀ e, e ∈ o ↔ ∃ v, v < j + 1 ∧ b[v]? = some e ∧ m.testBit v = true) (.chk (u64_nn _) ?_) fun o ho => .nx ⟨q - 1, by omega, j + 1, w64_succ (by omega), by omega, ho⟩
  rw [hu, hbit]
  cases hb : m.testBit j
  ·simp only [Bool.false_eq_true, if_false]
   refine .ite (fun h => by simp at h) (fun _ => .ok ⟨g1, fun x => ?_⟩)
   rw [g2 x]
   constructor
   ·rintro ⟨v, h1, h2, h3⟩; exact ⟨v, by omega, h2, h3⟩
   ·rintro ⟨v, h1, h2, h3⟩
    refine ⟨v, ?_, h2, h3⟩
    have : v ≠ j := fun h => by subst h; rw [hb] at h3; cases h3
    omega
  ·simp only [if_true]
   refine .ite (fun h => .eq (ixs he) (.call (put_ok g1 (by omega) e) fun o ⟨k1, k2⟩ => .ok ⟨k1, fun x => ?_⟩)) (fun h => by simp at h)
   rw [k2 x, g2 x]
   constructor
   ·rintro (⟨v, h1, h2, h3⟩ | rfl)
    ·exact ⟨v, by omega, h2, h3⟩
    ·exact ⟨j, by omega, he, hb⟩
   ·rintro ⟨v, h1, h2, h3⟩
    by_cases hv : v = j
    ·subst hv; rw [he] at h2; cases h2; exact .inr rfl
    ·exact .inl ⟨v, by omega, h2, h3⟩
 ·rw [g2 e]
  constructor
  ·rintro ⟨v, _, h2, h3⟩; exact ⟨v, h2, h3⟩
  ·rintro ⟨v, h2, h3⟩; exact ⟨v, by have := get_lt h2; omega, h2, h3⟩
theorem unionS {a b : List Int} (ha : a.Pairwise (· < ·)) (hl : a.length + b.length ≤ 1000) : Tot (zq72 a b) fun r => r.Pairwise (· < ·) ∧ ∀ e, e ∈ r ↔ e ∈ a ∨ e ∈ b := by
 unfold zq72
 refine .call (P := fun r => r.Pairwise (· < ·) ∧ ∀ e, e ∈ r ↔ e ∈ a ∨ e ∈ b) ?_ fun r hr => .ok hr
 refine .iter (fun q (s : List Int × Int) => ∃ j : Nat, s.2 = (j : Int) ∧ q + j = b.length ∧ s.1.Pairwise (· < ·) ∧ ∀ e, e ∈ s.1 ↔ e ∈ a ∨ e ∈ b.take j) (n := b.length) ⟨0, rfl, rfl, ha, fun e => by simp⟩ ?_
 rintro q ⟨r, v⟩ ⟨j, e1, hq, g1, g2⟩
 simp only at e1 g1 g2
 subst e1
 unfold zq72_L1
 refine .iteP (fun hc => ?_) (fun hc => .dn ⟨g1, fun e => by rw [g2 e, List.take_of_length_le (by omega)]⟩)
 obtain ⟨e, he⟩ := get_ex (l := b) (i := j) (by omega)
 have hrl : r.length ≤ (a ++ b).length := subset_len g1 fun e he => by
  rcases (g2 e).1 he with h | h
  ·exact List.mem_append_left _ h
  ·exact List.mem_append_right _ (List.mem_of_mem_take h)
 rw [List.length_append] at hrl
 refine .eq (ixs he) (.call (put_ok g1 (by omega) e) fun o ⟨k1, k2⟩ => .nx ⟨q - 1, by omega, j + 1, w64_succ (by omega), by omega, k1, fun x => ?_⟩)
 simp only
 rw [k2 x, g2 x, take_succ he, List.mem_append, List.mem_singleton, or_assoc]
theorem q3_sub {b r : List Int} (hd : b.Nodup) (hr : r.Pairwise (· < ·)) (hs : ∀ e ∈ r, e ∈ b) : q3 t f L pen r b = (cB t f L pen r b, (r.length : Int), -W r) := by
 have hp : (b.filter fun e => decide (e ∈ r)).Perm r := by
  rw [List.perm_ext_iff_of_nodup (hd.sublist List.filter_sublist) (hr.imp fun h => by omega)]
  intro e
  rw [List.mem_filter]
  exact ⟨fun h => by simpa using h.2, fun h => ⟨hs e h, by simpa using h⟩⟩
 unfold q3
 rw [hp.length_eq, W_perm hp]
theorem cE_bd (hT : GoodT t) (hA : AskF t f) (hL : DelaysP L) (hp : 0 ≤ pen ∧ pen ≤ 1000) {C b : List Int} (hb : b.length ≤ 2000) (hTb : ∀ e ∈ b, 0 ≤ tix t e) {e : Int} (he : e ∈ b) : 0 ≤ cE t f L pen C b e ∧ cE t f L pen C b e ≤ 30000000 := by
 have hta := tix_at (hTb e he)
 obtain ⟨_, _, _, _, s1, s2⟩ := stp_at hT hta.1
 unfold cE
 refine mul_bd ?_ ⟨s1, s2⟩
 by_cases hm : e ∈ C
 ·rw [if_pos hm]; omega
 ·rw [if_neg hm]
  have hmem : e ∈ kept C b := List.mem_filter.2 ⟨he, by simpa using hm⟩
  have hlt := List.idxOf_lt_length_of_mem hmem
  have hkl := kept_len C b
  have := dlv_bd hA hL (b := kept C b) (fun e he => hTb e (List.mem_filter.1 he).1) _ hlt
  omega
theorem cSum_bd (hT : GoodT t) (hA : AskF t f) (hL : DelaysP L) (hp : 0 ≤ pen ∧ pen ≤ 1000) {C b : List Int} (hb : b.length ≤ 2000) (hTb : ∀ e ∈ b, 0 ≤ tix t e) (j : Nat) : 0 ≤ ((b.take j).map (cE t f L pen C b)).sum ∧ ((b.take j).map (cE t f L pen C b)).sum ≤ 30000000 * 2000 := by
 have := sum_bd (l := (b.take j).map (cE t f L pen C b)) (M := 30000000) fun x hx => by
  obtain ⟨e, he, rfl⟩ := List.mem_map.1 hx
  exact cE_bd hT hA hL hp hb hTb (List.mem_of_mem_take he)
 have hl : (((b.take j).map (cE t f L pen C b)).length : Int) ≤ 2000 := by rw [List.length_map, List.length_take]; omega
 omega
theorem costB (S : VS t f B L D) (hp : 0 ≤ pen ∧ pen ≤ 1000) {b r : List Int} (hb : b ∈ B) (hrl : r.length ≤ 1000) : ∃ D', zq58 t f [kept r b] L = some D' ∧ iter (zq62_L1 t b pen r D') ((0 : Int), (0 : Int)) = some (cB t f L pen r b) := by
 have hT := S.ask.1
 have hn := hT.2.1
 have hTb := S.tri b hb
 have hbl := S.bb.2 b hb
 have hkl := kept_len r b
 have hTk : ∀ c ∈ [kept r b], ∀ e ∈ c, 0 ≤ tix t e := fun c hc e he => by
  rw [List.mem_singleton.1 hc] at he
  exact hTb e (List.mem_filter.1 he).1
 have hI : InjB t [kept r b] := inj_of (by
  rw [List.flatten_cons, List.flatten_nil, List.append_nil]
  exact List.Nodup.sublist (List.Sublist.map _ List.filter_sublist) (row_nodup S.blk hb).1)
 obtain ⟨D', d1, d2, d3⟩ := delays_of S.tb S.ask S.dl S.ll (B := [kept r b]) ⟨by simp, fun c hc => by rw [List.mem_singleton.1 hc]; omega⟩ hI hTk
 refine ⟨D', d2, ?_⟩
 refine Tot.val (.iter (fun m (s : Int × Int) => ∃ j : Nat, s.2 = (j : Int) ∧ m + j = b.length ∧ s.1 = ((b.take j).map (cE t f L pen r b)).sum) (n := b.length) ⟨0, rfl, rfl, rfl⟩ ?_)
 rintro m ⟨s, v⟩ ⟨j, e1, hm, e2⟩
 simp only at e1 e2
 subst e1 e2
 unfold zq62_L1
 refine .iteP (fun hc => ?_) (fun hc => .dn (by rw [List.take_of_length_le (by omega)]; rfl))
 obtain ⟨e, he⟩ := get_ex (l := b) (i := j) (by omega)
 have hmb := List.mem_of_getElem? he
 have hte := hTb e hmb
 have hta := tix_at hte
 obtain ⟨l, _, l2, l3, s1, s2⟩ := stp_at hT hta.1
 rw [hta.2.2.1] at l2
 have q1 := cE_bd (C := r) hT S.ask S.dl hp hbl hTb hmb
 have q2 := cSum_bd (C := r) hT S.ask S.dl hp hbl hTb j
 have hsucc : ((b.take (j + 1)).map (cE t f L pen r b)).sum = ((b.take j).map (cE t f L pen r b)).sum + cE t f L pen r b e := by
  rw [take_succ he, List.map_append, List.sum_append]; simp
 refine .call (P := fun o => o = ((b.take (j + 1)).map (cE t f L pen r b)).sum) (.eq (ixs he) (.eq (tripS S.tb e) (.eq (ixs he) (.eq (l1Has_eq r (by omega) e) (.iteP (fun hmem => .eq l2 (.ok ?_)) (fun hmem => ?_)))))) fun o ho => .nx ⟨m - 1, by omega, j + 1, w64_succ (by omega), by omega, ho⟩
 ·have hv : pen * stp t (tix t e).toNat = cE t f L pen r b e := by unfold cE; rw [if_pos hmem]
  rw [l3, hv, w64_id (x := cE t f L pen r b e) (by omega), hsucc, w64_id (by omega)]
 ·have hv : dlv t f L (kept r b) ((kept r b).idxOf e) * stp t (tix t e).toNat = cE t f L pen r b e := by unfold cE; rw [if_neg hmem]
  have hk : (kept r b)[(kept r b).idxOf e]? = some e := by
   have hmem' : e ∈ kept r b := List.mem_filter.2 ⟨hmb, by simpa using hmem⟩
   have hlt := List.idxOf_lt_length_of_mem hmem'
   rw [List.getElem?_eq_getElem hlt, List.getElem_idxOf hlt]
  have hd := d3.2.1 0 (kept r b) _ e rfl hk (.inl (by simp))
  have hdi : idx D' (tix t e) = some (dlv t f L (kept r b) ((kept r b).idxOf e)) := by rw [← hta.2.2.1]; exact ixs hd
  refine .eq hdi (.eq l2 (.ok ?_))
  rw [l3, hv, w64_id (x := cE t f L pen r b e) (by omega), hsucc, w64_id (by omega)]
def BestB (t : Timetable) (f : Fleet) (L : List Delay) (pen : Int) (b R : List Int) : Prop := ChainE t f (kept R b) ∧ ∀ r, r.Pairwise (· < ·) → (∀ e ∈ r, e ∈ b) → ChainE t f (kept r b) → le3 (q3 t f L pen R b) (q3 t f L pen r b)
theorem bestS (S : VS t f B L D) (hp : 0 ≤ pen ∧ pen ≤ 1000) {b : List Int} (hb : b ∈ B) : ∃ R, zq62 t f b L pen = some (R, cB t f L pen R b) ∧ R.Pairwise (· < ·) ∧ (∀ e ∈ R, e ∈ b) ∧ BestB t f L pen b R := by
 have hT := S.ask.1
 have hn := hT.2.1
 have hTb := S.tri b hb
 have hb12 := row_len hT S.blk hb
 have hbd := (row_nodup S.blk hb).2
 obtain ⟨hw, hw2⟩ := pow12 hb12
 have hpp := Nat.two_pow_pos b.length
 have h999 : ∀ x ∈ b, x ≤ 999 := fun x hx => by
  have h := tix_at (hTb x hx)
  have := (hT.2.2.1 _ _ h.1).1.2
  rw [h.2.1] at this; exact this
 have cpos : ∀ r, 0 ≤ cB t f L pen r b := fun r => by
  have := (cSum_bd (C := r) hT S.ask S.dl hp (by omega) hTb b.length).1
  rw [List.take_length] at this; exact this
 have H : Tot (iter (zq62_L2 t f b L pen) (([] : List Int), ((-1) : Int), (0 : Int))) fun o => o.2 = cB t f L pen o.1 b ∧ o.1.Pairwise (· < ·) ∧ (∀ e ∈ o.1, e ∈ b) ∧ ChainE t f (kept o.1 b) ∧ ∀ j, j < 2 ^ b.length → ∀ r, SubN b j r → ChainE t f (kept r b) → le3 (q3 t f L pen o.1 b) (q3 t f L pen r b) := by
  refine .iter (fun q (s : List Int × Int × Int) => ∃ i : Nat, s.2.2 = (i : Int) ∧ q + i = 2 ^ b.length ∧ (i = 0 → s.2.1 = -1) ∧ (0 < i → s.2.1 = cB t f L pen s.1 b ∧ s.1.Pairwise (· < ·) ∧ (∀ e ∈ s.1, e ∈ b) ∧ ChainE t f (kept s.1 b) ∧ ∀ j, j < i → ∀ r, SubN b j r → ChainE t f (kept r b) → le3 (q3 t f L pen s.1 b) (q3 t f L pen r b))) (n := 2 ^ b.length) ⟨0, rfl, rfl, fun _ => rfl, fun h => by omega⟩ ?_
  rintro q ⟨d, cost, v⟩ ⟨i, e1, hq, g0, g1⟩
  simp only at e1 g0 g1
  subst e1
  unfold zq62_L2
  dsimp only
  refine .chk (u64_nn _) ?_
  rw [u64_nat (v := b.length) (by omega), hw]
  refine .iteP (fun hc => ?_) (fun hc => .dn ?_)
  ·have hi : i < 2 ^ b.length := by omega
   refine .call (P := fun o => o.2 = cB t f L pen o.1 b ∧ o.1.Pairwise (· < ·) ∧ (∀ e ∈ o.1, e ∈ b) ∧ ChainE t f (kept o.1 b) ∧ ∀ j, j < i + 1 → ∀ r, SubN b j r → ChainE t f (kept r b) → le3 (q3 t f L pen o.1 b) (q3 t f L pen r b)) (.call (subsetS hb12 (by omega)) fun r hr => ?_) fun o ho => .nx ⟨q - 1, by omega, i + 1, w64_succ (by omega), by omega, fun h => by omega, fun _ => ho⟩
   have hrs := subN_sub hr
   have hrl := subset_len hr.1 hrs
   have same : ∀ r', SubN b i r' → r' = r := fun r' h' => sorted_ext h'.1 hr.1 fun e => by rw [h'.2 e, hr.2 e]
   have hkl := kept_len r b
   refine .eq (keptS (by omega) (by omega)) (.eq (follS S.tb S.ask (by omega) fun e he => hTb e (List.mem_filter.1 he).1) (.iteN (fun hno => .ok ?_) (fun hyes => ?_)))
   ·have hi0 : 0 < i := by
     rcases Nat.eq_zero_or_pos i with h | h
     ·subst h
      have : r = [] := by
       cases r with
       | nil => rfl
       | cons a r => obtain ⟨v, _, hv⟩ := (hr.2 a).1 (List.mem_cons_self ..); simp at hv
      subst this
      rw [kept_nil] at hno
      exact absurd (S.blk.1 b hb).2.2 hno
     ·exact h
    obtain ⟨k1, k2, k3, k4, k5⟩ := g1 hi0
    refine ⟨k1, k2, k3, k4, fun j hj r' hr' hf => ?_⟩
    by_cases hji : j = i
    ·subst hji; rw [same r' hr'] at hf; exact absurd hf hno
    ·exact k5 j (by omega) r' hr' hf
   ·obtain ⟨D', d1, d2⟩ := costB (r := r) S hp hb (by omega)
    refine .eq d1 (.eq d2 ?_)
    have new : cB t f L pen r b = cB t f L pen r b ∧ r.Pairwise (· < ·) ∧ (∀ e ∈ r, e ∈ b) ∧ ChainE t f (kept r b) := ⟨rfl, hr.1, hrs, hyes⟩
    rcases Nat.eq_zero_or_pos i with h0 | hi0
    ·have hc0 := g0 h0
     have hlt : decide (cost < 0) = true := by rw [decide_eq_true_eq]; omega
     simp only [hlt, if_true, Option.bind_some]
     refine .ok ⟨rfl, hr.1, hrs, hyes, fun j hj r' hr' hf => ?_⟩
     have : j = i := by omega
     subst this
     rw [same r' hr']; exact le3_refl _
    ·obtain ⟨k1, k2, k3, k4, k5⟩ := g1 hi0
     have hcp := cpos d
     have hlt : decide (cost < 0) = false := by rw [decide_eq_false_iff_not]; omega
     have hdl := subset_len k2 k3
     have q1 := q3_sub (t := t) (f := f) (L := L) (pen := pen) hbd hr.1 hrs
     have q2 := q3_sub (t := t) (f := f) (L := L) (pen := pen) hbd k2 k3
     have hcond : (if (decide (cost < 0)) = true then some true else if (decide (cB t f L pen r b < cost)) = true then some true else if (cB t f L pen r b == cost) = true then if (decide ((r.length : Int) < (d.length : Int))) = true then some true else if ((r.length : Int) == (d.length : Int)) = true then (zq70 r d).bind fun r10 => some r10 else some false else some false) = some (!decide (le3 (cost, (d.length : Int), -W d) (cB t f L pen r b, (r.length : Int), -W r))) := by
      rw [hlt]
      simp only [Bool.false_eq_true, if_false]
      have hle : le3 (cost, (d.length : Int), -W d) (cB t f L pen r b, (r.length : Int), -W r) ↔ (cost < cB t f L pen r b ∨ cost = cB t f L pen r b ∧ ((d.length : Int) < (r.length : Int) ∨ (d.length : Int) = (r.length : Int) ∧ -W d ≤ -W r)) := Iff.rfl
      by_cases h1 : cB t f L pen r b < cost
      ·have : ¬ le3 (cost, (d.length : Int), -W d) (cB t f L pen r b, (r.length : Int), -W r) := fun h => by rw [hle] at h; omega
       simp only [h1, this, decide_true, decide_false, if_true, Bool.not_false]
      ·by_cases h2 : cB t f L pen r b = cost
       ·have h2b : (cB t f L pen r b == cost) = true := beq_iff_eq.2 h2
        by_cases h3 : (r.length : Int) < (d.length : Int)
        ·have : ¬ le3 (cost, (d.length : Int), -W d) (cB t f L pen r b, (r.length : Int), -W r) := fun h => by rw [hle] at h; omega
         simp only [h1, h2b, h3, this, decide_true, decide_false, Bool.false_eq_true, if_true, if_false, Bool.not_false]
        ·by_cases h4 : (r.length : Int) = (d.length : Int)
         ·have h4b : ((r.length : Int) == (d.length : Int)) = true := beq_iff_eq.2 h4
          have hs := smallS hr.1 k2 (fun x hx => h999 x (hrs x hx)) (fun x hx => h999 x (k3 x hx)) (by omega) (by omega : r.length = d.length)
          by_cases h5 : W d < W r
          ·have : ¬ le3 (cost, (d.length : Int), -W d) (cB t f L pen r b, (r.length : Int), -W r) := fun h => by rw [hle] at h; omega
           simp only [h1, h2b, h3, h4b, hs, h5, this, decide_true, decide_false, Bool.false_eq_true, if_true, if_false, Option.bind_some, Bool.not_false]
          ·have : le3 (cost, (d.length : Int), -W d) (cB t f L pen r b, (r.length : Int), -W r) := by rw [hle]; omega
           simp only [h1, h2b, h3, h4b, hs, h5, this, decide_true, decide_false, Bool.false_eq_true, if_true, if_false, Option.bind_some, Bool.not_true]
         ·have h4b : ((r.length : Int) == (d.length : Int)) = false := beq_eq_false_iff_ne.2 h4
          have : le3 (cost, (d.length : Int), -W d) (cB t f L pen r b, (r.length : Int), -W r) := by rw [hle]; omega
          simp only [h1, h2b, h3, h4b, this, decide_true, decide_false, Bool.false_eq_true, if_true, if_false, Bool.not_true]
       ·have h2b : (cB t f L pen r b == cost) = false := beq_eq_false_iff_ne.2 h2
        have : le3 (cost, (d.length : Int), -W d) (cB t f L pen r b, (r.length : Int), -W r) := by rw [hle]; omega
        simp only [h1, h2b, this, decide_true, decide_false, Bool.false_eq_true, if_false, Bool.not_true]
     refine .eq hcond ?_
     rw [k1, ← q1, ← q2]
     refine .iteN (fun hle => .ok ⟨rfl, hr.1, hrs, hyes, fun j hj r' hr' hf => ?_⟩) (fun hle => .ok ⟨rfl, k2, k3, k4, fun j hj r' hr' hf => ?_⟩)
     ·by_cases hji : j = i
      ·subst hji; rw [same r' hr']; exact le3_refl _
      ·exact le3_trans (le3_total hle) (k5 j (by omega) r' hr' hf)
     ·by_cases hji : j = i
      ·subst hji; rw [same r' hr']; exact hle
      ·exact k5 j (by omega) r' hr' hf
  ·have hi : i = 2 ^ b.length := by omega
   have := g1 (by omega)
   rw [hi] at this; exact this
 obtain ⟨⟨R, cost⟩, hr, h1, h2, h3, h4, h5⟩ := H
 simp only at h1 h2 h3 h4 h5
 refine ⟨R, ?_, h2, h3, h4, fun r hr hs hf => ?_⟩
 ·unfold zq62
  rw [hr]
  simp only [Option.bind_some, h1]
 ·obtain ⟨m, hm, hsub⟩ := subN_of hbd hr hs
  exact h5 m hm r hsub hf
end
section
variable {t : Timetable} {f : Fleet} {B : List (List Int)} {L : List Delay} {D : List Int} {pen : Int}
theorem kept_congr {C C' b : List Int} (h : ∀ e ∈ b, (e ∈ C ↔ e ∈ C')) : kept C b = kept C' b := List.filter_congr fun e he => by rw [decide_eq_decide.2 (h e he)]
theorem best_congr {S S' b : List Int} (h : ∀ e ∈ b, (e ∈ S ↔ e ∈ S')) (hb : BestB t f L pen b S) : BestB t f L pen b S' := by
 unfold BestB at hb ⊢
 rw [← kept_congr h, ← q3_congr h]
 exact hb
theorem q3s_congr {S S' : List Int} : ∀ {B : List (List Int)}, (∀ b ∈ B, ∀ e ∈ b, (e ∈ S ↔ e ∈ S')) → q3s t f L pen S B = q3s t f L pen S' B
 | [], _ => rfl
 | b :: B, h => by
  unfold q3s
  rw [q3_congr (h b (List.mem_cons_self ..)), q3s_congr fun b' hb' => h b' (List.mem_cons_of_mem _ hb')]
theorem q3s_snoc {S b : List Int} : ∀ {B : List (List Int)}, (q3s t f L pen S (B ++ [b])).1 = (q3s t f L pen S B).1 + cB t f L pen S b
 | [] => by
  show cB t f L pen S b + 0 = 0 + cB t f L pen S b
  omega
 | c :: B => by
  have := q3s_snoc (S := S) (b := b) (B := B)
  show cB t f L pen S c + (q3s t f L pen S (B ++ [b])).1 = cB t f L pen S c + (q3s t f L pen S B).1 + cB t f L pen S b
  omega
theorem unionBest (S : VS t f B L D) (hp : 0 ≤ pen ∧ pen ≤ 1000) : ∃ U, iter (zq43_L1 t f B L pen) (([] : List Int), (0 : Int), (0 : Int)) = some (U, (q3s t f L pen U B).1) ∧ CancP t U ∧ ∀ b ∈ B, BestB t f L pen b U := by
 have hT := S.ask.1
 have hBl := S.bb.1
 have disj : ∀ {i v : Nat} {b' b : List Int} {e : Int}, i < v → B[i]? = some b' → B[v]? = some b → e ∈ b' → e ∈ b → False := fun {i v b' b e} hiv hi hv he' he => by
  obtain ⟨k', hk'⟩ := List.getElem?_of_mem he'
  obtain ⟨k, hk⟩ := List.getElem?_of_mem he
  have := (S.inj _ _ _ _ _ _ _ _ hi hk' hv hk rfl).1
  omega
 have H : Tot (iter (zq43_L1 t f B L pen) (([] : List Int), (0 : Int), (0 : Int))) fun o => o.2 = (q3s t f L pen o.1 B).1 ∧ CancP t o.1 ∧ ∀ b ∈ B, BestB t f L pen b o.1 := by
  refine .iter (fun m (s : List Int × Int × Int) => ∃ v : Nat, s.2.2 = (v : Int) ∧ m + v = B.length ∧ s.1.Pairwise (· < ·) ∧ (∀ e ∈ s.1, ∃ (i : Nat) (b : List Int), i < v ∧ B[i]? = some b ∧ e ∈ b) ∧ s.2.1 = (q3s t f L pen s.1 (B.take v)).1 ∧ (0 ≤ s.2.1 ∧ s.2.1 ≤ 60000000000 * v) ∧ ∀ (i : Nat) b, i < v → B[i]? = some b → BestB t f L pen b s.1) (n := B.length) ⟨0, rfl, rfl, by simp, by simp, rfl, by simp, fun i b h => by omega⟩ ?_
  rintro m ⟨U, c, v'⟩ ⟨v, e1, hm, h1, h2, h3, h4, h5⟩
  simp only at e1 h1 h2 h3 h4 h5
  subst e1
  have hU : CancP t U := ⟨fun e he => by
   obtain ⟨i, b, _, hi, hb⟩ := h2 e he
   exact S.tri b (List.mem_of_getElem? hi) e hb, h1⟩
  have hUl := (canc_le hT hU).2
  unfold zq43_L1
  refine .iteP (fun hc => ?_) (fun hc => .dn ⟨?_, hU, fun b hb => ?_⟩)
  ·obtain ⟨b, hb⟩ := get_ex (l := B) (i := v) (by omega)
   have hbm := List.mem_of_getElem? hb
   obtain ⟨R, r1, r2, r3, r4⟩ := bestS (pen := pen) S hp hbm
   have hRl := subset_len r2 r3
   have hb12 := row_len hT S.blk hbm
   obtain ⟨V, v1, v2, v3⟩ := unionS (a := U) (b := R) h1 (by omega)
   have old : ∀ (i : Nat) c, i < v → B[i]? = some c → ∀ e ∈ c, (e ∈ U ↔ e ∈ V) := fun i c hi hic e he => by
    rw [v3 e]
    exact ⟨.inl, fun h => h.elim id fun hR => (disj hi hic hb he (r3 e hR)).elim⟩
   have new : ∀ e ∈ b, (e ∈ R ↔ e ∈ V) := fun e he => by
    rw [v3 e]
    refine ⟨.inr, fun h => h.elim (fun hu => ?_) id⟩
    obtain ⟨i, c, hi, hic, hec⟩ := h2 e hu
    exact (disj hi hic hb hec he).elim
   have hq1 : q3s t f L pen U (B.take v) = q3s t f L pen V (B.take v) := q3s_congr fun c hc e he => by
    obtain ⟨i, hi⟩ := List.getElem?_of_mem hc
    have hiv : i < v := by have := get_lt hi; rw [List.length_take] at this; omega
    rw [List.getElem?_take_of_lt hiv] at hi
    exact old i c hiv hi e he
   have hq2 : cB t f L pen R b = cB t f L pen V b := congrArg (·.1) (q3_congr (t := t) (f := f) (L := L) (pen := pen) new)
   have hcb := cSum_bd (t := t) (f := f) (L := L) (pen := pen) (C := R) hT S.ask S.dl hp (S.bb.2 b hbm) (S.tri b hbm) b.length
   rw [List.take_length] at hcb
   have hcb' : 0 ≤ cB t f L pen R b ∧ cB t f L pen R b ≤ 30000000 * 2000 := hcb
   have hw : w64 (c + cB t f L pen R b) = c + cB t f L pen R b := w64_id (by omega)
   refine .eq (ixs hb) (.eq r1 (.eq v1 (.nx ⟨m - 1, by omega, v + 1, w64_succ (by omega), by omega, v2, fun e he => ?_, ?_, ?_, fun i c hi hic => ?_⟩)))
   ·rcases (v3 e).1 he with h | h
    ·obtain ⟨i, c, q1, q2, q3⟩ := h2 e h
     exact ⟨i, c, by omega, q2, q3⟩
    ·exact ⟨v, b, by omega, hb, r3 e h⟩
   ·show w64 (c + cB t f L pen R b) = _
    rw [hw, take_succ hb, q3s_snoc, h3, hq1, hq2]
   ·show 0 ≤ w64 (c + cB t f L pen R b) ∧ w64 (c + cB t f L pen R b) ≤ _
    rw [hw]; omega
   ·by_cases hiv : i = v
    ·subst hiv
     rw [hb] at hic; cases hic
     exact best_congr new r4
    ·exact best_congr (old i c (by omega) hic) (h5 i c (by omega) hic)
  ·rw [List.take_of_length_le (by omega)] at h3; exact h3
  ·obtain ⟨i, hi⟩ := List.getElem?_of_mem hb
   exact h5 i b (by have := get_lt hi; omega) hi
 obtain ⟨⟨U, c⟩, hr, h1, h2, h3⟩ := H
 simp only at h1 h2 h3
 exact ⟨U, by rw [hr, h1], h2, h3⟩
theorem union_best (S : VS t f B L D) {U : List Int} (hU : ∀ b ∈ B, BestB t f L pen b U) : PossP t f (B.map (kept U)) ∧ ∀ C, CancP t C → PossP t f (B.map (kept C)) → le3 (q3s t f L pen U B) (q3s t f L pen C B) := by
 refine ⟨fun i b hb => ?_, fun C hc hf => q3s_le fun b hb => ?_⟩
 ·rw [List.getElem?_map] at hb
  cases h : B[i]? with
  | none => rw [h] at hb; cases hb
  | some c =>
   rw [h] at hb
   have : kept U c = b := Option.some.inj hb
   rw [← this]
   exact (hU c (List.mem_of_getElem? h)).1
 ·have hcg : ∀ e ∈ b, (e ∈ (C.filter fun e => decide (e ∈ b)) ↔ e ∈ C) := fun e he => by
   rw [List.mem_filter]
   exact ⟨fun h => h.1, fun h => ⟨h, by simpa using he⟩⟩
  have := (hU b hb).2 (C.filter fun e => decide (e ∈ b)) (hc.2.sublist List.filter_sublist) (fun e he => by simpa using (List.mem_filter.1 he).2) (by
   rw [kept_congr hcg]
   obtain ⟨i, hi⟩ := List.getElem?_of_mem hb
   exact hf i _ (by rw [List.getElem?_map, hi]; rfl))
  rw [q3_congr hcg] at this
  exact this
theorem le3_fst {a b : Int × Int × Int} (h : le3 a b) : a.1 ≤ b.1 := by unfold le3 at h; omega
theorem best_both (S : VS t f B L D) (hp : 0 ≤ pen ∧ pen ≤ 1000) : ∃ R, zq3 t f B L pen = some (R, (q3s t f L pen R B).1, true) ∧ zq43 t f B L pen = some (R, (q3s t f L pen R B).1, true) ∧ CancP t R ∧ PossP t f (B.map (kept R)) ∧ ∀ C, CancP t C → PossP t f (B.map (kept C)) → le3 (q3s t f L pen R B) (q3s t f L pen C B) := by
 have hT := S.ask.1
 obtain ⟨R, r1, r2, r3, r4⟩ := bestI (pen := pen) S hp
 obtain ⟨U, u1, u2, u3⟩ := unionBest (pen := pen) S hp
 obtain ⟨u4, u5⟩ := union_best S u3
 have h := le3_anti (r4 U u2 u4) (u5 R r2 r3)
 have h1 := (q3s_canc (t := t) (f := f) (B := B) (L := L) (pen := pen) hT S.blk r2).2
 have h2 := (q3s_canc (t := t) (f := f) (B := B) (L := L) (pen := pen) hT S.blk u2).2
 have : R = U := W_inj r2.2 u2.2 (canc_le hT r2).1 (canc_le hT u2).1 (by omega)
 subst this
 refine ⟨R, r1, ?_, r2, r3, r4⟩
 have hin : zq100 pen 0 1000 = some true := by rw [l1In_eq]; simp [hp]
 unfold zq43
 simp only [S.asked, Option.bind_some, Bool.not_true, Bool.false_eq_true, if_false, hin, u1]
theorem choice_ok (S : VS t f B L D) (hp : 0 ≤ pen ∧ pen ≤ 1000) {C : List Int} (hc : CancP t C) (hf : PossP t f (B.map (kept C))) : zq5 t f B C = some true ∧ zq4 t f B L pen C = some ((q3s t f L pen C B).1, true) := by
 have hT := S.ask.1
 have hl := (canc_le hT hc).2
 obtain ⟨v, c1, _, c3⟩ := canc_both S.tb hT (C := C) (by omega)
 have hv := c3.2 hc
 subst hv
 have hpo : zq5 t f B C = some true := by
  unfold zq5
  simp only [S.valid, c1, possI S.tb S.ask S.bb (C := C) (by omega) S.tri, hf, Option.bind_some, if_true, decide_true]
 have hd : zq13 t L = some true := by
  have := S.late
  unfold zq14 at this
  rw [S.valid] at this
  cases h : zq13 t L with
  | none => rw [h] at this; cases this
  | some w => rw [h] at this; exact this
 have hcost := (cost_all_ (pen := pen) S.tb S.ask S.blk S.bb S.dl S.ll hp (C := C) (by omega) hc).1
 refine ⟨hpo, ?_⟩
 unfold zq4
 simp only [hpo, hd, penI hp, hcost, Option.bind_some, Bool.not_true, Bool.false_eq_true, if_false]
theorem valid_of {C : List Int} (h : zq5 t f B C = some true) : zq6 t f B = some true := by
 unfold zq5 at h
 cases hv : zq6 t f B with
 | none => rw [hv] at h; cases h
 | some v =>
  cases v
  ·rw [hv] at h; cases h
  ·rfl
theorem choiceCost_both (hb : TB t) (hf : FB f) (hB : BB B) {C : List Int} (hC : C.length ≤ 1000) (hL : L.length ≤ 1000) (pen : Int) : ∃ r, zq4 t f B L pen C = some r ∧ zq44 t f B L pen C = some r ∧ (r = (0, false) ∨ (zq14 t f B L = some true ∧ (0 ≤ pen ∧ pen ≤ 1000) ∧ CancP t C ∧ PossP t f (B.map (kept C)) ∧ r = ((q3s t f L pen C B).1, true))) := by
 obtain ⟨v, g1, hv⟩ := choice_both (C := C) hb hf hB hC (L := L) hL
 rcases hv with ⟨rfl, g2⟩ | ⟨rfl, hA, hP, hcp, hpos, w, w1, w2, w3⟩
 ·refine ⟨(0, false), ?_, ?_, .inl rfl⟩
  ·unfold zq4; simp only [g1, Option.bind_some, Bool.not_false, if_true]
  ·unfold zq44; simp only [g2, Option.bind_some, Bool.not_false, if_true]
 ·cases w with
  | false =>
   refine ⟨(0, false), ?_, ?_, .inl rfl⟩
   ·unfold zq4; simp only [g1, w1, Option.bind_some, Bool.not_true, Bool.false_eq_true, if_false, Bool.not_false, if_true]
   ·unfold zq44; simp only [w2, Option.bind_some, Bool.not_false, if_true]
  | true =>
   by_cases hp : 0 ≤ pen ∧ pen ≤ 1000
   ·obtain ⟨c1, c2, _⟩ := cost_all_ (pen := pen) hb hA hP hB (w3 rfl) hL hp hC hcp
    have hin : zq100 pen 0 1000 = some true := by rw [l1In_eq]; simp [hp]
    have hlate : zq14 t f B L = some true := by
     unfold zq14
     simp only [valid_of g1, w1, Option.bind_some, if_true]
    refine ⟨_, ?_, ?_, .inr ⟨hlate, hp, hcp, hpos, rfl⟩⟩
    ·unfold zq4; simp only [g1, w1, penI hp, c1, Option.bind_some, Bool.not_true, Bool.false_eq_true, if_false]
    ·unfold zq44; simp only [w2, hin, c2, Option.bind_some, Bool.not_true, Bool.false_eq_true, if_false]
   ·have hpn : zq27 pen = some false := by unfold zq27; rw [within_eq]; simp [hp]
    have hin : zq100 pen 0 1000 = some false := by rw [l1In_eq]; simp [hp]
    refine ⟨(0, false), ?_, ?_, .inl rfl⟩
    ·unfold zq4; simp only [g1, w1, hpn, Option.bind_some, Bool.not_true, Bool.false_eq_true, if_false, Bool.not_false, if_true]
    ·unfold zq44; simp only [w2, hin, Option.bind_some, Bool.not_true, Bool.false_eq_true, if_false, Bool.not_false, if_true]
theorem totN_range (t : Timetable) (D : List Int) : ∀ k, ((List.range k).map fun p => D.getD p 0 * stp t p).sum = totN t D k
 | 0 => rfl
 | k + 1 => by rw [rsum_succ, totN_range t D k]; rfl
theorem none_cost (S : VS t f B L D) : (q3s t f L pen [] B).1 = totN t D D.length := by
 have hT := S.ask.1
 have hg : ∀ b ∈ B, ∀ e ∈ b, cE t f L pen [] b e = (fun p => D.getD p 0 * stp t p) (tix t e).toNat := fun b hb e he => by
  obtain ⟨i, hi⟩ := List.getElem?_of_mem hb
  have hlt := List.idxOf_lt_length_of_mem he
  have hk : b[b.idxOf e]? = some e := by rw [List.getElem?_eq_getElem hlt, List.getElem_idxOf hlt]
  have hd := S.del.2.1 i b _ e hi hk (.inl (get_lt hi))
  unfold cE
  rw [if_neg (by simp), kept_nil]
  simp only
  rw [getD0 hd]
 rw [q3s_fst (g := fun e => (fun p => D.getD p 0 * stp t p) (tix t e).toNat) hg, S.del.1, ← totN_range, ← perm_sum ((flat_perm hT S.blk).map fun p => D.getD p 0 * stp t p), List.map_map]
 rfl
end
theorem draw_recovery (code : List UInt8) : Tot (zq45 code) fun r => DT r.1 ∧ FB r.2.1 ∧ BB r.2.2.1 ∧ r.2.2.2.1.length ≤ 31 ∧ r.2.2.2.2.2.length ≤ 31 := by
 unfold zq45
 refine .call (planned_ok (cur0 code) (by omega)) fun r ⟨hc, hd, hf, hB⟩ => .call (delays_draw hc (by omega) hd) fun r3 ⟨hc3, hl⟩ => .call (P := fun o => Cur (0 + 4000000 + 1000 + 2) o.2) ?_ fun r5 hc5 => .call (draw_choice hc5 (by omega) hd) fun r4 ⟨_, hl4⟩ => .ok ⟨hd, hf, hB, hl, hl4⟩
 unfold zq92
 exact .call (t_among _ (by simp) hc3 (by omega)) fun r ⟨h, _⟩ => .ok h
theorem recovery_true (code : List UInt8) : v_FnRecovery code = some true := by
 unfold v_FnRecovery
 rw [vBig_eq]
 simp only [Option.bind_some]
 split
 ·rfl
 ·obtain ⟨⟨t, f, B, L, pen, C⟩, hr, hd, hf, hB, hL, hC⟩ := draw_recovery code
  simp only at hd hf hB hL hC
  have hb := hd.tb
  obtain ⟨r, q1, q2, q3⟩ := choiceCost_both (C := C) hb hf hB (by omega) (L := L) (by omega) pen
  rw [hr]
  simp only [Option.bind_some]
  have bad : zq3 t f B L pen = some ([], 0, false) → zq43 t f B L pen = some ([], 0, false) → r = (0, false) → ∀ k : _ → _ → _ → _, ((zq3 t f B L pen).bind fun r2 => (zq43 t f B L pen).bind fun r3 => (if (!(r2.2.2 == r3.2.2)) = true then some true else if (r2.2.1 != r3.2.1) = true then some true else (zq132 r2.1 r3.1).bind fun r4 => some (!r4)).bind fun (v : Bool) => if v = true then some false else (zq4 t f B L pen C).bind fun r5 => (zq44 t f B L pen C).bind fun r6 => (if (r5.1 != r6.1) = true then some true else if (!(r5.2 == r6.2)) = true then some true else if r5.2 = true then some (decide (r5.1 < r2.2.1)) else some false).bind fun (v1 : Bool) => if v1 = true then some false else if (!r2.2.2) = true then some ((r2.1.length : Int) == 0) else k r2 r5 r6) = some true := fun e1 e2 e3 k => by
   rw [e1, e2, q1, q2, e3]
   simp only [Option.bind_some, beq_self_eq_true, bne_self_eq_false, Bool.not_true, Bool.false_eq_true, if_false, vInts_refl [] (by simp), Bool.not_false, if_true]
   rfl
  rcases vs_or (L := L) hb hf hB (by omega) with ⟨g1, g2⟩ | ⟨D, S⟩
  ·refine bad ?_ ?_ ?_ _
   ·unfold zq3; simp only [g1, Option.bind_some, Bool.not_false, if_true]
   ·unfold zq43; simp only [g2, Option.bind_some, Bool.not_false, if_true]
   ·rcases q3 with h | ⟨h, _⟩
    ·exact h
    ·rw [g1] at h; cases h
  ·by_cases hp : 0 ≤ pen ∧ pen ≤ 1000
   ·obtain ⟨R, r1, r2, r3, r4, r5⟩ := best_both (pen := pen) S hp
    have hRl := canc_le S.ask.1 r3
    have hnil : CancP t [] := ⟨by simp, by simp⟩
    obtain ⟨a1, a2⟩ := choice_ok (pen := pen) S hp r3 r4
    obtain ⟨b1, b2⟩ := choice_ok (pen := pen) S hp hnil (feas_nil S.blk)
    have hle := le3_fst (r5 [] hnil (feas_nil S.blk))
    have htot : zq10 t f B L = some (totN t D D.length, true) := by
     unfold zq10
     simp only [S.late, Option.bind_some, Bool.not_true, Bool.false_eq_true, if_false, S.eI, totI S.ask.1 S.del.1 (fun p d hd => S.bd hd)]
    rw [none_cost S] at b2 hle
    have hdraw : (if (r.1 != r.1) = true then some true else if (!(r.2 == r.2)) = true then some true else if r.2 = true then some (decide (r.1 < (q3s t f L pen R B).1)) else some false) = some false := by
     simp only [bne_self_eq_false, beq_self_eq_true, Bool.not_true, Bool.false_eq_true, if_false]
     rcases q3 with rfl | ⟨_, _, hc, hf', rfl⟩
     ·rfl
     ·have := le3_fst (r5 C hc hf')
      have : ¬ (q3s t f L pen C B).1 < (q3s t f L pen R B).1 := by omega
      simp only [if_true, this, decide_false]
    simp only [r1, r2, Option.bind_some, beq_self_eq_true, bne_self_eq_false, Bool.not_true, Bool.false_eq_true, if_false, vInts_refl R (by omega), q1, q2]
    simp only [bne_self_eq_false, beq_self_eq_true, Bool.not_true, Bool.false_eq_true, if_false] at hdraw
    rw [hdraw]
    simp only [Option.bind_some, Bool.false_eq_true, if_false, a1, a2, b2, htot, beq_self_eq_true, if_true, hle, decide_true]
   ·have hpn : zq27 pen = some false := by unfold zq27; rw [within_eq]; simp [hp]
    have hin : zq100 pen 0 1000 = some false := by rw [l1In_eq]; simp [hp]
    refine bad ?_ ?_ ?_ _
    ·unfold zq3; simp only [S.late, hpn, Option.bind_some, Bool.not_true, Bool.false_eq_true, if_false, Bool.not_false, if_true]
    ·unfold zq43; simp only [S.asked, hin, Option.bind_some, Bool.not_true, Bool.false_eq_true, if_false, Bool.not_false, if_true]
    ·rcases q3 with h | ⟨_, h, _⟩
     ·exact h
     ·exact absurd h hp
end Go.Proofs.YtaegkodcjpgndaaGreat
