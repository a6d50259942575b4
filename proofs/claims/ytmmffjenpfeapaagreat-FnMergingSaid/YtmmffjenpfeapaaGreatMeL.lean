/- The plain law: what the models compute, no program in sight. -/
import Derived.Test.YtmmffjenpfeapaaGreatMeM
import Derived.Test.YtmmffjenpfeapaaGreatAbPdq6
namespace Go.Proofs.YtmmffjenpfeapaaGreat
open Go Go.Ab
set_option maxHeartbeats 4000000
set_option linter.unusedVariables false
set_option linter.unusedSimpArgs false
theorem qb {α β : Type} (a : α) (f : α -> Option β) : (some a).bind f = f a := rfl
def Cur (k : Nat) (c : l1Cur) : Prop := 0 <= c.at_ /\ c.at_ <= k
theorem Cur.mono {k k' : Nat} {c : l1Cur} (h : Cur k c) (hk : k <= k') : Cur k' c := ⟨h.1, by have := h.2; omega⟩
theorem ylm {k : Nat} {c : l1Cur} (h : Cur k c) (hk : k <= 4000000000) : ∃ r, zq52 c = some r /\ Cur (k + 1) r.2 /\ 0 <= r.1 /\ r.1 <= 255 := by
 obtain ⟨h0, h1⟩ := h
 have hw : w64 (c.at_ + 1) = c.at_ + 1 := jai (by omega)
 have hcur : ∀ s, Cur (k + 1) ⟨c.code_, w64 (c.at_ + 1), s⟩ := fun s => by rw [hw]; exact ⟨by show 0 <= c.at_ + 1; omega, by show c.at_ + 1 <= _; omega⟩
 unfold zq52
 have hv : ∃ v, (if (decide (c.at_ < (c.code_.length : Int))) = true then (idx c.code_ c.at_).bind fun e1 => some (w64 ((e1.toNat : Int))) else some 0) = some v /\ 0 <= v /\ v <= 255 := by
  by_cases hlt : c.at_ < c.code_.length
  ·obtain ⟨x, hx, _, _⟩ := jds h0 hlt
   have := x.toNat_lt
   refine ⟨(x.toNat : Int), ?_, by omega, by omega⟩
   simp only [hlt, decide_true, if_true, hx, qb]
   rw [jai (by omega)]
  ·exact ⟨0, by simp [hlt], by omega, by omega⟩
 obtain ⟨v, hv, hv0, hv1⟩ := hv
 rw [hv]
 simp only [qb]
 split
 ·exact ⟨_, rfl, hcur _, hv0, hv1⟩
 ·rw [jaq (by omega)]
  exact ⟨_, rfl, hcur _, jup _⟩
theorem yab {k : Nat} {c : l1Cur} (n : Int) (h : Cur k c) (hk : k <= 3000000000) : ∃ r, zq56 c n = some r /\ Cur (k + 2) r.2 /\ 0 <= r.1 /\ (r.1 < n \/ r.1 = 0) := by
 unfold zq56
 by_cases hn : n <= 1
 ·exact ⟨(0, c), by simp [hn], h.mono (by omega), by simp, .inr rfl⟩
 ·obtain ⟨r, hr, hc, h0, h1⟩ := ylm h (by omega)
  have hn' : decide (n <= 1) = false := by simpa using hn
  simp only [hn', Bool.false_eq_true, if_false, hr, qb]
  have hne : chk (n ≠ 0) = some () := jaq (by omega)
  by_cases h2 : 200 < n
  ·obtain ⟨r', hr', hc', h0', h1'⟩ := ylm hc (by omega)
   have e1 : w64 (r.1 * 256) = r.1 * 256 := jai (by omega)
   have e2 : w64 (r.1 * 256 + r'.1) = r.1 * 256 + r'.1 := jai (by omega)
   have h3 := jjl (a := r.1 * 256 + r'.1) (b := n) (by omega) (by omega)
   simp only [h2, decide_true, if_true, hr', qb, hne, e1, e2]
   exact ⟨_, rfl, hc'.mono (by omega), h3.1, .inl h3.2⟩
  ·have h2' : decide (200 < n) = false := by simpa using h2
   have h3 := jjl (a := r.1) (b := n) (by omega) (by omega)
   simp only [h2', Bool.false_eq_true, if_false, qb, hne]
   exact ⟨_, rfl, hc.mono (by omega), h3.1, .inl h3.2⟩
theorem ych {k : Nat} {c : l1Cur} (l : List Int) (hl : l ≠ []) (h : Cur k c) (hk : k <= 3000000000) : ∃ r, zq44 c l = some r /\ Cur (k + 2) r.2 /\ r.1 ∈ l := by
 unfold zq44
 obtain ⟨r, hr, hc, h0, h1⟩ := yab (l.length : Int) h hk
 have hpos : 0 < l.length := List.length_pos_iff.2 hl
 obtain ⟨x, hx, _, hm⟩ := jds (l := l) h0 (by omega)
 simp only [hr, qb, hx]
 exact ⟨_, rfl, hc, hm⟩
theorem ydx {k : Nat} {c : l1Cur} (l : List Int) (hl : l ≠ []) (h : Cur k c) (hk : k <= 3000000000) : ∃ r, zq43 c l = some r /\ Cur (k + 2) r.2 /\ r.1 ∈ l := by
 have : zq43 c l = zq44 c l := rfl
 rw [this]; exact ych l hl h hk
theorem yll {k : Nat} {c : l1Cur} (n : Int) (h : Cur k c) (hk : k <= 3000000000) : ∃ r, zq55 c n = some r /\ Cur (k + 2) r.2 := by
 unfold zq55
 obtain ⟨r, hr, hc, _, _⟩ := yab n h hk
 simp only [hr, qb]
 exact ⟨_, rfl, hc⟩
theorem ysd {k : Nat} {c : l1Cur} (l : List ByteArray) (hl : l ≠ []) (h : Cur k c) (hk : k <= 3000000000) : ∃ r, zq53 c l = some r /\ Cur (k + 2) r.2 /\ r.1 ∈ l := by
 unfold zq53
 obtain ⟨r, hr, hc, h0, h1⟩ := yab (l.length : Int) h hk
 have hpos : 0 < l.length := List.length_pos_iff.2 hl
 obtain ⟨x, hx, _, hm⟩ := jds (l := l) h0 (by omega)
 simp only [hr, qb, hx]
 exact ⟨_, rfl, hc, hm⟩
theorem yof {k : Nat} {c : l1Cur} (l : List ByteArray) (hl : l ≠ []) (h : Cur k c) (hk : k <= 3000000000) : ∃ r, zq54 c l = some r /\ Cur (k + 2) r.2 /\ r.1 ∈ l := by
 have : zq54 c l = zq53 c l := rfl
 rw [this]; exact ysd l hl h hk
theorem cur0 (code : List UInt8) : Cur 0 ⟨code, 0, ⟨0⟩⟩ := ⟨by show (0 : Int) <= 0; omega, by show (0 : Int) <= _; omega⟩
theorem ya2 (n lo hi : Int) : zq34 n lo hi = some (decide (lo <= n /\ n <= hi)) := by
 unfold zq34
 by_cases h : lo <= n <;> simp [h]
theorem ya0 (n lo hi : Int) : zq60 n lo hi = some (decide (lo <= n /\ n <= hi)) := by
 unfold zq60
 by_cases h : lo <= n <;> simp [h]
def ChOK (i : Nat) (c : UInt8) : Prop := (97 <= (c.toNat : Int) /\ (c.toNat : Int) <= 122) \/ (i ≠ 0 /\ 48 <= (c.toNat : Int) /\ (c.toNat : Int) <= 57)
def yac (s : ByteArray) : Prop := (1 <= s.size /\ s.size <= 8) /\ ∀ (i : Nat) c, s.data.toList[i]? = some c -> ChOK i c
open Classical in
noncomputable instance (s : ByteArray) : Decidable (yac s) := Classical.propDecidable _
theorem yed (s : ByteArray) : s.data.toList.length = s.size := by simp
theorem yga {α : Type} {l : List α} {i : Nat} {x d : α} (h : l[i]? = some x) : l.getD i d = x := by rw [List.getD_eq_getElem?_getD, h]; rfl
theorem ylu (s : ByteArray) : zq24 s = some (decide (yac s)) := by
 unfold zq24
 by_cases h1 : 1 <= s.size /\ s.size <= 8
 ·have e1 : decide ((s.size : Int) < 1) = false := by simp; omega
  have e2 : decide (8 < (s.size : Int)) = false := by simp; omega
  simp only [e1, e2, Bool.false_eq_true, if_false, qb]
  have hsz := yed s
  have key := Go.Ab.all_loop s.data.toList ChOK (step := yb1 s) ?_ ?_ 0 0 rfl (by omega)
  ·rcases key with ⟨g1, g2⟩ | ⟨g1, g2⟩
   ·rw [g1, jct]
    have : yac s := ⟨h1, fun i c hc => g2 i c (by omega) hc⟩
    simp [this]
   ·rw [g1, jcm]
    have : ¬ yac s := fun hn => g2 fun i c _ hc => hn.2 i c hc
    simp [this]
  ·intro i x hx
   have hi := (List.getElem?_eq_some_iff.1 hx).1
   have hg : s.data.toList.getD (i : Int).toNat 0 = x := by rw [Int.toNat_natCast]; exact yga hx
   have hc : chk ((0 : Int) <= (i : Int) /\ (i : Int) < (s.size : Int)) = some () := jaq (by omega)
   have hlt : decide ((i : Int) < (s.size : Int)) = true := by simp; omega
   unfold yb1
   simp only [hlt, if_true, hc, hg, qb, jak (n := i) (by omega)]
   unfold ChOK
   by_cases a1 : (97 : Int) <= (x.toNat : Int)
   ·by_cases a2 : (x.toNat : Int) <= 122
    ·left; refine ⟨by simp [a1, a2], .inl ⟨a1, a2⟩⟩
    ·right
     refine ⟨?_, by omega⟩
     have b1 : decide ((x.toNat : Int) < 48) = false := by simp; omega
     have b2 : decide ((57 : Int) < (x.toNat : Int)) = true := by simp; omega
     have c1 : ¬ (x.toNat : Int) < 48 := by omega
     have c2 : (57 : Int) < (x.toNat : Int) := by omega
     by_cases hi0 : i = 0
     ·simp [a1, a2, hi0]
     ·have hi0' : ((i : Int) == 0) = false := by simp; omega
      simp [a1, a2, hi0', c1, c2]
   ·by_cases hi0 : i = 0
    ·right
     refine ⟨by simp [a1, hi0], by omega⟩
    ·have hi0' : ((i : Int) == 0) = false := by simp; omega
     by_cases b1 : (x.toNat : Int) < 48
     ·right
      refine ⟨by simp [a1, hi0', b1], by omega⟩
     ·by_cases b2 : (57 : Int) < (x.toNat : Int)
      ·right
       refine ⟨by simp [a1, hi0', b1, b2], by omega⟩
      ·left
       refine ⟨by simp [a1, hi0', b1, b2], .inr ⟨hi0, by omega, by omega⟩⟩
  ·unfold yb1
   rw [hsz]
   simp
 ·have : ¬ yac s := fun h => h1 h.1
  have e : (if (decide ((s.size : Int) < 1)) = true then some true else some (decide (8 < (s.size : Int)))) = some true := by
   by_cases h2 : s.size < 1
   ·have : decide ((s.size : Int) < 1) = true := by simp; omega
    simp [this]
   ·have e1 : decide ((s.size : Int) < 1) = false := by simp; omega
    have e2 : decide (8 < (s.size : Int)) = true := by simp; omega
    simp [e1, e2]
  rw [e]
  simp [this]
theorem yej (s : ByteArray) : zq76 s = some (decide (yac s)) := by
 unfold zq76
 rw [ya0]
 simp only [qb]
 by_cases h1 : 1 <= s.size /\ s.size <= 8
 ·have e1 : decide ((1 : Int) <= (s.size : Int) /\ (s.size : Int) <= 8) = true := by simp; omega
  have hsz := yed s
  obtain ⟨x0, hx0⟩ := ja8 (l := s.data.toList) (i := 0) (by omega)
  have hg0 : s.data.toList.getD (0 : Int).toNat 0 = x0 := yga hx0
  have hc0 : chk ((0 : Int) <= 0 /\ 0 < (s.size : Int)) = some () := jaq (by omega)
  simp only [e1, Bool.not_true, Bool.false_eq_true, if_false, hc0, hg0, qb]
  by_cases a0 : 97 <= (x0.toNat : Int) /\ (x0.toNat : Int) <= 122
  ·have b1 : decide ((x0.toNat : Int) < 97) = false := by simp; omega
   have b2 : decide ((122 : Int) < (x0.toNat : Int)) = false := by simp; omega
   simp only [b1, b2, Bool.false_eq_true, if_false, qb]
   have key := Go.Ab.all_loop s.data.toList ChOK (step := ybv s) ?_ ?_ 0 0 rfl (by omega)
   ·rcases key with ⟨g1, g2⟩ | ⟨g1, g2⟩
    ·rw [g1, jct]
     have : yac s := ⟨h1, fun i c hc => g2 i c (by omega) hc⟩
     simp [this]
    ·rw [g1, jcm]
     have : ¬ yac s := fun hn => g2 fun i c _ hc => hn.2 i c hc
     simp [this]
   ·intro i x hx
    have hi := (List.getElem?_eq_some_iff.1 hx).1
    have hg : s.data.toList.getD (i : Int).toNat 0 = x := by rw [Int.toNat_natCast]; exact yga hx
    have hc : chk ((0 : Int) <= (i : Int) /\ (i : Int) < (s.size : Int)) = some () := jaq (by omega)
    have hlt : decide ((i : Int) < (s.size : Int)) = true := by simp; omega
    have h0 : i = 0 -> x = x0 := fun h => by subst h; rw [hx0] at hx; cases hx; rfl
    unfold ybv
    simp only [hlt, if_true, hc, hg, qb, jak (n := i) (by omega)]
    unfold ChOK
    by_cases a1 : (x.toNat : Int) < 97
    ·have hi0 : i ≠ 0 := fun h => by have := h0 h; subst this; omega
     by_cases c1 : (x.toNat : Int) < 48
     ·right; refine ⟨by simp [a1, c1], by omega⟩
     ·by_cases c2 : (57 : Int) < (x.toNat : Int)
      ·right; refine ⟨by simp [a1, c1, c2], by omega⟩
      ·left; refine ⟨by simp [a1, c1, c2], .inr ⟨hi0, by omega, by omega⟩⟩
    ·by_cases a2 : (122 : Int) < (x.toNat : Int)
     ·right
      have c1 : ¬ (x.toNat : Int) < 48 := by omega
      have c2 : (57 : Int) < (x.toNat : Int) := by omega
      refine ⟨by simp [a1, a2, c1, c2], by omega⟩
     ·left; refine ⟨by simp [a1, a2], .inl ⟨by omega, by omega⟩⟩
   ·unfold ybv
    rw [hsz]
    simp
  ·have : ¬ yac s := fun hn => by
    have := hn.2 0 x0 hx0
    unfold ChOK at this
    omega
   have e : (if (decide ((x0.toNat : Int) < 97)) = true then some true else some (decide ((122 : Int) < (x0.toNat : Int)))) = some true := by
    by_cases h2 : (x0.toNat : Int) < 97
    ·simp [h2]
    ·have : (122 : Int) < (x0.toNat : Int) := by omega
     simp [h2, this]
   rw [e]
   simp [this]
 ·have e1 : decide ((1 : Int) <= (s.size : Int) /\ (s.size : Int) <= 8) = false := by simp; omega
  have : ¬ yac s := fun h => h1 h.1
  simp [e1, this]
theorem yek (l : List ByteArray) (hl : l.length <= 4000000000) (v : ByteArray) : yi3 l v = some (fixI (fun e => v.toList == e.toList) l) := by
 unfold yi3
 refine jcq l (fun e => v.toList == e.toList) (fun i x hx => ?_) (by unfold ybm; simp)
 have hi := (List.getElem?_eq_some_iff.1 hx).1
 unfold ybm
 have hlt : decide ((i : Int) < (l.length : Int)) = true := by simp; omega
 simp only [hlt, if_true, jaz, hx, qb, jak (n := i) (by omega)]
 split <;> rfl
theorem ybi (l : List Int) (hl : l.length <= 4000000000) (v : Int) : yf2 l v = some (fixI (fun e => v == e) l) := by
 unfold yf2
 refine jcq l (fun e => v == e) (fun i x hx => ?_) (by unfold ybn; simp)
 have hi := (List.getElem?_eq_some_iff.1 hx).1
 unfold ybn
 have hlt : decide ((i : Int) < (l.length : Int)) = true := by simp; omega
 simp only [hlt, if_true, jaz, hx, qb, jak (n := i) (by omega)]
 split <;> rfl
theorem ybe (x : Line) (hl : x.Stops.length <= 4000000000) (v : Int) : zq79 x v = some (fixI (fun e => v == e) x.Stops) := by
 have hc : fixI (fun e => v == e) x.Stops = fixI (fun e => e == v) x.Stops := jf9 _ fun e => BEq.comm
 rw [hc]
 unfold zq79
 refine jcq x.Stops (fun e => e == v) (fun i y hx => ?_) (by unfold ycs; simp)
 have hi := (List.getElem?_eq_some_iff.1 hx).1
 unfold ycs
 have hlt : decide ((i : Int) < (x.Stops.length : Int)) = true := by simp; omega
 simp only [hlt, if_true, jaz, hx, qb, jak (n := i) (by omega)]
 split <;> rfl
theorem yl9 (a b : List UInt8) : (a == b) = (b == a) := BEq.comm
theorem ylr (l : List ByteArray) (hl : l.length <= 4000000000) (v : ByteArray) : zq72 l v = some (fixI (fun e => v.toList == e.toList) l) := by
 rw [jf9 l (q := fun e => e.toList == v.toList) fun e => yl9 _ _]
 unfold zq72
 refine jcq l (fun e => e.toList == v.toList) (fun i x hx => ?_) (by unfold ycz; simp)
 have hi := (List.getElem?_eq_some_iff.1 hx).1
 unfold ycz
 have hlt : decide ((i : Int) < (l.length : Int)) = true := by simp; omega
 simp only [hlt, if_true, jaz, hx, qb, jak (n := i) (by omega)]
 split <;> rfl
theorem yci (n : Network) (hl : n.Lines.length <= 4000000000) (v : ByteArray) : zq75 n v = some (fixI (fun e => v.toList == e.toList) (n.Lines.map (·.Name))) := by
 rw [jrv, jf9 n.Lines (q := fun e => e.Name.toList == v.toList) fun e => yl9 _ _]
 unfold zq75
 refine jcq n.Lines (fun e => e.Name.toList == v.toList) (fun i x hx => ?_) (by unfold ycu; simp)
 have hi := (List.getElem?_eq_some_iff.1 hx).1
 unfold ycu
 have hlt : decide ((i : Int) < (n.Lines.length : Int)) = true := by simp; omega
 simp only [hlt, if_true, jaz, hx, qb, jak (n := i) (by omega)]
 split <;> rfl
def ybj (l : List ByteArray) : Prop := ∀ (i : Nat) x, l[i]? = some x -> yac x /\ fixI (fun e => x.toList == e.toList) l = (i : Int)
def yag (st : Nat) (x : Line) : Prop := (2 <= x.Stops.length /\ x.Stops.length <= 6) /\ (x.Runs.length : Int) = (x.Stops.length : Int) - 1 /\
 (∀ (i : Nat) e, x.Stops[i]? = some e -> (0 <= e /\ e < (st : Int)) /\ fixI (fun y => e == y) x.Stops = (i : Int)) /\ ∀ (i : Nat) r, x.Runs[i]? = some r -> 1 <= r /\ r <= 60
def Good (n : Network) : Prop := (2 <= n.Stops.length /\ n.Stops.length <= 8) /\ (1 <= n.Lines.length /\ n.Lines.length <= 5) /\ ybj n.Stops /\ ybj (n.Lines.map (·.Name)) /\ ∀ (i : Nat) x, n.Lines[i]? = some x -> yag n.Stops.length x
noncomputable instance (l : List ByteArray) : Decidable (ybj l) := Classical.propDecidable _
noncomputable instance (st : Nat) (x : Line) : Decidable (yag st x) := Classical.propDecidable _
noncomputable instance (n : Network) : Decidable (Good n) := Classical.propDecidable _
def Bd (n : Network) : Prop := n.Stops.length <= 1000 /\ n.Lines.length <= 1000 /\ ∀ x ∈ n.Lines, x.Stops.length <= 1000 /\ x.Runs.length <= 1000
theorem ycf (l : List ByteArray) (hl : l.length <= 1000) : zq11 l = some (decide (ybj l)) := by
 unfold zq11
 rw [jd8 (hd := Classical.propDecidable _) l (fun i x => yac x /\ fixI (fun e => x.toList == e.toList) l = (i : Int)) (fun i x hx => ?_) (by unfold ydn; simp)]
 ·by_cases h : ybj l
  ·rw [if_pos (show ∀ (i : Nat) x, l[i]? = some x -> yac x /\ fixI (fun e => x.toList == e.toList) l = (i : Int) from h)]; simp [h]
  ·rw [if_neg (show ¬ ∀ (i : Nat) x, l[i]? = some x -> yac x /\ fixI (fun e => x.toList == e.toList) l = (i : Int) from h)]; simp [h]
 ·have hi := (List.getElem?_eq_some_iff.1 hx).1
  unfold ydn
  have hlt : decide ((i : Int) < (l.length : Int)) = true := by simp; omega
  simp only [hlt, if_true, jaz, hx, qb, ylu, yek l (by omega), jak (n := i) (by omega)]
  by_cases h1 : yac x
  ·by_cases h2 : fixI (fun e => x.toList == e.toList) l = (i : Int)
   ·left; simp [h1, h2]
   ·right; simp [h1, h2]
  ·right; simp [h1]
theorem yeg (n : Network) (hl : n.Lines.length <= 1000) : zq27 n = some (n.Lines.map (·.Name)) := by
 unfold zq27
 rw [jaq (by omega)]
 simp only [qb]
 rw [jlc (fun x : Line => x.Name) n.Lines _ (by simp) (fun i a x y ha hy hx => ?_) (fun a ha => ?_)]
 ·rfl
 ·have hi := (List.getElem?_eq_some_iff.1 hx).1
  unfold yda
  have hlt : decide ((i : Int) < (n.Lines.length : Int)) = true := by simp; omega
  simp only [hlt, if_true, jaz, hx, hy, qb, jak (n := i) (by omega), Int.toNat_natCast]
 ·unfold yda; simp
theorem ylt (n : Network) (e : Int) : zq25 n e = some (decide (0 <= e /\ e < (n.Stops.length : Int))) := by
 unfold zq25
 by_cases h : 0 <= e <;> simp [h]
theorem ylv (n : Network) (e : Int) : zq23 n e = some (decide (0 <= e /\ e < (n.Lines.length : Int))) := by
 unfold zq23
 by_cases h : 0 <= e <;> simp [h]
theorem ycj (n : Network) (l : Line) (h1 : l.Stops.length <= 1000) (h2 : l.Runs.length <= 1000) : zq26 n l = some (decide (yag n.Stops.length l)) := by
 unfold zq26
 rw [ya2]
 have e0 : w64 ((l.Stops.length : Int) - 1) = (l.Stops.length : Int) - 1 := jai (by omega)
 simp only [qb, e0]
 by_cases a1 : 2 <= l.Stops.length /\ l.Stops.length <= 6
 ·have d1 : decide ((2 : Int) <= (l.Stops.length : Int) /\ (l.Stops.length : Int) <= 6) = true := by simp; omega
  simp only [d1, Bool.not_true, Bool.false_eq_true, if_false]
  by_cases a2 : (l.Runs.length : Int) = (l.Stops.length : Int) - 1
  ·have d2 : ((l.Runs.length : Int) != (l.Stops.length : Int) - 1) = false := by simp [a2]
   simp only [d2, qb, Bool.false_eq_true, if_false]
   rw [jd8 (hd := Classical.propDecidable _) l.Stops (fun i e => (0 <= e /\ e < (n.Stops.length : Int)) /\ fixI (fun y => e == y) l.Stops = (i : Int)) (fun i x hx => ?_) (by unfold ydc; simp)]
   ·rw [jd8 (hd := Classical.propDecidable _) l.Runs (fun i r => 1 <= r /\ r <= 60) (fun i x hx => ?_) (by unfold ydb; simp)]
    ·by_cases b1 : ∀ (i : Nat) e, l.Stops[i]? = some e -> (0 <= e /\ e < (n.Stops.length : Int)) /\ fixI (fun y => e == y) l.Stops = (i : Int)
     ·rw [if_pos b1]
      by_cases b2 : ∀ (i : Nat) r, l.Runs[i]? = some r -> 1 <= r /\ r <= 60
      ·rw [if_pos b2]
       have : yag n.Stops.length l := ⟨a1, a2, b1, b2⟩
       simp [this]
      ·rw [if_neg b2]
       have : ¬ yag n.Stops.length l := fun h => b2 h.2.2.2
       simp [this]
     ·rw [if_neg b1]
      have : ¬ yag n.Stops.length l := fun h => b1 h.2.2.1
      simp [this]
    ·have hi := (List.getElem?_eq_some_iff.1 hx).1
     unfold ydb
     have hlt : decide ((i : Int) < (l.Runs.length : Int)) = true := by simp; omega
     simp only [hlt, if_true, jaz, hx, qb, ya2, jak (n := i) (by omega)]
     by_cases b : 1 <= x /\ x <= 60
     ·left; simp [b]
     ·right; simp [b]
   ·have hi := (List.getElem?_eq_some_iff.1 hx).1
    unfold ydc
    have hlt : decide ((i : Int) < (l.Stops.length : Int)) = true := by simp; omega
    simp only [hlt, if_true, jaz, hx, qb, ylt, ybi l.Stops (by omega), jak (n := i) (by omega)]
    by_cases b1 : 0 <= x /\ x < (n.Stops.length : Int)
    ·by_cases b2 : fixI (fun y => x == y) l.Stops = (i : Int)
     ·left; simp [b1, b2]
     ·right; simp [b1, b2]
    ·right; simp [b1]
  ·have d2 : ((l.Runs.length : Int) != (l.Stops.length : Int) - 1) = true := by simp [a2]
   have : ¬ yag n.Stops.length l := fun h => a2 h.2.1
   simp [d2, this]
 ·have d1 : decide ((2 : Int) <= (l.Stops.length : Int) /\ (l.Stops.length : Int) <= 6) = false := by simp; omega
  have : ¬ yag n.Stops.length l := fun h => a1 h.1
  simp [d1, this]
theorem ylq (l : Line) (st : Nat) (hst : st <= 1000) (h1 : l.Stops.length <= 1000) (h2 : l.Runs.length <= 1000) : zq74 l (st : Int) = some (decide (yac l.Name /\ yag st l)) := by
 unfold zq74
 rw [yej]
 have e0 : w64 ((l.Stops.length : Int) - 1) = (l.Stops.length : Int) - 1 := jai (by omega)
 have e1 : w64 ((st : Int) - 1) = (st : Int) - 1 := jai (by omega)
 simp only [qb, e0, ya0]
 by_cases a0 : yac l.Name
 ·simp only [a0, decide_true, Bool.not_true, Bool.false_eq_true, if_false, true_and]
  by_cases a1 : 2 <= l.Stops.length /\ l.Stops.length <= 6
  ·have d1 : decide ((2 : Int) <= (l.Stops.length : Int) /\ (l.Stops.length : Int) <= 6) = true := by simp; omega
   simp only [d1, Bool.not_true, Bool.false_eq_true, if_false]
   by_cases a2 : (l.Runs.length : Int) = (l.Stops.length : Int) - 1
   ·have d2 : ((l.Runs.length : Int) != (l.Stops.length : Int) - 1) = false := by simp [a2]
    simp only [d2, qb, Bool.false_eq_true, if_false]
    rw [jd8 (hd := Classical.propDecidable _) l.Stops (fun i e => (0 <= e /\ e < (st : Int)) /\ fixI (fun y => e == y) l.Stops = (i : Int)) (fun i x hx => ?_) (by unfold ycw; simp)]
    ·rw [jd8 (hd := Classical.propDecidable _) l.Runs (fun i r => 1 <= r /\ r <= 60) (fun i x hx => ?_) (by unfold ycv; simp)]
     ·by_cases b1 : ∀ (i : Nat) e, l.Stops[i]? = some e -> (0 <= e /\ e < (st : Int)) /\ fixI (fun y => e == y) l.Stops = (i : Int)
      ·rw [if_pos b1]
       by_cases b2 : ∀ (i : Nat) r, l.Runs[i]? = some r -> 1 <= r /\ r <= 60
       ·rw [if_pos b2]
        have : yag st l := ⟨a1, a2, b1, b2⟩
        simp [this]
       ·rw [if_neg b2]
        have : ¬ yag st l := fun h => b2 h.2.2.2
        simp [this]
      ·rw [if_neg b1]
       have : ¬ yag st l := fun h => b1 h.2.2.1
       simp [this]
     ·have hi := (List.getElem?_eq_some_iff.1 hx).1
      unfold ycv
      have hlt : decide ((i : Int) < (l.Runs.length : Int)) = true := by simp; omega
      simp only [hlt, if_true, jaz, hx, qb, ya0, jak (n := i) (by omega)]
      by_cases b : 1 <= x /\ x <= 60
      ·left; simp [b]
      ·right; simp [b]
    ·have hi := (List.getElem?_eq_some_iff.1 hx).1
     unfold ycw
     have hlt : decide ((i : Int) < (l.Stops.length : Int)) = true := by simp; omega
     simp only [hlt, if_true, jaz, hx, qb, ya0, e1, ybe l (by omega), jak (n := i) (by omega)]
     by_cases b1 : 0 <= x /\ x < (st : Int)
     ·have d3 : decide (0 <= x /\ x <= (st : Int) - 1) = true := by simp; omega
      by_cases b2 : fixI (fun y => x == y) l.Stops = (i : Int)
      ·left; simp only [d3]; simp [b1, b2]
      ·right; simp only [d3]; simp [b1, b2]
     ·have d3 : decide (0 <= x /\ x <= (st : Int) - 1) = false := by simp; omega
      right; simp only [d3]; simp [b1]
   ·have d2 : ((l.Runs.length : Int) != (l.Stops.length : Int) - 1) = true := by simp [a2]
    have : ¬ yag st l := fun h => a2 h.2.1
    simp [d2, this]
  ·have d1 : decide ((2 : Int) <= (l.Stops.length : Int) /\ (l.Stops.length : Int) <= 6) = false := by simp; omega
   have : ¬ yag st l := fun h => a1 h.1
   simp [d1, this]
 ·simp [a0]
theorem ynp (n : Network) (h : Bd n) : zq6 n = some (decide (Good n)) := by
 obtain ⟨h1, h2, h3⟩ := h
 unfold zq6
 simp only [ya2, qb, ycf n.Stops h1, yeg n h2, ycf (n.Lines.map (·.Name)) (by simpa using h2)]
 by_cases a1 : 2 <= n.Stops.length /\ n.Stops.length <= 8
 ·have d1 : decide ((2 : Int) <= (n.Stops.length : Int) /\ (n.Stops.length : Int) <= 8) = true := by simp; omega
  simp only [d1, Bool.not_true, Bool.false_eq_true, if_false]
  by_cases a2 : 1 <= n.Lines.length /\ n.Lines.length <= 5
  ·have d2 : decide ((1 : Int) <= (n.Lines.length : Int) /\ (n.Lines.length : Int) <= 5) = true := by simp; omega
   simp only [d2, Bool.not_true, Bool.false_eq_true, if_false]
   by_cases a3 : ybj n.Stops
   ·simp only [a3, decide_true, Bool.not_true, Bool.false_eq_true, if_false]
    by_cases a4 : ybj (n.Lines.map (·.Name))
    ·simp only [a4, decide_true, Bool.not_true, qb, Bool.false_eq_true, if_false]
     rw [jd8 (hd := Classical.propDecidable _) n.Lines (fun i x => yag n.Stops.length x) (fun i x hx => ?_) (by unfold ygq; simp)]
     ·by_cases b1 : ∀ (i : Nat) x, n.Lines[i]? = some x -> yag n.Stops.length x
      ·rw [if_pos b1]
       have : Good n := ⟨a1, a2, a3, a4, b1⟩
       simp [this]
      ·rw [if_neg b1]
       have : ¬ Good n := fun h => b1 h.2.2.2.2
       simp [this]
     ·have hi := (List.getElem?_eq_some_iff.1 hx).1
      obtain ⟨g1, g2⟩ := h3 x (List.mem_of_getElem? hx)
      unfold ygq
      have hlt : decide ((i : Int) < (n.Lines.length : Int)) = true := by simp; omega
      simp only [hlt, if_true, jaz, hx, qb, ycj n x g1 g2, jak (n := i) (by omega)]
      by_cases b : yag n.Stops.length x
      ·left; simp [b]
      ·right; simp [b]
    ·have : ¬ Good n := fun h => a4 h.2.2.2.1
     simp [a4, this]
   ·have : ¬ Good n := fun h => a3 h.2.2.1
    simp [a3, this]
  ·have d2 : decide ((1 : Int) <= (n.Lines.length : Int) /\ (n.Lines.length : Int) <= 5) = false := by simp; omega
   have : ¬ Good n := fun h => a2 h.2.1
   simp [d2, this]
 ·have d1 : decide ((2 : Int) <= (n.Stops.length : Int) /\ (n.Stops.length : Int) <= 8) = false := by simp; omega
  have : ¬ Good n := fun h => a1 h.1
  simp [d1, this]
theorem yrl (n : Network) (h : Bd n) : zq73 n = some (decide (Good n)) := by
 obtain ⟨h1, h2, h3⟩ := h
 unfold zq73
 simp only [ya0, qb]
 by_cases a1 : 2 <= n.Stops.length /\ n.Stops.length <= 8
 ·have d1 : decide ((2 : Int) <= (n.Stops.length : Int) /\ (n.Stops.length : Int) <= 8) = true := by simp; omega
  simp only [d1, Bool.not_true, Bool.false_eq_true, if_false]
  by_cases a2 : 1 <= n.Lines.length /\ n.Lines.length <= 5
  ·have d2 : decide ((1 : Int) <= (n.Lines.length : Int) /\ (n.Lines.length : Int) <= 5) = true := by simp; omega
   simp only [d2, Bool.not_true, qb, Bool.false_eq_true, if_false]
   rw [jd8 (hd := Classical.propDecidable _) n.Stops (fun i x => yac x /\ fixI (fun e => x.toList == e.toList) n.Stops = (i : Int)) (fun i x hx => ?_) (by unfold ycy; simp)]
   ·rw [jd8 (hd := Classical.propDecidable _) n.Lines (fun i x => (yac x.Name /\ yag n.Stops.length x) /\ fixI (fun e => x.Name.toList == e.toList) (n.Lines.map (·.Name)) = (i : Int)) (fun i x hx => ?_) (by unfold ycx; simp)]
    ·by_cases b1 : ybj n.Stops
     ·rw [if_pos (show ∀ (i : Nat) x, n.Stops[i]? = some x -> yac x /\ fixI (fun e => x.toList == e.toList) n.Stops = (i : Int) from b1)]
      by_cases b2 : ∀ (i : Nat) x, n.Lines[i]? = some x -> (yac x.Name /\ yag n.Stops.length x) /\ fixI (fun e => x.Name.toList == e.toList) (n.Lines.map (·.Name)) = (i : Int)
      ·rw [if_pos b2]
       have : Good n := ⟨a1, a2, b1, fun i y hy => by
        rw [List.getElem?_map] at hy
        obtain ⟨x, hx, rfl⟩ := Option.map_eq_some_iff.1 hy
        exact ⟨(b2 i x hx).1.1, (b2 i x hx).2⟩, fun i x hx => (b2 i x hx).1.2⟩
       simp [this]
      ·rw [if_neg b2]
       have : ¬ Good n := fun h => b2 fun i x hx => by
        have h4 := h.2.2.2.1 i x.Name (by rw [List.getElem?_map, hx]; rfl)
        exact ⟨⟨h4.1, h.2.2.2.2 i x hx⟩, h4.2⟩
       simp [this]
     ·rw [if_neg (show ¬ ∀ (i : Nat) x, n.Stops[i]? = some x -> yac x /\ fixI (fun e => x.toList == e.toList) n.Stops = (i : Int) from b1)]
      have : ¬ Good n := fun h => b1 h.2.2.1
      simp [this]
    ·have hi := (List.getElem?_eq_some_iff.1 hx).1
     obtain ⟨g1, g2⟩ := h3 x (List.mem_of_getElem? hx)
     unfold ycx
     have hlt : decide ((i : Int) < (n.Lines.length : Int)) = true := by simp; omega
     simp only [hlt, if_true, jaz, hx, qb, ylq x n.Stops.length h1 g1 g2, yci n (by omega), jak (n := i) (by omega)]
     by_cases b1 : yac x.Name /\ yag n.Stops.length x
     ·by_cases b2 : fixI (fun e => x.Name.toList == e.toList) (n.Lines.map (·.Name)) = (i : Int)
      ·left; simp [b1, b2]
      ·right; simp [b1, b2]
     ·right; simp [b1]
   ·have hi := (List.getElem?_eq_some_iff.1 hx).1
    unfold ycy
    have hlt : decide ((i : Int) < (n.Stops.length : Int)) = true := by simp; omega
    simp only [hlt, if_true, jaz, hx, qb, yej, ylr n.Stops (by omega), jak (n := i) (by omega)]
    by_cases b1 : yac x
    ·by_cases b2 : fixI (fun e => x.toList == e.toList) n.Stops = (i : Int)
     ·left; simp [b1, b2]
     ·right; simp [b1, b2]
    ·right; simp [b1]
  ·have d2 : decide ((1 : Int) <= (n.Lines.length : Int) /\ (n.Lines.length : Int) <= 5) = false := by simp; omega
   have : ¬ Good n := fun h => a2 h.2.1
   simp [d2, this]
 ·have d1 : decide ((2 : Int) <= (n.Stops.length : Int) /\ (n.Stops.length : Int) <= 8) = false := by simp; omega
  have : ¬ Good n := fun h => a1 h.1
  simp [d1, this]
theorem yep (l : List Int) (h : l.length <= 1000) : zq92 l = some l := by
 unfold zq92
 rw [jaq (by simp; omega)]; rfl
theorem yl4 (l : List ByteArray) (h : l.length <= 1000) : zq93 l = some l := by
 unfold zq93
 rw [jaq (by simp; omega)]; rfl
theorem ygc (x : Line) (h1 : x.Stops.length <= 1000) (h2 : x.Runs.length <= 1000) : zq19 x = some x := by
 unfold zq19
 rw [yep _ h1, yep _ h2]; rfl
theorem yiv (l : List Int) (h : l.length <= 1000) : zq64 l = some l := by
 unfold zq64
 rw [jaq (by simp; omega)]; rfl
theorem yiu (n : Network) (h : Bd n) : zq77 n = some n := by
 obtain ⟨h1, h2, h3⟩ := h
 unfold zq77
 rw [jaq (by simp; omega)]
 simp only [qb]
 rw [jr1 (fun x : Line => x) n.Lines (fun i a x ha hx => ?_) (fun a ha => ?_)]
 ·simp only [qb, List.map_id', List.nil_append]
 ·have hi := (List.getElem?_eq_some_iff.1 hx).1
  obtain ⟨g1, g2⟩ := h3 x (List.mem_of_getElem? hx)
  unfold yct
  have hlt : decide ((i : Int) < (n.Lines.length : Int)) = true := by simp; omega
  have hch : ∀ y : Line, chk (a.length + ([y] : List Line).length <= 4294967296) = some () := fun y => jaq (by simp; omega)
  simp only [hlt, if_true, jaz, hx, qb, yiv _ g1, yiv _ g2, hch, jak (n := i) (by omega)]
 ·unfold yct; simp
theorem yi7 (n : Network) (h : Bd n) : zq78 n = some n := by
 have : zq78 n = zq77 n := rfl
 rw [this]; exact yiu n h
theorem yls (s : List Int) (hs : s.length <= 1000) : zq70 s = some s.reverse := by
 unfold zq70
 have e0 : w64 ((s.length : Int) - 1) = (s.length : Int) - 1 := jai (by omega)
 rw [e0]
 have h := jb0 (step := yc0 s) (fun m a => ∃ j : Nat, a.1 = (s.length : Int) - 1 - j /\ m + j = s.length /\ a.2 = s.reverse.take j) (fun b => b = s.reverse) ?_ (k := s.length) (a := ((s.length : Int) - 1, [])) ⟨0, by simp, by omega, by simp⟩
 ·obtain ⟨b, hb, rfl⟩ := h
  rw [hb]; rfl
 rintro m ⟨v, i⟩ ⟨j, hv, hm, hi⟩
 simp only at hv hi
 subst hv
 by_cases hlt : j < s.length
 ·left
  have ev : (s.length : Int) - 1 - j = ((s.length - 1 - j : Nat) : Int) := by omega
  rw [ev]
  obtain ⟨e, he⟩ := ja8 (l := s) (i := s.length - 1 - j) (by omega)
  have hd : decide ((0 : Int) <= ((s.length - 1 - j : Nat) : Int)) = true := by simp
  have hlen : i.length = j := by rw [hi]; simp; omega
  have hch : chk (i.length + ([e] : List Int).length <= 4294967296) = some () := jaq (by simp; omega)
  have ev2 : w64 (((s.length - 1 - j : Nat) : Int) - 1) = (s.length : Int) - 1 - ((j + 1 : Nat) : Int) := by rw [jai (by omega)]; omega
  refine ⟨((s.length : Int) - 1 - ((j + 1 : Nat) : Int), i ++ [e]), m - 1, ?_, by omega, j + 1, rfl, by omega, ?_⟩
  ·unfold yc0
   simp only [hd, if_true, jaz, he, hch, qb, ev2]
  ·show i ++ [e] = _
   rw [jbe (x := e) (by rw [List.getElem?_reverse hlt]; exact he), hi]
 ·right
  have ej : j = s.length := by omega
  subst ej
  have hd : decide ((0 : Int) <= (s.length : Int) - 1 - (s.length : Int)) = false := by simp; omega
  refine ⟨i, by unfold yc0; simp only [hd, Bool.false_eq_true, if_false], ?_⟩
  rw [hi, List.take_of_length_le (by simp)]
theorem yco (s : List Int) (hs : s.length <= 1000) : zq71 s = some s.reverse := yls s hs
def LB (x : Line) : Prop := (2 <= x.Stops.length /\ x.Stops.length <= 10) /\ 1 <= x.Runs.length /\ x.Runs.length <= 10
def NB (n : Network) : Prop := (2 <= n.Stops.length /\ n.Stops.length <= 6) /\ (1 <= n.Lines.length /\ n.Lines.length <= 8) /\ ∀ x ∈ n.Lines, LB x
theorem NB.bd {n : Network} (h : NB n) : Bd n := ⟨by have := h.1; omega, by have := h.2.1; omega, fun x hx => by have := h.2.2 x hx; unfold LB at this; omega⟩
theorem yiw (n : Int) (h0 : 0 <= n) (h1 : n < 10) : ∃ r, zq62 n = some r /\ r.size <= 10 := by
 have e : zq62 n = ybw (ygx 4294967295) n := rfl
 rw [e]
 unfold ybw
 have d1 : decide (n < 0) = false := by simp; omega
 have d2 : decide (n < 10) = true := by simp; omega
 have e1 : w64 (n + 1) = n + 1 := jai (by omega)
 have hs : (str [48, 49, 50, 51, 52, 53, 54, 55, 56, 57]).size = 10 := rfl
 simp only [d1, d2, Bool.false_eq_true, if_false, if_true, e1, hs]
 rw [jaq (by omega)]
 refine ⟨_, rfl, ?_⟩
 rw [ByteArray.size_extract, hs]
 omega
theorem yln {k : Nat} {c : l1Cur} (name : ByteArray) (stops : Int) (hs : 2 <= stops /\ stops <= 1000) (h : Cur k c) (hk : k <= 1000000000) : ∃ r, zq48 c name stops = some r /\ Cur (k + 40) r.2 /\ LB r.1 := by
 unfold zq48
 obtain ⟨r, hr, hc, h0, h1⟩ := yab stops h (by omega)
 obtain ⟨r1, hr1, hc1, h10, h11⟩ := yab 3 hc (by omega)
 simp only [hr, hr1, qb]
 have e1 : w64 (2 + r1.1) = ((2 + r1.1.toNat : Nat) : Int) := by rw [jai (by omega)]; omega
 rw [e1]
 have loop : ∃ b, iter (yc5 name stops) (r.1, ((2 + r1.1.toNat : Nat) : Int), r1.2.code_, r1.2.at_, r1.2.seed_.v, []) = some b /\ (Cur (k + 4 + 2 * 4) ⟨b.1, b.2.1, ⟨b.2.2.1⟩⟩ /\ 1 <= b.2.2.2.length /\ b.2.2.2.length <= 4) := by
  refine jb0 (fun m a => (0 <= a.1 /\ a.1 < stops) /\ a.2.1 = (m : Int) /\ m + a.2.2.2.2.2.length <= 4 /\ (1 <= m \/ 1 <= a.2.2.2.2.2.length) /\ Cur (k + 4 + 2 * (4 - m)) ⟨a.2.2.1, a.2.2.2.1, ⟨a.2.2.2.2.1⟩⟩) _ ?_ (k := 2 + r1.1.toNat) ⟨⟨h0, by show r.1 < stops; omega⟩, rfl, by simp; omega, .inl (by omega), hc1.mono (by omega)⟩
  rintro m ⟨v, v1, v2, v3, v4, v5⟩ ⟨hv, hv1, hl, hne, hcur⟩
  simp only at hv hv1 hl hne hcur
  subst hv1
  unfold yc5
  cases m with
  | zero => right; exact ⟨_, by simp; rfl, hcur, by show 1 <= v5.length; omega, by show v5.length <= 4; omega⟩
  | succ m =>
   left
   have hpos : decide ((0 : Int) < ((m + 1 : Nat) : Int)) = true := by simp
   obtain ⟨r3, hr3, hc3, h30, h31⟩ := yab 2 hcur (by omega)
   have hpl := ybe (⟨name, v5, []⟩ : Line) (by show v5.length <= _; omega) v
   have hch : chk (v5.length + ([v] : List Int).length <= 4294967296) = some () := jaq (by simp; omega)
   have hne0 : chk (stops ≠ 0) = some () := jaq (by omega)
   have w1 : w64 (v + 1) = v + 1 := jai (by omega)
   have w2 : w64 (v + 1 + r3.1) = v + 1 + r3.1 := jai (by omega)
   have ht := jjl (a := v + 1 + r3.1) (b := stops) (by omega) (by omega)
   simp only [hpos, if_true, hpl, hch, hr3, hne0, w1, w2, qb]
   have w3 : w64 (((m + 1 : Nat) : Int) - 1) = (m : Int) := jmn (by omega)
   split
   ·refine ⟨_, m, by simp only [qb]; rfl, by omega, ht, w3, ?_, .inr ?_, ?_⟩
    ·simp; omega
    ·simp
    ·exact hc3.mono (by omega)
   ·rename_i hn
    refine ⟨_, m, by simp only [qb]; rfl, by omega, ht, w3, ?_, .inr ?_, ?_⟩
    ·show m + v5.length <= 4; omega
    ·show 1 <= v5.length
     cases v5 with
     | nil => simp [fixI] at hn
     | cons a l => simp
    ·exact hc3.mono (by omega)
 obtain ⟨⟨v7, v8, v9, v10⟩, hb, hcb, hlb⟩ := loop
 simp only at hcb hlb
 rw [hb]
 simp only [qb]
 -- at least two stops
 have two : ∃ v11 : List Int, (if decide ((v10.length : Int) < 2) = true then (idx v10 0).bind fun e1 => (chk ((stops : Int) ≠ 0)).bind fun u4 => (chk (v10.length + ([((w64 (e1 + 1)).tmod stops)] : List Int).length <= 4294967296)).bind fun u5 => some (v10 ++ ([((w64 (e1 + 1)).tmod stops)] : List Int)) else some v10) = some v11 /\ 2 <= v11.length /\ v11.length <= 5 := by
  by_cases h2 : (v10.length : Int) < 2
  ·obtain ⟨e, he, _⟩ := jds (l := v10) (i := 0) (by omega) (by omega)
   have hch : ∀ y : Int, chk (v10.length + ([y] : List Int).length <= 4294967296) = some () := fun y => jaq (by simp; omega)
   have hne0 : chk (stops ≠ 0) = some () := jaq (by omega)
   refine ⟨v10 ++ [(w64 (e + 1)).tmod stops], by simp only [h2, decide_true, if_true, he, hne0, hch, qb], ?_, ?_⟩
   ·simp; omega
   ·simp; omega
  ·exact ⟨v10, by simp [h2], by omega, by omega⟩
 obtain ⟨v11, hv11, l1, l2⟩ := two
 rw [hv11]
 simp only [qb]
 have loop2 : ∃ b, iter (yc4 v11) (1, v7, v8, v9, []) = some b /\ (Cur (k + 40) ⟨b.1, b.2.1, ⟨b.2.2.1⟩⟩ /\ b.2.2.2.length + 1 = v11.length) := by
  refine jb0 (fun m a => ∃ i : Nat, a.1 = (i : Int) /\ m + i = v11.length /\ a.2.2.2.2.length + 1 = i /\ Cur (k + 12 + 2 * i) ⟨a.2.1, a.2.2.1, ⟨a.2.2.2.1⟩⟩) _ ?_ (k := v11.length - 1) ⟨1, rfl, by omega, rfl, hcb.mono (by omega)⟩
  rintro m ⟨v12, v13, v14, v15, v16⟩ ⟨i, hi, hm, hl, hcur⟩
  simp only at hi hl hcur
  subst hi
  unfold yc4
  by_cases hlt : i < v11.length
  ·left
   have hd : decide ((i : Int) < (v11.length : Int)) = true := by simp; omega
   obtain ⟨r5, hr5, hc5, _⟩ := yab 12 hcur (by omega)
   have hch : ∀ y : Int, chk (v16.length + ([y] : List Int).length <= 4294967296) = some () := fun y => jaq (by simp; omega)
   refine ⟨_, m - 1, by simp only [hd, if_true, hr5, hch, qb, jak (n := i) (by omega)]; rfl, by omega, i + 1, rfl, by omega, ?_, ?_⟩
   ·simp; omega
   ·exact hc5.mono (by omega)
  ·right
   have hd : decide ((i : Int) < (v11.length : Int)) = false := by simp; omega
   refine ⟨_, by simp only [hd, Bool.false_eq_true, if_false]; rfl, ?_, ?_⟩
   ·exact hcur.mono (by omega)
   ·show v16.length + 1 = _; omega
 obtain ⟨⟨v17, v18, v19, v20⟩, hb2, hcb2, hl2⟩ := loop2
 simp only at hcb2 hl2
 rw [hb2]
 simp only [qb]
 exact ⟨_, rfl, hcb2, ⟨l1, by show v11.length <= 10; omega⟩, by show 1 <= v20.length; omega, by show v20.length <= 10; omega⟩
theorem ynx {k : Nat} {c : l1Cur} (name : ByteArray) (stops : Int) (hs : 2 <= stops /\ stops <= 1000) (h : Cur k c) (hk : k <= 1000000000) : ∃ r, zq49 c name stops = some r /\ Cur (k + 40) r.2 /\ LB r.1 := yln name stops hs h hk
theorem yri (i : Nat) (h2 : 2 <= i) (h6 : i <= 6) (l : List ByteArray) (hl : l.length = 6) : 2 <= ((l.take i).drop (0 : Int).toNat).length /\ ((l.take i).drop (0 : Int).toNat).length <= 6 := by
 simp; omega
theorem yaz {k : Nat} {c : l1Cur} (h : Cur k c) (hk : k <= 500000000) : ∃ r, zq51 c = some r /\ Cur (k + 300) r.2 /\ NB r.1 := by
 unfold zq51
 obtain ⟨r, hr, hc, h0, h1⟩ := yab 5 h (by omega)
 have e1 : w64 (2 + r.1) = 2 + r.1 := jai (by omega)
 have hsix : ([(str [112, 111, 114, 116]), (str [109, 105, 108, 108]), (str [112, 97, 114, 107]), (str [104, 97, 108, 108]), (str [100, 111, 99, 107]), (str [102, 97, 105, 114])] : List ByteArray).length = 6 := rfl
 simp only [hr, qb, e1, hsix]
 rw [jaq (by omega)]
 obtain ⟨r1, hr1, hc1, h10, h11⟩ := yab 3 hc (by omega)
 have e2 : w64 (1 + r1.1) = ((1 + r1.1.toNat : Nat) : Int) := by rw [jai (by omega)]; omega
 simp only [hr1, qb, e2]
 have loop : ∃ b, iter (yc3 r) (((1 + r1.1.toNat : Nat) : Int), r1.2.code_, r1.2.at_, r1.2.seed_.v, []) = some b /\ (Cur (k + 4 + 40 * 3) ⟨b.1, b.2.1, ⟨b.2.2.1⟩⟩ /\ (1 <= b.2.2.2.length /\ b.2.2.2.length <= 3) /\ ∀ x ∈ b.2.2.2, LB x) := by
  refine jb0 (fun m a => a.1 = (m : Int) /\ m + a.2.2.2.2.length <= 3 /\ 1 <= m + a.2.2.2.2.length /\ (∀ x ∈ a.2.2.2.2, LB x) /\ Cur (k + 4 + 40 * (3 - m)) ⟨a.2.1, a.2.2.1, ⟨a.2.2.2.1⟩⟩) _ ?_ (k := 1 + r1.1.toNat) ⟨rfl, by simp; omega, by simp, by simp, hc1.mono (by omega)⟩
  rintro m ⟨x, v, v1, v2, v3⟩ ⟨hx, hl, hl1, hlb, hcur⟩
  simp only at hx hl hl1 hlb hcur
  subst hx
  unfold yc3
  cases m with
  | zero => right; exact ⟨_, by simp; rfl, hcur, ⟨by show 1 <= v3.length; omega, by show v3.length <= 3; omega⟩, hlb⟩
  | succ m =>
   left
   have hpos : decide ((0 : Int) < ((m + 1 : Nat) : Int)) = true := by simp
   obtain ⟨r4, hr4, hs4⟩ := yiw ((m + 1 : Nat) : Int) (by omega) (by omega)
   have hs : (str [108]).size = 1 := rfl
   have hch : chk ((str [108]).size + r4.size <= 4294967296) = some () := jaq (by omega)
   obtain ⟨r5, hr5, hc5, hb5⟩ := ynx (str [108] ++ r4) (2 + r.1) (by omega) hcur (by omega)
   have hch2 : ∀ y : Line, chk (v3.length + ([y] : List Line).length <= 4294967296) = some () := fun y => jaq (by simp; omega)
   refine ⟨_, m, by simp only [hpos, if_true, hr4, hch, e1, hr5, hch2, qb]; rfl, by omega, ?_, ?_, ?_, ?_, ?_⟩
   ·exact jmn (by omega)
   ·simp; omega
   ·simp; omega
   ·intro y hy
    rcases List.mem_append.1 hy with hy | hy
    ·exact hlb y hy
    ·simp at hy; subst hy; exact hb5
   ·exact hc5.mono (by omega)
 obtain ⟨⟨v4, v5, v6, v7⟩, hb, hcb, hlb, hall⟩ := loop
 simp only at hcb hlb hall
 rw [hb]
 simp only [qb]
 obtain ⟨r6, hr6, hc6⟩ := yll 2 hcb (by omega)
 simp only [hr6, qb]
 have fin : ∀ (v8 : List UInt8) (v9 v10 : Int) (v11 : List Line), Cur (k + 200) ⟨v8, v9, ⟨v10⟩⟩ -> (1 <= v11.length /\ v11.length <= 8) -> (∀ x ∈ v11, LB x) ->
   ∃ r', ((zq78 (⟨((([(str [112, 111, 114, 116]), (str [109, 105, 108, 108]), (str [112, 97, 114, 107]), (str [104, 97, 108, 108]), (str [100, 111, 99, 107]), (str [102, 97, 105, 114])] : List ByteArray).take (2 + r.1).toNat).drop (0 : Int).toNat), v11⟩ : Network)).bind fun r11 => some ((⟨r11.Stops, r11.Lines⟩ : Network), (⟨v8, v9, (⟨v10⟩ : IK .u64)⟩ : l1Cur))) = some r' /\ Cur (k + 300) r'.2 /\ NB r'.1 := by
  intro v8 v9 v10 v11 g1 g2 g3
  have hst := yri (2 + r.1).toNat (by omega) (by omega) _ hsix
  have hnb : NB (⟨((([(str [112, 111, 114, 116]), (str [109, 105, 108, 108]), (str [112, 97, 114, 107]), (str [104, 97, 108, 108]), (str [100, 111, 99, 107]), (str [102, 97, 105, 114])] : List ByteArray).take (2 + r.1).toNat).drop (0 : Int).toNat), v11⟩ : Network) := ⟨hst, g2, g3⟩
  rw [yi7 _ hnb.bd]
  exact ⟨_, rfl, g1.mono (by omega), hnb⟩
 split
 ·obtain ⟨e, he, _, hem⟩ := jds (l := v7) (i := 0) (by omega) (by omega)
  obtain ⟨g1, g2⟩ := hall e hem
  have hch2 : ∀ y : Line, chk (v7.length + ([y] : List Line).length <= 4294967296) = some () := fun y => jaq (by simp; omega)
  simp only [he, yco e.Stops (by omega), yco e.Runs (by omega), hch2, qb]
  refine fin _ _ _ _ (hc6.mono (by omega)) (by simp; omega) fun y hy => ?_
  rcases List.mem_append.1 hy with hy | hy
  ·exact hall y hy
  ·simp at hy; subst hy
   exact ⟨by simpa using g1, by simpa using g2⟩
 ·simp only [qb]
  exact fin _ _ _ _ (hc6.mono (by omega)) (by omega) hall
theorem ydw {k : Nat} {c : l1Cur} (h : Cur k c) (hk : k <= 200000000) : ∃ r, zq45 c = some r /\ Cur (k + 1000) r.2 /\ Bd r.1 := by
 unfold zq45
 obtain ⟨r, hr, hc, hnb⟩ := yaz h (by omega)
 obtain ⟨n1, n2, n3⟩ := hnb
 obtain ⟨r1, hr1, hc1, h10, h11⟩ := yab (r.1.Lines.length : Int) hc (by omega)
 obtain ⟨e, he, he2, hem⟩ := jds (l := r.1.Lines) (i := r1.1) h10 (by omega)
 obtain ⟨g1, g2⟩ := n3 e hem
 obtain ⟨r2, hr2, hc2, _⟩ := yab 24 hc1 (by omega)
 simp only [hr, hr1, he, hr2, qb]
 have fin : ∀ (v : List UInt8) (v1 v2 : Int) (v3 : ByteArray) (v4 : List ByteArray) (v5 : List Line) (v6 : List Int), Cur (k + 900) ⟨v, v1, ⟨v2⟩⟩ -> v4.length <= 6 -> v5.length = r.1.Lines.length -> (∀ x ∈ v5, LB x) -> v6.length <= 11 ->
   ∃ r', ((idx v5 r1.1).bind fun e9 => some ((⟨v4, (v5.set r1.1.toNat (⟨v3, e9.Stops, v6⟩ : Line))⟩ : Network), (⟨v, v1, (⟨v2⟩ : IK .u64)⟩ : l1Cur))) = some r' /\ Cur (k + 1000) r'.2 /\ Bd r'.1 := by
  intro v v1 v2 v3 v4 v5 v6 q1 q2 q3 q4 q5
  obtain ⟨e9, he9, _, hm9⟩ := jds (l := v5) (i := r1.1) h10 (by omega)
  rw [he9]
  refine ⟨_, rfl, q1.mono (by omega), by show v4.length <= _; omega, by simp; omega, fun x hx => ?_⟩
  rcases List.mem_or_eq_of_mem_set hx with hx | hx
  ·have := q4 x hx
   unfold LB at this; omega
  ·subst hx
   have := q4 e9 hm9
   unfold LB at this
   exact ⟨by show e9.Stops.length <= _; omega, by show v6.length <= _; omega⟩
 split
 ·obtain ⟨r4, hr4, hc4, _⟩ := yof ([(str [109, 105, 108, 108]), (str []), (str [65]), (str [97, 98, 99, 100, 101, 102, 103, 104]), (str [97, 98, 99, 100, 101, 102, 103, 104, 105])] : List ByteArray) (by simp) hc2 (by omega)
  obtain ⟨e2, he2', _⟩ := jds (l := r.1.Stops) (i := 0) (by omega) (by omega)
  simp only [hr4, he2', qb, jct]
  exact fin _ _ _ _ _ _ _ (hc4.mono (by omega)) (by simp; omega) rfl n3 (by omega)
 split
 ·obtain ⟨r5, hr5, hc5, _⟩ := yof ([(str [114, 49]), (str [108, 49]), (str []), (str [88])] : List ByteArray) (by simp) hc2 (by omega)
  simp only [hr5, qb, jct]
  exact fin _ _ _ _ _ _ _ (hc5.mono (by omega)) (by omega) rfl n3 (by omega)
 split
 ·obtain ⟨r8, hr8, hc8, h80, h81⟩ := yab (e.Stops.length : Int) hc2 (by omega)
  obtain ⟨r9, hr9, hc9, _⟩ := yab 10 hc8 (by omega)
  obtain ⟨e4, he4, _⟩ := jds (l := e.Stops) (i := r8.1) h80 (by omega)
  simp only [hr8, hr9, he4, qb, jct]
  refine fin _ _ _ _ _ _ _ (hc9.mono (by omega)) (by omega) (by simp) (fun x hx => ?_) (by show e.Runs.length <= 11; omega)
  rcases List.mem_or_eq_of_mem_set hx with hx | hx
  ·exact n3 x hx
  ·subst hx; exact ⟨by simpa using g1, g2⟩
 split
 ·obtain ⟨r12, hr12, hc12, h120, h121⟩ := yab (e.Runs.length : Int) hc2 (by omega)
  obtain ⟨r13, hr13, hc13, _⟩ := ych ([0, 60, 61, (-1)] : List Int) (by simp) hc12 (by omega)
  obtain ⟨e6, he6, _⟩ := jds (l := e.Runs) (i := r12.1) h120 (by omega)
  simp only [hr12, hr13, he6, qb, jct]
  refine fin _ _ _ _ _ _ _ (hc13.mono (by omega)) (by omega) (by simp) (fun x hx => ?_) (by simp; omega)
  rcases List.mem_or_eq_of_mem_set hx with hx | hx
  ·exact n3 x hx
  ·subst hx; exact ⟨g1, by simpa using g2⟩
 split
 ·have hch : chk (e.Runs.length + ([3] : List Int).length <= 4294967296) = some () := jaq (by simp; omega)
  simp only [hch, qb, jct]
  exact fin _ _ _ _ _ _ _ (hc2.mono (by omega)) (by omega) rfl n3 (by simp; omega)
 split
 ·simp only [jcm]
  exact ⟨_, rfl, hc2.mono (by omega), by show r.1.Stops.length <= _; omega, by simp, by simp⟩
 split
 ·have loop : ∃ b, iter (yc6 r) (0, r2.2.code_, r2.2.at_, r2.2.seed_.v, r.1.Lines) = some b /\ (Cur (k + 900) ⟨b.1, b.2.1, ⟨b.2.2.1⟩⟩ /\ b.2.2.2.length <= 20 /\ ∀ x ∈ b.2.2.2, LB x) := by
   refine jb0 (fun m a => ∃ i : Nat, a.1 = (i : Int) /\ m + i = 8 /\ i <= 7 /\ a.2.2.2.2.length <= 8 + i /\ (∀ x ∈ a.2.2.2.2, LB x) /\ Cur (k + 310 + 50 * i) ⟨a.2.1, a.2.2.1, ⟨a.2.2.2.1⟩⟩) _ ?_ (k := 8) ⟨0, rfl, rfl, by omega, by simpa using n2.2, n3, hc2.mono (by omega)⟩
   rintro m ⟨v7, v8, v9, v10, v11⟩ ⟨i, hi, hm, hi7, hl, hlb, hcur⟩
   simp only at hi hl hlb hcur
   subst hi
   unfold yc6
   obtain ⟨r16, hr16, hc16, h160, h161⟩ := yab 2 hcur (by omega)
   have w1 : w64 (5 + r16.1) = 5 + r16.1 := jai (by omega)
   simp only [hr16, w1, qb]
   by_cases a1 : (v11.length : Int) < 5 + r16.1 /\ (i : Int) < 7
   ·left
    have d1 : decide ((v11.length : Int) < 5 + r16.1) = true := by simp; omega
    have d2 : decide ((i : Int) < 7) = true := by simp; omega
    obtain ⟨r19, hr19, hs19⟩ := yiw (i : Int) (by omega) (by omega)
    have hs : (str [120]).size = 1 := rfl
    have hch : chk ((str [120]).size + r19.size <= 4294967296) = some () := jaq (by omega)
    obtain ⟨r20, hr20, hc20, hb20⟩ := yln (str [120] ++ r19) (r.1.Stops.length : Int) (by omega) hc16 (by omega)
    have hch2 : ∀ y : Line, chk (v11.length + ([y] : List Line).length <= 4294967296) = some () := fun y => jaq (by simp; omega)
    refine ⟨_, m - 1, by simp only [d1, d2, if_true, hr19, hch, hr20, hch2, qb, jak (n := i) (by omega)]; rfl, by omega, i + 1, rfl, by omega, by omega, ?_, fun x hx => ?_, ?_⟩
    ·simp; omega
    ·rcases List.mem_append.1 hx with hx | hx
     ·exact hlb x hx
     ·simp at hx; subst hx; exact hb20
    ·exact hc20.mono (by omega)
   ·right
    have hcond : (if decide ((v11.length : Int) < 5 + r16.1) = true then some (decide ((i : Int) < 7)) else some false) = some false := by
     by_cases b1 : (v11.length : Int) < 5 + r16.1
     ·have : decide ((i : Int) < 7) = false := by simp; omega
      simp [b1, this]
     ·simp [b1]
    refine ⟨_, by simp only [hcond, qb, Bool.false_eq_true, if_false]; rfl, ?_, ?_, hlb⟩
    ·exact hc16.mono (by omega)
    ·show v11.length <= 20; omega
  obtain ⟨⟨v13, v14, v15, v16⟩, hb, hcb, hlb, hall⟩ := loop
  simp only at hcb hlb hall
  rw [hb]
  simp only [qb, jcm]
  refine ⟨_, rfl, hcb.mono (by omega), by show r.1.Stops.length <= _; omega, by show v16.length <= _; omega, fun x hx => ?_⟩
  have := hall x hx
  unfold LB at this; omega
 ·simp only [jct]
  exact fin _ _ _ _ _ _ _ (hc2.mono (by omega)) (by omega) rfl n3 (by omega)
def TB (t : Timetable) : Prop := Bd t.Network /\ t.Trips.length <= 1000
def ya6 (n : Network) (x : Trip) : Prop := (1 <= x.Id /\ x.Id <= 999) /\ ∃ l, idx n.Lines x.Line = some l /\ (0 <= x.Start /\ x.Start <= 1799) /\ 0 <= x.Start + l.Runs.sum /\ x.Start + l.Runs.sum <= 1799
def yae (t : Timetable) : Prop := Good t.Network /\ t.Trips.length <= 12 /\ (∀ (i : Nat) x, t.Trips[i]? = some x -> ya6 t.Network x) /\ ∀ (i : Nat) a b, t.Trips[i]? = some a -> t.Trips[i + 1]? = some b -> a.Id < b.Id
noncomputable instance (t : Timetable) : Decidable (yae t) := Classical.propDecidable _
noncomputable instance (n : Network) (x : Trip) : Decidable (ya6 n x) := Classical.propDecidable _
theorem ylf (t : Int) : zq7 t = some (decide (0 <= t /\ t <= 1799)) := by
 unfold zq7; rw [ya2]; rfl
theorem yei (t : Int) : zq81 t = some (decide (0 <= t /\ t <= 1799)) := by
 unfold zq81; rw [ya0]; rfl
theorem ynr (l : List Int) (h1 : l.length <= 1000000) (h2 : ∀ x ∈ l, 0 <= x /\ x <= 1000000) : zq30 l = some l.sum := by
 unfold zq30
 rw [jri (fun x : Int => x) l h1 h2 (fun i s x hx => ?_) (fun s => ?_)]
 ·simp
 ·have := jbw hx
  unfold yc9
  simp (disch := omega) only [if_pos, if_neg, decide_eq_true_eq, decide_true, decide_false, Bool.not_true, Bool.not_false, Bool.false_eq_true, Bool.not_eq_true', decide_eq_false_iff_not, if_true, if_false, jai, jaq, jaz, qb, Option.map_some, Int.toNat_natCast, not_true_eq_false, not_false_eq_true, true_and, and_true, and_self, false_and, and_false, reduceIte, jct, jcm, beq_self_eq_true, ne_eq, bne_self_eq_false, Int.ofNat_lt.2 this, hx]
 ·unfold yc9; simp
theorem yn1 (x : Line) (a b : Nat) (hab : a <= b) (hb : b <= x.Runs.length) (hl : x.Runs.length <= 1000) (h2 : ∀ r ∈ x.Runs, 0 <= r /\ r <= 1000000) : zq80 x (a : Int) (b : Int) = some (((x.Runs.take b).drop a).sum) := by
 unfold zq80
 refine Tot.val (.call (P := fun v => v = ((x.Runs.take b).drop a).sum) ?_ fun v h => .ok h)
 refine .iter (fun m s => ∃ k : Nat, s.2 = ((a + k : Nat) : Int) /\ m + k = b - a /\ s.1 = (((x.Runs.take b).drop a).take k).sum) (n := b - a) ⟨0, by simp, by omega, by simp⟩ ?_
 rintro m ⟨s, v⟩ ⟨k, hk, hm, hs⟩
 simp only at hk hs
 subst hk
 unfold yev
 refine .iteP (fun hc => ?_) (fun hc => .dn ?_)
 ·obtain ⟨r, hr⟩ := ja8 (l := x.Runs) (i := a + k) (by omega)
  have hr2 : ((x.Runs.take b).drop a)[k]? = some r := by
   rw [List.getElem?_drop, List.getElem?_take_of_lt (by omega)]; exact hr
  have hb1 := h2 r (List.mem_of_getElem? hr)
  have hb2 := jos (l := ((x.Runs.take b).drop a).take k) (M := 1000000) fun y hy => h2 y (List.mem_of_mem_take (List.mem_of_mem_drop (List.mem_of_mem_take hy)))
  have hlen : ((((x.Runs.take b).drop a).take k).length : Int) <= 1000 := by simp; omega
  rw [<- hs] at hb2
  refine .eq (by rw [jaz]; exact hr) (.nx ⟨m - 1, by omega, k + 1, ?_, by omega, ?_⟩)
  ·show w64 (((a + k : Nat) : Int) + 1) = _
   rw [jai (by omega)]; omega
  ·show w64 (s + r) = _
   rw [jai (by omega), jfh hr2, hs]
 ·rw [hs, List.take_of_length_le (by rw [List.length_drop, List.length_take]; omega)]
theorem ya5 {n : Network} (h : Good n) {k : Int} {l : Line} (hl : idx n.Lines k = some l) : yag n.Stops.length l := h.2.2.2.2 _ l (jj6 hl).2.2
theorem yal {st : Nat} {l : Line} (h : yag st l) : (l.Runs.length + 1 = l.Stops.length /\ 1 <= l.Runs.length /\ l.Runs.length <= 5) /\ ∀ r ∈ l.Runs, 1 <= r /\ r <= 60 := by
 obtain ⟨h1, h2, h3, h4⟩ := h
 refine ⟨by omega, fun r hr => ?_⟩
 obtain ⟨i, hi⟩ := List.getElem?_of_mem hr
 exact h4 i r hi
theorem ydq {st : Nat} {l : Line} (h : yag st l) (k : Nat) : 0 <= (l.Runs.take k).sum /\ (l.Runs.take k).sum <= 300 := by
 obtain ⟨⟨h1, h2, h3⟩, h4⟩ := yal h
 have := jos (l := l.Runs.take k) (M := 60) fun x hx => by have := h4 x (List.mem_of_mem_take hx); omega
 have hl : ((l.Runs.take k).length : Int) <= 5 := by simp; omega
 omega
theorem ylj {st : Nat} {l : Line} (h : yag st l) : 0 <= l.Runs.sum /\ l.Runs.sum <= 300 := by
 have := ydq h l.Runs.length
 rwa [List.take_length] at this
theorem yn3 {t : Timetable} (hg : Good t.Network) {x : Trip} {l : Line} (hl : idx t.Network.Lines x.Line = some l) (hs : 0 <= x.Start /\ x.Start <= 1799) : zq22 t x = some (x.Start + l.Runs.sum) := by
 have h := ya5 hg hl
 obtain ⟨⟨h1, h2, h3⟩, h4⟩ := yal h
 have h5 := ylj h
 unfold zq22
 rw [hl]
 simp only [qb]
 rw [ynr l.Runs (by omega) (fun x hx => by have := h4 x hx; omega)]
 simp (disch := omega) only [if_pos, if_neg, decide_eq_true_eq, decide_true, decide_false, Bool.not_true, Bool.not_false, Bool.false_eq_true, Bool.not_eq_true', decide_eq_false_iff_not, if_true, if_false, jai, jaq, jaz, qb, Option.map_some, Int.toNat_natCast, not_true_eq_false, not_false_eq_true, true_and, and_true, and_self, false_and, and_false, reduceIte, jct, jcm, beq_self_eq_true, ne_eq, bne_self_eq_false]
theorem yca {t : Timetable} {i : Nat} {x : Trip} {l : Line} (hx : t.Trips[i]? = some x) (hl : idx t.Network.Lines x.Line = some l) : zq86 t (i : Int) = some l := by
 unfold zq86
 simp (disch := omega) only [if_pos, if_neg, decide_eq_true_eq, decide_true, decide_false, Bool.not_true, Bool.not_false, Bool.false_eq_true, Bool.not_eq_true', decide_eq_false_iff_not, if_true, if_false, jai, jaq, jaz, qb, Option.map_some, Int.toNat_natCast, not_true_eq_false, not_false_eq_true, true_and, and_true, and_self, false_and, and_false, reduceIte, jct, jcm, beq_self_eq_true, ne_eq, bne_self_eq_false, hx, hl]
theorem yi6 {t : Timetable} {i : Nat} {x : Trip} {l : Line} (hx : t.Trips[i]? = some x) (hl : idx t.Network.Lines x.Line = some l) : zq89 t (i : Int) = some l.Stops := by
 unfold zq89
 rw [yca hx hl]; rfl
theorem ylp {t : Timetable} (hg : Good t.Network) {i : Nat} {x : Trip} {l : Line} (hx : t.Trips[i]? = some x) (hl : idx t.Network.Lines x.Line = some l) (hs : 0 <= x.Start /\ x.Start <= 1799) {k : Nat} (hk : k <= l.Runs.length) : zq82 t (i : Int) (k : Int) = some (x.Start + (l.Runs.take k).sum) := by
 have h := ya5 hg hl
 obtain ⟨⟨h1, h2, h3⟩, h4⟩ := yal h
 have h5 := ydq h k
 have e := yn1 l 0 k (by omega) hk (by omega) (fun x hx => by have := h4 x hx; omega)
 rw [List.drop_zero] at e
 have e' : zq80 l 0 (k : Int) = some (l.Runs.take k).sum := e
 unfold zq82
 simp (disch := omega) only [if_pos, if_neg, decide_eq_true_eq, decide_true, decide_false, Bool.not_true, Bool.not_false, Bool.false_eq_true, Bool.not_eq_true', decide_eq_false_iff_not, if_true, if_false, jai, jaq, jaz, qb, Option.map_some, Int.toNat_natCast, not_true_eq_false, not_false_eq_true, true_and, and_true, and_self, false_and, and_false, reduceIte, jct, jcm, beq_self_eq_true, ne_eq, bne_self_eq_false, hx, yca hx hl, e']
theorem yn0 {t : Timetable} (hg : Good t.Network) {i : Nat} {x : Trip} {l : Line} (hx : t.Trips[i]? = some x) (hl : idx t.Network.Lines x.Line = some l) (hs : 0 <= x.Start /\ x.Start <= 1799) : zq83 t (i : Int) = some (x.Start + l.Runs.sum) := by
 have h := ya5 hg hl
 obtain ⟨⟨h1, h2, h3⟩, h4⟩ := yal h
 have e : w64 ((l.Stops.length : Int) - 1) = (l.Runs.length : Int) := by rw [jai (by omega)]; omega
 unfold zq83
 rw [yi6 hx hl]
 simp only [qb, e, ylp hg hx hl hs (Nat.le_refl _), List.take_length]
def ycp (t : Timetable) : Prop := (∀ (i : Nat) x, t.Trips[i]? = some x -> ya6 t.Network x) /\ ∀ (i : Nat) a b, t.Trips[i]? = some a -> t.Trips[i + 1]? = some b -> a.Id < b.Id
noncomputable instance (t : Timetable) : Decidable (ycp t) := Classical.propDecidable _
theorem yr4 {t : Timetable} (hb : TB t) (hg : Good t.Network) (x : Trip) (last : Int) (hlast : 0 <= last) : ((if (decide (x.Id <= last)) = true then some true else if (decide (999 < x.Id)) = true then some true else (zq23 t.Network x.Line).bind fun r =>
   if (!r) = true then some true else (zq7 x.Start).bind fun r1 =>
   if (!r1) = true then some true else (zq22 t x).bind fun r2 =>
   (zq7 r2).bind fun r3 =>
   some (!r3))) = some (!decide (last < x.Id /\ ya6 t.Network x)) := by
 by_cases c1 : x.Id <= last
 ·have : ¬ (last < x.Id /\ ya6 t.Network x) := fun h => by omega
  simp [c1, this]
 ·by_cases c2 : 999 < x.Id
  ·have : ¬ (last < x.Id /\ ya6 t.Network x) := fun h => by have := h.2.1; omega
   simp [c1, c2, this]
  ·simp only [ylv, ylf, qb, c1, c2, decide_false, Bool.false_eq_true, if_false]
   by_cases c3 : 0 <= x.Line /\ x.Line < (t.Network.Lines.length : Int)
   ·obtain ⟨l, hl, _⟩ := jds (l := t.Network.Lines) c3.1 c3.2
    by_cases c4 : 0 <= x.Start /\ x.Start <= 1799
    ·have hT : (last < x.Id /\ ya6 t.Network x) ↔ (0 <= x.Start + l.Runs.sum /\ x.Start + l.Runs.sum <= 1799) := by
      constructor
      ·rintro ⟨_, _, l', hl', _, h⟩
       rw [hl] at hl'; cases hl'; exact h
      ·intro h; exact ⟨by omega, ⟨by omega, by omega⟩, l, hl, c4, h⟩
     simp only [c3, c4, and_self, decide_true, Bool.not_true, Bool.false_eq_true, if_false, yn3 hg hl c4, ylf, qb, hT]
    ·have : ¬ (last < x.Id /\ ya6 t.Network x) := fun h => by
      obtain ⟨_, _, l', _, h4, _⟩ := h
      exact c4 h4
     simp only [c3, c4, this, and_self, decide_true, decide_false, Bool.not_true, Bool.not_false, Bool.false_eq_true, if_false, if_true]
   ·have : ¬ (last < x.Id /\ ya6 t.Network x) := fun h => by
     obtain ⟨_, _, l', hl', _⟩ := h
     have := jj6 hl'
     exact c3 ⟨this.1, this.2.1⟩
    simp only [c3, this, decide_false, Bool.not_false, if_true]
theorem ygd {t : Timetable} (hb : TB t) (hg : Good t.Network) : zq12 t = some (decide (t.Trips.length <= 12 /\ ycp t)) := by
 unfold zq12
 by_cases h12 : t.Trips.length <= 12
 ·have d : decide ((12 : Int) < (t.Trips.length : Int)) = false := by simp; omega
  have e : decide (t.Trips.length <= 12 /\ ycp t) = decide (ycp t) := by simp [h12]
  rw [d, e]
  simp only [Bool.false_eq_true, if_false]
  refine jqa (.iter (fun m a => ∃ i : Nat, a.2 = (i : Int) /\ m + i = t.Trips.length /\ 0 <= a.1 /\ (∀ y, 0 < i -> t.Trips[i - 1]? = some y -> a.1 = y.Id) /\ (i = 0 -> a.1 = 0) /\ (∀ (j : Nat) x, j < i -> t.Trips[j]? = some x -> ya6 t.Network x) /\ ∀ (j : Nat) a b, j + 1 < i -> t.Trips[j]? = some a -> t.Trips[j + 1]? = some b -> a.Id < b.Id)
   (n := t.Trips.length) ⟨0, rfl, rfl, by simp, by simp, by simp, fun j x h => by omega, fun j a b h => by omega⟩ ?_)
  rintro m ⟨last, v⟩ ⟨i, hv, hm, h0, h1, h2, h3, h4⟩
  simp only at hv h0 h1 h2
  subst hv
  unfold yfo
  refine .iteP (fun hc => ?_) (fun hc => .dn (.inl ⟨rfl, fun j x hx => h3 j x (by have := jbw hx; omega) hx, fun j a b ha hb' => h4 j a b (by have := jbw hb'; omega) ha hb'⟩))
  obtain ⟨x, hx⟩ := ja8 (l := t.Trips) (i := i) (by omega)
  refine .eq (by rw [jaz]; exact hx) (.eq (yr4 hb hg x last h0) (.iteN (fun hn => .dn (.inr ⟨rfl, fun hp => hn ⟨?_, hp.1 i x hx⟩⟩)) (fun hp => .nx ⟨m - 1, by omega, i + 1, jak (by omega), by omega, ?_, ?_, by simp, ?_, ?_⟩)))
  ·by_cases hi : i = 0
   ·rw [h2 hi]; have := (hp.1 i x hx).1; omega
   ·obtain ⟨y, hy⟩ := ja8 (l := t.Trips) (i := i - 1) (by omega)
    rw [h1 y (by omega) hy]
    exact hp.2 (i - 1) y x hy (by rw [show i - 1 + 1 = i by omega]; exact hx)
  ·show 0 <= x.Id
   have := hp.2.1; omega
  ·intro y _ hy
   rw [show i + 1 - 1 = i by omega, hx] at hy; cases hy; rfl
  ·intro j y hj hy
   by_cases hji : j = i
   ·subst hji; rw [hx] at hy; cases hy; exact hp.2
   ·exact h3 j y (by omega) hy
  ·intro j a b hj ha hb'
   by_cases hji : j + 1 = i
   ·subst hji; rw [hx] at hb'; cases hb'
    have := h1 a (by omega) (by simpa using ha)
    omega
   ·exact h4 j a b (by omega) ha hb'
 ·have d : decide ((12 : Int) < (t.Trips.length : Int)) = true := by simp; omega
  simp [d, h12]
def yge (t : Timetable) (i : Nat) (x : Trip) : Prop := ya6 t.Network x /\ ∀ y, 0 < i -> t.Trips[i - 1]? = some y -> y.Id < x.Id
noncomputable instance (t : Timetable) (i : Nat) (x : Trip) : Decidable (yge t i x) := Classical.propDecidable _
theorem yen (t : Timetable) : yae t ↔ Good t.Network /\ t.Trips.length <= 12 /\ ycp t := Iff.rfl
theorem yb8 {t : Timetable} (hb : TB t) : zq8 t = some (decide (yae t)) := by
 unfold zq8
 rw [ynp _ hb.1]
 by_cases hg : Good t.Network
 ·simp only [hg, decide_true, if_true, qb, ygd hb hg, yen, true_and]
 ·have : ¬ yae t := fun h => hg h.1
  simp [hg, this]
theorem yiy {t : Timetable} (hb : TB t) : zq85 t = some (decide (yae t)) := by
 unfold zq85
 rw [yrl _ hb.1]
 by_cases hg : Good t.Network
 ·by_cases h12 : t.Trips.length <= 12
  ·have d : decide ((12 : Int) < (t.Trips.length : Int)) = false := by simp; omega
   have e : decide (yae t) = decide (ycp t) := by rw [decide_eq_decide, yen]; simp [hg, h12]
   simp only [hg, decide_true, Bool.not_true, Bool.false_eq_true, if_false, qb, d, e]
   refine jqa (.iter (fun m a => ∃ i : Nat, a = (i : Int) /\ m + i = t.Trips.length /\ (∀ (j : Nat) x, j < i -> t.Trips[j]? = some x -> ya6 t.Network x) /\ ∀ (j : Nat) a b, j + 1 < i -> t.Trips[j]? = some a -> t.Trips[j + 1]? = some b -> a.Id < b.Id)
    (n := t.Trips.length) ⟨0, rfl, rfl, fun j x h => by omega, fun j a b h => by omega⟩ ?_)
   rintro m v ⟨i, hv, hm, h3, h4⟩
   subst hv
   unfold yeu
   refine .iteP (fun hc => ?_) (fun hc => .dn (.inl ⟨rfl, fun j x hx => h3 j x (by have := jbw hx; omega) hx, fun j a b ha hb' => h4 j a b (by have := jbw hb'; omega) ha hb'⟩))
   obtain ⟨x, hx⟩ := ja8 (l := t.Trips) (i := i) (by omega)
   refine .eq (by rw [jaz]; exact hx) ?_
   have hll := hg.2.1
   have ew : w64 ((t.Network.Lines.length : Int) - 1) = (t.Network.Lines.length : Int) - 1 := jai (by omega)
   have key : ((zq60 x.Id 1 999).bind fun r6 =>
   (if (!r6) = true then some true else (zq60 x.Line 0 (w64 ((t.Network.Lines.length : Int) - 1))).bind fun r7 =>
   if (!r7) = true then some true else (zq81 x.Start).bind fun r8 =>
   if (!r8) = true then some true else (zq83 t (i : Int)).bind fun r9 =>
   (zq81 r9).bind fun r10 =>
   if (!r10) = true then some true else if (decide (0 < (i : Int))) = true then (idx t.Trips (w64 ((i : Int) - 1))).bind fun e2 =>
   some (decide (x.Id <= e2.Id)) else some false)) = some (!decide (yge t i x)) := by
    have no : ¬ ya6 t.Network x -> (!decide (yge t i x)) = true := fun h => (by simp [show ¬ yge t i x from fun q => h q.1])
    simp only [ya0, yei, ew, qb]
    by_cases c1 : 1 <= x.Id /\ x.Id <= 999
    ·by_cases c3 : 0 <= x.Line /\ x.Line <= (t.Network.Lines.length : Int) - 1
     ·obtain ⟨l, hl, _⟩ := jds (l := t.Network.Lines) c3.1 (by omega)
      by_cases c4 : 0 <= x.Start /\ x.Start <= 1799
      ·simp only [c1, c3, c4, and_self, decide_true, Bool.not_true, Bool.false_eq_true, if_false, yn0 hg hx hl c4, yei, qb]
       by_cases c5 : 0 <= x.Start + l.Runs.sum /\ x.Start + l.Runs.sum <= 1799
       ·have hT : ya6 t.Network x := ⟨c1, l, hl, c4, c5⟩
        simp only [c5, and_self, decide_true, Bool.not_true, Bool.false_eq_true, if_false, ]
        by_cases c6 : 0 < i
        ·obtain ⟨y, hy⟩ := ja8 (l := t.Trips) (i := i - 1) (by omega)
         have e1 : w64 ((i : Int) - 1) = ((i - 1 : Nat) : Int) := by rw [jai (by omega)]; omega
         have c6' : (0 : Int) < (i : Int) := by omega
         simp only [c6', decide_true, if_true, e1, jaz, hy, qb, Option.some.injEq]
         by_cases c7 : x.Id <= y.Id
         ·have : ¬ yge t i x := fun h => by have := h.2 y c6 hy; omega
          simp only [c7, decide_true, this, decide_false, Bool.not_false]
         ·have : yge t i x := ⟨hT, fun z _ hz => by rw [hy] at hz; cases hz; omega⟩
          simp only [c7, decide_false, this, decide_true, Bool.not_true]
        ·have c6' : ¬ (0 : Int) < (i : Int) := by omega
         have : yge t i x := ⟨hT, fun z h0 _ => absurd h0 c6⟩
         simp only [c6', decide_false, Bool.false_eq_true, if_false, this, decide_true, Bool.not_true]
       ·rw [no (fun hT => by
         obtain ⟨_, l', hl', _, h⟩ := hT
         rw [hl] at hl'; cases hl'; exact c5 h)]
        simp only [c5, decide_false, Bool.not_false, if_true]
      ·rw [no (fun hT => by obtain ⟨_, l', _, h, _⟩ := hT; exact c4 h)]
       simp only [c1, c3, c4, and_self, decide_true, decide_false, Bool.not_true, Bool.not_false, Bool.false_eq_true, if_false, if_true]
     ·rw [no (fun hT => by
       obtain ⟨_, l', hl', _⟩ := hT
       have := jj6 hl'
       exact c3 ⟨this.1, by omega⟩)]
      simp only [c1, c3, and_self, decide_true, decide_false, Bool.not_true, Bool.not_false, Bool.false_eq_true, if_false, if_true]
    ·rw [no (fun hT => c1 hT.1)]
     simp only [c1, decide_false, Bool.not_false, if_true]
   rw [jmc, key]
   refine .iteN (fun hn => .dn (.inr ⟨rfl, fun hp => hn ⟨hp.1 i x hx, fun y hi hy => hp.2 (i - 1) y x hy (by rw [show i - 1 + 1 = i by omega]; exact hx)⟩⟩)) (fun hp => .nx ⟨m - 1, by omega, i + 1, jak (by omega), by omega, ?_, ?_⟩)
   ·intro j y hj hy
    by_cases hji : j = i
    ·subst hji; rw [hx] at hy; cases hy; exact hp.1
    ·exact h3 j y (by omega) hy
   ·intro j a b hj ha hb'
    by_cases hji : j + 1 = i
    ·subst hji; rw [hx] at hb'; cases hb'
     exact hp.2 a (by omega) (by simpa using ha)
    ·exact h4 j a b (by omega) ha hb'
  ·have d : decide ((12 : Int) < (t.Trips.length : Int)) = true := by simp; omega
   have : ¬ yae t := fun h => h12 h.2.1
   simp [hg, d, this]
 ·have : ¬ yae t := fun h => hg h.1
  simp [hg, this]
theorem yd9 (t : Timetable) (h : t.Trips.length <= 1000) (id : Int) : zq31 t id = some (fixI (fun x => x.Id == id) t.Trips) := by
 unfold zq31 ynj ynk
 rw [jcq t.Trips (fun x => x.Id == id) (fun i x hx => ?_) (by unfold ybp; simp)]
 ·rfl
 ·have := jbw hx
  unfold ybp zq32
  simp (disch := omega) only [if_pos, if_neg, decide_eq_true_eq, decide_true, decide_false, Bool.not_true, Bool.not_false, Bool.false_eq_true, Bool.not_eq_true', decide_eq_false_iff_not, if_true, if_false, jai, jaq, jaz, qb, Option.map_some, Int.toNat_natCast, not_true_eq_false, not_false_eq_true, true_and, and_true, and_self, false_and, and_false, reduceIte, jct, jcm, beq_self_eq_true, ne_eq, bne_self_eq_false, hx, Int.ofNat_lt.2 this]
  split <;> simp [*] <;> omega
theorem yeh (t : Timetable) (h : t.Trips.length <= 1000) (id : Int) : zq84 t id = some (fixI (fun x => x.Id == id) t.Trips) := by
 unfold zq84
 rw [jcq t.Trips (fun x => x.Id == id) (fun i x hx => ?_) (by unfold ycq; simp)]
 have := jbw hx
 unfold ycq
 simp (disch := omega) only [if_pos, if_neg, decide_eq_true_eq, decide_true, decide_false, Bool.not_true, Bool.not_false, Bool.false_eq_true, Bool.not_eq_true', decide_eq_false_iff_not, if_true, if_false, jai, jaq, jaz, qb, Option.map_some, Int.toNat_natCast, not_true_eq_false, not_false_eq_true, true_and, and_true, and_self, false_and, and_false, reduceIte, jct, jcm, beq_self_eq_true, ne_eq, bne_self_eq_false, hx, Int.ofNat_lt.2 this]
 split <;> simp [*] <;> omega
theorem yef {t : Timetable} {x : Trip} {l : Line} (hl : idx t.Network.Lines x.Line = some l) : zq28 t x = some l := by
 unfold zq28; rw [hl]; rfl
theorem yb9 {t : Timetable} (h : yae t) {i : Nat} {x : Trip} (hx : t.Trips[i]? = some x) : ∃ l, idx t.Network.Lines x.Line = some l /\ yag t.Network.Stops.length l /\ (1 <= x.Id /\ x.Id <= 999) /\ (0 <= x.Start /\ x.Start <= 1799) /\ 0 <= x.Start + l.Runs.sum /\ x.Start + l.Runs.sum <= 1799 := by
 obtain ⟨h1, l, hl, h2, h3⟩ := h.2.2.1 i x hx
 exact ⟨l, hl, ya5 h.1 hl, h1, h2, h3⟩
theorem yr9 {t : Timetable} (h : yae t) {i j : Nat} {a b : Trip} (hij : i < j) (ha : t.Trips[i]? = some a) (hb : t.Trips[j]? = some b) : a.Id < b.Id := by
 induction j generalizing b with
 | zero => omega
 | succ j ih =>
  obtain ⟨c, hc⟩ := ja8 (l := t.Trips) (i := j) (by have := jbw hb; omega)
  have h1 := h.2.2.2 j c b hc hb
  by_cases hji : i = j
  ·subst hji; rw [ha] at hc; cases hc; exact h1
  ·have := ih (by omega) hc; omega
def ST (l : Line) (s : Int) : List Int := (List.range (l.Runs.length + 1)).map fun k => s + (l.Runs.take k).sum
theorem ysb (l : Line) (s : Int) : (ST l s).length = l.Runs.length + 1 := by simp [ST]
theorem yn4 {l : Line} {s : Int} {k : Nat} (hk : k <= l.Runs.length) : (ST l s)[k]? = some (s + (l.Runs.take k).sum) := by
 unfold ST; rw [List.getElem?_map, List.getElem?_range (by omega)]; rfl
theorem yec {t : Timetable} {x : Trip} {l : Line} {st : Nat} (hl : idx t.Network.Lines x.Line = some l) (hp : yag st l) (hs : 0 <= x.Start /\ x.Start <= 1799) : zq29 t x = some (ST l x.Start) := by
 obtain ⟨⟨h1, h2, h3⟩, h4⟩ := yal hp
 unfold zq29
 rw [yef hl]
 simp only [qb]
 refine Tot.val (.call (P := fun v => v = ST l x.Start) ?_ fun v h => .ok h)
 refine .iter (fun m s => ∃ k : Nat, s.1 = (k : Int) /\ m + k = l.Runs.length /\ s.2 = (ST l x.Start).take (k + 1)) (n := l.Runs.length) ⟨0, rfl, rfl, ?_⟩ ?_
 ·rw [jbe (x := x.Start) (by have := yn4 (l := l) (s := x.Start) (k := 0) (by omega); simpa using this)]; rfl
 ·rintro m ⟨v, r⟩ ⟨k, hk, hm, hr⟩
  simp only at hk hr
  subst hk
  unfold ye8
  have hlen := ysb l x.Start
  refine .iteP (fun hc => ?_) (fun hc => .dn (by rw [hr, List.take_of_length_le (by omega)]))
  obtain ⟨e, he⟩ := ja8 (l := l.Runs) (i := k) (by omega)
  have hk1 := yn4 (l := l) (s := x.Start) (k := k) (by omega)
  have hk2 := yn4 (l := l) (s := x.Start) (k := k + 1) (by omega)
  have b1 := ydq hp k
  have b2 := h4 e (List.mem_of_getElem? he)
  refine .eq (by rw [jaz]; exact he) (.eq (by rw [jaz, hr, List.getElem?_take_of_lt (by omega)]; exact hk1) (.chk (by rw [hr]; simp; omega) (.nx ⟨m - 1, by omega, k + 1, jak (by omega), by omega, ?_⟩)))
  show r ++ [w64 (x.Start + (l.Runs.take k).sum + e)] = _
  rw [jbe hk2, hr, jai (by omega), jfh he, Int.add_assoc]
theorem yma {k : Nat} {c : l1Cur} (h : Cur k c) (hk : k <= 200000000) : Tot (zq45 c) fun r => Cur (k + 1000) r.2 /\ Bd r.1 := ydw h hk
def DT (t : Timetable) : Prop := Bd t.Network /\ t.Trips.length <= 30
theorem DT.tb {t : Timetable} (h : DT t) : TB t := ⟨h.1, by have := h.2; omega⟩
theorem yea {k : Nat} {c : l1Cur} (h : Cur k c) (hk : k <= 100000000) : Tot (zq58 c) fun r => Cur (k + 400) r.2 /\ DT r.1 /\ NB r.1.Network /\ r.1.Trips.length <= 8 := by
 unfold zq58
 refine .call (yaz h (by omega)) fun r ⟨hc, hn⟩ => .call (yab 8 hc (by omega)) fun r1 ⟨hc1, h0, h1⟩ => ?_
 refine .call (P := fun o => Cur (k + 400) ⟨o.1, o.2.1, ⟨o.2.2.1⟩⟩ /\ o.2.2.2.length <= 8) ?_ fun o ⟨ho1, ho2⟩ => .ok ⟨ho1, ⟨hn.bd, by show o.2.2.2.length <= 30; omega⟩, hn, ho2⟩
 refine .iter (fun m s => s.2.1 = (m : Int) /\ m + s.2.2.2.2.2.length <= 8 /\ Cur (k + 302 + 6 * (8 - m)) ⟨s.2.2.1, s.2.2.2.1, ⟨s.2.2.2.2.1⟩⟩) (n := r1.1.toNat) ⟨by show r1.1 = _; omega, by show r1.1.toNat + 0 <= 8; omega, hc1.mono (by omega)⟩ ?_
 rintro m ⟨n, v, v1, v2, v3, v4⟩ ⟨hv, hl, hcur⟩
 simp only at hv hl hcur
 subst hv
 unfold ye2
 refine .iteP (fun hc => ?_) (fun hc => .dn ⟨hcur.mono (by omega), by show v4.length <= 8; omega⟩)
 refine .call (yab 3 hcur (by omega)) fun r2 ⟨hc2, _⟩ => .call (yab _ hc2 (by omega)) fun r5 ⟨hc5, _⟩ => .call (yab 24 hc5 (by omega)) fun r6 ⟨hc6, _⟩ => .chk (by simp; omega) (.nx ⟨m - 1, by omega, ?_, ?_, ?_⟩)
 ·show w64 ((m : Int) - 1) = _; rw [jai (by omega)]; omega
 ·show m - 1 + (v4 ++ [_]).length <= 8; simp; omega
 ·exact hc6.mono (by omega)
theorem ycg {k : Nat} {c : l1Cur} (h : Cur k c) (hk : k <= 50000000) : Tot (zq46 c) fun r => Cur (k + 2000) r.2 /\ DT r.1 := by
 unfold zq46
 refine .call (yea h (by omega)) fun r ⟨hc, hd, hn, hl⟩ => ?_
 refine .ite (fun _ => .ok ⟨hc.mono (by omega), hd⟩) fun he => ?_
 have hpos : 0 < r.1.Trips.length := by
  have : (r.1.Trips.length : Int) ≠ 0 := by simpa using he
  omega
 refine .call (yab _ hc (by omega)) fun r1 ⟨hc1, h10, h11⟩ => ?_
 have h12 : r1.1 < (r.1.Trips.length : Int) := by omega
 refine .idx h10 h12 fun e _ => ?_
 have fin : ∀ (v : List UInt8) (v1 v2 : Int) (v3 : List Line) (v4 v5 v6 : Int) (v7 : List ByteArray), Cur (k + 2000) ⟨v, v1, ⟨v2⟩⟩ -> Bd ⟨v7, v3⟩ -> Tot ((idx r.1.Trips r1.1).bind fun e2 => some ((⟨(⟨v7, v3⟩ : Network), (r.1.Trips.set r1.1.toNat (⟨v4, v5, v6⟩ : Trip))⟩ : Timetable), (⟨v, v1, (⟨v2⟩ : IK .u64)⟩ : l1Cur))) fun r => Cur (k + 2000) r.2 /\ DT r.1 := fun v v1 v2 v3 v4 v5 v6 v7 q1 q2 =>
  .idx h10 h12 fun e2 _ => .ok ⟨q1, q2, by show (r.1.Trips.set _ _).length <= 30; rw [List.length_set]; omega⟩
 refine .flb (.call (yab 24 hc1 (by omega)) fun r2 ⟨hc2, _⟩ => ?_)
 refine .ite (fun _ => .call (ydx _ (by simp) hc2 (by omega)) fun r3 ⟨hc3, _⟩ => .go (fin _ _ _ _ _ _ _ _ (hc3.mono (by omega)) hd.1)) fun _ => ?_
 refine .ite (fun _ => .call (yab 7 hc2 (by omega)) fun r3 ⟨hc3, _⟩ => .go (fin _ _ _ _ _ _ _ _ (hc3.mono (by omega)) hd.1)) fun _ => ?_
 refine .ite (fun _ => .call (ydx _ (by simp) hc2 (by omega)) fun r3 ⟨hc3, _⟩ => .go (fin _ _ _ _ _ _ _ _ (hc3.mono (by omega)) hd.1)) fun _ => ?_
 refine .ite (fun _ => .call (yma hc2 (by omega)) fun r3 ⟨hc3, hb⟩ => .go (fin _ _ _ _ _ _ _ _ (hc3.mono (by omega)) hb)) fun _ => ?_
 refine .ite (fun _ => ?_) fun _ => .go (fin _ _ _ _ _ _ _ _ (hc2.mono (by omega)) hd.1)
 refine .call (P := fun o => Cur (k + 2000) ⟨o.1, o.2.1, ⟨o.2.2.1⟩⟩ /\ o.2.2.2.length <= 30) ?_ fun o ⟨ho1, ho2⟩ => .ret ⟨ho1, hd.1, ho2⟩
 refine .iter (fun m s => ∃ i : Nat, s.1 = (i : Int) /\ m + i = 14 /\ s.2.2.2.2.length <= 8 + i /\ Cur (k + 500 + 2 * i) ⟨s.2.1, s.2.2.1, ⟨s.2.2.2.1⟩⟩) (n := 14) ⟨0, rfl, rfl, by simpa using hl, hc2.mono (by omega)⟩ ?_
 rintro m ⟨v8, v9, v10, v11, v12⟩ ⟨i, hv, hm, hl12, hcur⟩
 simp only at hv hl12 hcur
 subst hv
 unfold ye4
 refine .call (yab 2 hcur (by omega)) fun r8 ⟨hc8, _⟩ => ?_
 refine .call (P := fun b => b = true -> i < 14) (.ite (fun _ => .ok fun hb => by simp at hb; omega) fun _ => .ok fun hb => by cases hb) fun b hb => ?_
 refine .ite (fun ht => .chk (by simp; omega) (.nx ⟨m - 1, by have := hb ht; omega, i + 1, jak (by omega), by have := hb ht; omega, ?_, hc8.mono (by omega)⟩)) (fun _ => .dn ⟨hc8.mono (by omega), by show v12.length <= 30; omega⟩)
 show (v12 ++ [_]).length <= 8 + (i + 1); simp; omega
theorem ynq {k : Nat} {c : l1Cur} (h : Cur k c) (hk : k <= 40000000) : Tot (zq59 c) fun r => Cur (k + 3000) r.2 /\ DT r.1 := by
 unfold zq59
 refine .call (yll 16 h (by omega)) fun r hc => ?_
 refine .ite (fun _ => .call (ycg hc (by omega)) fun r1 ⟨hc1, hd⟩ => .ok ⟨hc1.mono (by omega), hd⟩) fun _ => ?_
 refine .call (yaz hc (by omega)) fun r2 ⟨hc2, hn⟩ => .call (yab 6 hc2 (by omega)) fun r3 ⟨hc3, h30, h31⟩ => ?_
 refine .call (P := fun o => Cur (k + 3000) ⟨o.1, o.2.1, ⟨o.2.2.1⟩⟩ /\ o.2.2.2.length <= 10) ?_ fun o ⟨ho1, ho2⟩ => ?_
 ·refine .iter (fun m s => s.1 = (m : Int) /\ m + s.2.2.2.2.length <= 10 /\ Cur (k + 310 + 6 * (10 - m)) ⟨s.2.1, s.2.2.1, ⟨s.2.2.2.1⟩⟩) (n := 3 + r3.1.toNat) ⟨by show w64 (3 + r3.1) = _; rw [jai (by omega)]; omega, by show 3 + r3.1.toNat + 0 <= 10; omega, hc3.mono (by omega)⟩ ?_
  rintro m ⟨i, v, v1, v2, v3⟩ ⟨hv, hl, hcur⟩
  simp only at hv hl hcur
  subst hv
  unfold ye1
  refine .iteP (fun hc => ?_) (fun hc => .dn ⟨hcur.mono (by omega), by show v3.length <= 10; omega⟩)
  refine .call (yab 2 hcur (by omega)) fun r7 ⟨hc7, _⟩ => .call (yab _ hc7 (by omega)) fun r8 ⟨hc8, _⟩ => .call (yab 16 hc8 (by omega)) fun r9 ⟨hc9, _⟩ => .chk (by simp; omega) (.nx ⟨m - 1, by omega, ?_, ?_, ?_⟩)
  ·show w64 ((m : Int) - 1) = _; rw [jai (by omega)]; omega
  ·show m - 1 + (v3 ++ [_]).length <= 10; simp; omega
  ·exact hc9.mono (by omega)
 ·refine .call (P := fun l => l.length <= 10) ?_ fun l hl => .ok ⟨ho1, hn.bd, by show l.length <= 30; omega⟩
  refine .iter (fun m s => ∃ i : Nat, s.1 = (i : Int) /\ 1 <= i /\ m + i = 11 /\ s.2.length <= 10) (n := 10) ⟨1, rfl, by omega, by omega, ho2⟩ ?_
  rintro m ⟨x, v8⟩ ⟨i, hx, h1, hm, hl⟩
  simp only at hx hl
  subst hx
  unfold ye0
  refine .iteP (fun hc => ?_) (fun hc => .dn hl)
  have e1 : w64 ((i : Int) - 1) = (i : Int) - 1 := jai (by omega)
  refine .idx (by omega) hc fun e _ => ?_
  rw [e1]
  refine .idx (by omega) (by omega) fun e2 _ => ?_
  refine .call (P := fun _ => True) ?_ fun r11 _ => .idx (by omega) hc fun e3 _ => .nx ⟨m - 1, by omega, i + 1, jak (by omega), by omega, by omega, by show (v8.set _ _).length <= 10; rw [List.length_set]; exact hl⟩
  unfold zq61
  exact .ite (fun _ => .ok trivial) fun _ => .ok trivial
theorem ybh {k : Nat} {c : l1Cur} (n : Int) (h : Cur k c) (hk : k <= 3000000000) : Tot (zq56 c n) fun r => Cur (k + 2) r.2 /\ 0 <= r.1 /\ (r.1 < n \/ r.1 = 0) := yab n h hk
theorem ylh {k : Nat} {c : l1Cur} (n : Int) (h : Cur k c) (hk : k <= 3000000000) : Tot (zq55 c n) fun r => Cur (k + 2) r.2 := yll n h hk
theorem yrh {k : Nat} {c : l1Cur} (l : List Int) (hl : l ≠ []) (h : Cur k c) (hk : k <= 3000000000) : Tot (zq43 c l) fun r => Cur (k + 2) r.2 /\ r.1 ∈ l := ydx l hl h hk
theorem yns {k : Nat} {c : l1Cur} (l : List Int) (hl : l ≠ []) (h : Cur k c) (hk : k <= 3000000000) : Tot (zq44 c l) fun r => Cur (k + 2) r.2 /\ r.1 ∈ l := ych l hl h hk
theorem yr5 {k : Nat} {c : l1Cur} (h : Cur k c) (hk : k <= 2000000000) : Tot (zq57 c) fun r => Cur (k + 4) r.2 := by
 unfold zq57
 refine Tot.call (ylh 16 h (by omega)) fun r hr => .ite (fun _ => ?_) (fun _ => ?_)
 ·exact Tot.call (yrh _ (by simp) hr (by omega)) fun r hr => .ok hr.1
 ·exact Tot.call (ybh 240 hr (by omega)) fun r hr => .ok hr.1
theorem yrg (code : List UInt8) : ykw code = some (decide (65536 < (code.length : Int))) := rfl
theorem ya1 (x y : Int) : zq0 x y = some (if x < y then -1 else if y < x then 1 else 0) := by
 unfold zq0 zq1
 by_cases h : x < y
 ·simp [h]
 ·by_cases h2 : y < x <;> simp [h, h2]
theorem ycn (a : List Int) (h : a.length <= 1000) : yfb a a = some true := by
 unfold yfb
 simp only [bne_self_eq_false, Bool.false_eq_true, if_false]
 rw [jd8 (hd := Classical.propDecidable _) a (fun _ _ => True) (fun i x hx => ?_) (by unfold ybl; simp)]
 ·rw [if_pos (fun _ _ _ => trivial)]
 ·have hi := (List.getElem?_eq_some_iff.1 hx).1
  unfold ybl
  have hlt : decide ((i : Int) < (a.length : Int)) = true := by simp; omega
  left
  simp only [hlt, if_true, jaz, hx, qb, bne_self_eq_false, Bool.false_eq_true, if_false, jak (n := i) (by omega), and_self]
theorem yi9 (n : Network) (h : Bd n) : zq20 n = some n := by
 obtain ⟨h1, h2, h3⟩ := h
 unfold zq20
 rw [yl4 _ h1, jaq (by omega)]
 simp only [qb]
 rw [jlc (fun x : Line => x) n.Lines _ (by simp) (fun i a x y ha hy hx => ?_) (fun a ha => ?_)]
 ·simp only [qb, List.map_id']
 ·have hi := (List.getElem?_eq_some_iff.1 hx).1
  obtain ⟨g1, g2⟩ := h3 x (List.mem_of_getElem? hx)
  unfold ydd
  have hlt : decide ((i : Int) < (n.Lines.length : Int)) = true := by simp; omega
  simp only [hlt, if_true, jaz, hx, hy, qb, ygc x g1 g2, jak (n := i) (by omega), Int.toNat_natCast]
 ·unfold ydd; simp
theorem yl3 (l : List Trip) (h : l.length <= 1000) : zq91 l = some l := by
 unfold zq91
 rw [jaq (by simp; omega)]; rfl
theorem ydv {t : Timetable} (h : TB t) : zq21 t = some t := by
 unfold zq21
 rw [yi9 _ h.1]
 simp only [qb, yl3 _ h.2]
theorem yds {t : Timetable} (h : TB t) : zq87 t = some t := by
 have := h.2
 unfold zq87
 rw [yiu _ h.1]
 simp only [qb]
 rw [jaq (by simp; omega)]
 rfl
def AtP (l : List Trip) (x : Trip) (p : Nat) : Prop := p <= l.length /\ (∀ (j : Nat) y, j < p -> l[j]? = some y -> y.Id < x.Id) /\ ∀ y, l[p]? = some y -> ¬ y.Id < x.Id
theorem ynw {t : Timetable} (h : t.Trips.length <= 1000) (x : Trip) : ∃ p : Nat, iter (yaw t x) (0 : Int) = some (p : Int) /\ AtP t.Trips x p := by
 have : Tot (iter (yaw t x) (0 : Int)) fun v => ∃ p : Nat, v = (p : Int) /\ AtP t.Trips x p := by
  refine .iter (fun m v => ∃ i : Nat, v = (i : Int) /\ m + i = t.Trips.length /\ ∀ (j : Nat) y, j < i -> t.Trips[j]? = some y -> y.Id < x.Id) (n := t.Trips.length) ⟨0, rfl, rfl, fun j y hj => by omega⟩ ?_
  rintro m v ⟨i, rfl, hm, hj⟩
  unfold yaw
  by_cases hc : i < t.Trips.length
  ·obtain ⟨y, hy⟩ := ja8 (l := t.Trips) (i := i) hc
   by_cases hlt : y.Id < x.Id
   ·simp (disch := omega) only [if_pos, if_neg, decide_eq_true_eq, decide_true, decide_false, Bool.not_true, Bool.not_false, Bool.false_eq_true, Bool.not_eq_true', decide_eq_false_iff_not, if_true, if_false, jai, jaq, jaz, qb, Option.map_some, Int.toNat_natCast, not_true_eq_false, not_false_eq_true, true_and, and_true, and_self, false_and, and_false, reduceIte, jct, jcm, beq_self_eq_true, ne_eq, bne_self_eq_false, hy, Int.ofNat_lt.2 hc, hlt]
    refine .nx ⟨m - 1, by omega, i + 1, by omega, by omega, fun j z hjz hz => ?_⟩
    by_cases hji : j = i
    ·subst hji; rw [hy] at hz; cases hz; exact hlt
    ·exact hj j z (by omega) hz
   ·simp (disch := omega) only [if_pos, if_neg, decide_eq_true_eq, decide_true, decide_false, Bool.not_true, Bool.not_false, Bool.false_eq_true, Bool.not_eq_true', decide_eq_false_iff_not, if_true, if_false, jai, jaq, jaz, qb, Option.map_some, Int.toNat_natCast, not_true_eq_false, not_false_eq_true, true_and, and_true, and_self, false_and, and_false, reduceIte, jct, jcm, beq_self_eq_true, ne_eq, bne_self_eq_false, hy, Int.ofNat_lt.2 hc, hlt]
    exact .dn ⟨i, rfl, by omega, hj, fun z hz => by rw [hy] at hz; cases hz; exact hlt⟩
  ·have hc' : ¬ ((i : Int) < (t.Trips.length : Int)) := by omega
   simp (disch := omega) only [if_pos, if_neg, decide_eq_true_eq, decide_true, decide_false, Bool.not_true, Bool.not_false, Bool.false_eq_true, Bool.not_eq_true', decide_eq_false_iff_not, if_true, if_false, jai, jaq, jaz, qb, Option.map_some, Int.toNat_natCast, not_true_eq_false, not_false_eq_true, true_and, and_true, and_self, false_and, and_false, reduceIte, jct, jcm, beq_self_eq_true, ne_eq, bne_self_eq_false, hc']
   exact .dn ⟨i, rfl, by omega, hj, fun z hz => by have := jbw hz; omega⟩
 obtain ⟨v, hv, p, rfl, hp⟩ := this
 exact ⟨p, hv, hp⟩
def putT (t : Timetable) (x : Trip) (p : Nat) : Timetable := ⟨t.Network, t.Trips.take p ++ [x] ++ t.Trips.drop p⟩
theorem ynv {t : Timetable} {x : Trip} {p : Nat} (h : p <= t.Trips.length) : (putT t x p).Trips.length = t.Trips.length + 1 := by
 simp [putT]; omega
theorem yf7 {t : Timetable} (h : TB t) {x : Trip} {p : Nat} (h1 : iter (yaw t x) (0 : Int) = some (p : Int)) (hp : p <= t.Trips.length) : zq33 t x = some (putT t x p) := by
 have h2 := h.2
 unfold zq33
 rw [h1]
 simp only [qb, ydv h]
 unfold yrb insM
 rw [if_pos ⟨by omega, by omega, by simp, by simp; omega⟩]
 rfl
theorem ynz {t : Timetable} (h : TB t) {x : Trip} {p : Nat} (h1 : iter (yaw t x) (0 : Int) = some (p : Int)) (hp : p <= t.Trips.length) : zq88 t x = some (putT t x p) := by
 have h2 := h.2
 have h3 : iter (yer t x) (0 : Int) = some (p : Int) := h1
 unfold zq88
 rw [h3]
 simp only [qb, yds h]
 rw [jaq (by omega)]
 simp only [qb]
 rw [jaq (by simp; omega)]
 simp only [qb]
 rw [jaq (by simp; omega)]
 simp only [qb]
 rw [jaq (by omega)]
 simp only [qb]
 rw [jaq (by simp; omega)]
 simp [putT]
theorem yja {t : Timetable} (h : TB t) : zq15 t = some (if yae t then (t, true) else (⟨⟨[], []⟩, []⟩, false)) := by
 unfold zq15
 rw [yb8 h]
 by_cases hg : yae t <;> simp [hg]
theorem yrn {x : Int} (h : 0 <= x) (k : Nat) : x.fdiv (2 ^ k) = x / (2 ^ k : Nat) := by
 rw [Int.fdiv_eq_ediv_of_nonneg _ (by exact_mod_cast Nat.zero_le (2 ^ k))]
 simp
theorem yit {x y : Int} {v k : Nat} (h : y * (2 ^ v : Nat) <= x) (hy : 0 <= y) : y / (2 ^ k : Nat) * (2 ^ (v + k) : Nat) <= x := by
 have h1 : y / (2 ^ k : Nat) * (2 ^ k : Nat) <= y := Int.ediv_mul_le _ (by have := Nat.two_pow_pos k; omega)
 have h2 : y / (2 ^ k : Nat) * (2 ^ k : Nat) * (2 ^ v : Nat) <= y * (2 ^ v : Nat) := Int.mul_le_mul_of_nonneg_right h1 (Int.natCast_nonneg _)
 rw [Nat.add_comm, Nat.pow_add, Int.natCast_mul, <- Int.mul_assoc]
 omega
theorem yny (x : IK .u64) (h0 : 0 <= x.v) (h1 : x.v < 8589934592) : Tot (zq37 x) fun r => 0 <= r /\ r <= 64 /\ (1 <= x.v -> ((2 ^ r.toNat : Nat) : Int) <= 2 * x.v) := by
 unfold zq37
 refine Tot.call (P := fun (r : Int × Int) => 0 <= r.1 /\ r.1 < 4294967296 /\ (1 <= x.v -> 1 <= r.1) /\ 0 <= r.2 /\ r.2 <= 32 /\ r.1 * (2 ^ r.2.toNat : Nat) <= x.v) (.iteP (fun hc => Tot.chk (by decide) (.ok ?_)) (fun hc => .ok ⟨h0, by dsimp only; omega, fun h => h, Int.le_refl _, by dsimp only; omega, by simp⟩)) fun ⟨x1, v⟩ ⟨p1, p2, p3, p4, p5, p6⟩ => ?_
 ·have e : ((2 ^ 32 : Nat) : Int) = 4294967296 := by decide
  have e2 : x.v.fdiv (2 ^ (min (32 : Int).toNat (IntKind.u64).bits)) = x.v / (2 ^ 32 : Nat) := yrn h0 32
  simp only [e2]
  exact ⟨by omega, by omega, fun _ => by omega, by omega, by omega, Int.ediv_mul_le _ (by decide)⟩
 dsimp only at p1 p2 p3 p4 p5 p6 ⊢
 refine Tot.call (P := fun (r : Int × Int) => 0 <= r.1 /\ r.1 < 65536 /\ (1 <= x.v -> 1 <= r.1) /\ 0 <= r.2 /\ r.2 <= 48 /\ r.1 * (2 ^ r.2.toNat : Nat) <= x.v) (.iteP (fun hc => Tot.chk (by decide) (.ok ?_)) (fun hc => .ok ⟨p1, by dsimp only; omega, p3, p4, by dsimp only; omega, p6⟩)) fun ⟨x2, v1⟩ ⟨q1, q2, q3, q4, q5, q6⟩ => ?_
 ·have e : ((2 ^ 16 : Nat) : Int) = 65536 := by decide
  have e2 : x1.fdiv (2 ^ (min (16 : Int).toNat (IntKind.u64).bits)) = x1 / (2 ^ 16 : Nat) := yrn p1 16
  have e3 : w64 (v + 16) = v + 16 := jai (by omega)
  have e4 : (v + 16).toNat = v.toNat + 16 := by omega
  simp only [e2, e3, e4]
  exact ⟨by omega, by omega, fun _ => by omega, by omega, by omega, yit p6 p1⟩
 dsimp only at q1 q2 q3 q4 q5 q6 ⊢
 refine Tot.call (P := fun (r : Int × Int) => 0 <= r.1 /\ r.1 < 256 /\ (1 <= x.v -> 1 <= r.1) /\ 0 <= r.2 /\ r.2 <= 56 /\ r.1 * (2 ^ r.2.toNat : Nat) <= x.v) (.iteP (fun hc => Tot.chk (by decide) (.ok ?_)) (fun hc => .ok ⟨q1, by dsimp only; omega, q3, q4, by dsimp only; omega, q6⟩)) fun ⟨x3, v2⟩ ⟨r1, r2, r3, r4, r5, r6⟩ => ?_
 ·have e : ((2 ^ 8 : Nat) : Int) = 256 := by decide
  have e2 : x2.fdiv (2 ^ (min (8 : Int).toNat (IntKind.u64).bits)) = x2 / (2 ^ 8 : Nat) := yrn q1 8
  have e3 : w64 (v1 + 8) = v1 + 8 := jai (by omega)
  have e4 : (v1 + 8).toNat = v1.toNat + 8 := by omega
  simp only [e2, e3, e4]
  exact ⟨by omega, by omega, fun _ => by omega, by omega, by omega, yit q6 q1⟩
 dsimp only at r1 r2 r3 r4 r5 r6 ⊢
 have e8 : IntKind.u8.wrap x3 = x3 := Int.emod_eq_of_lt r1 r2
 rw [e8]
 generalize hs : str _ = S
 have hS : (Nat.beq S.size 256 && (List.range 256).all fun i => Nat.ble (S.data.toList.getD i 0).toNat 8 && (Nat.beq i 0 || Nat.ble (2 ^ (S.data.toList.getD i 0).toNat) (2 * i))) = true := by
  rw [<- hs]; kernel_rfl
 clear hs
 simp only [Bool.and_eq_true, List.all_eq_true, List.mem_range, Bool.or_eq_true] at hS
 obtain ⟨s1, s2⟩ := hS
 have s1 := Nat.eq_of_beq_eq_true s1
 obtain ⟨n, rfl⟩ : ∃ n : Nat, x3 = n := ⟨x3.toNat, by omega⟩
 have s2 := s2 n (by omega)
 have t1 := Nat.le_of_ble_eq_true s2.1
 refine Tot.chk (by omega) (.ok ?_)
 rw [Int.toNat_natCast]
 revert t1 s2
 generalize (S.data.toList.getD n 0).toNat = t
 intro s2 t1
 rw [jai (x := (t : Int)) (by omega), jai (by omega)]
 refine ⟨by omega, by omega, fun hx => ?_⟩
 have e1 : (v2 + (t : Int)).toNat = v2.toNat + t := by omega
 rw [e1, Nat.pow_add, Int.natCast_mul]
 have hn := r3 hx
 have t2 : 2 ^ t <= 2 * n := by
  rcases s2.2 with h | h
  ·have := Nat.eq_of_beq_eq_true h; omega
  ·exact Nat.le_of_ble_eq_true h
 have t3 : ((2 ^ v2.toNat : Nat) : Int) * (2 ^ t : Nat) <= (2 ^ v2.toNat : Nat) * (2 * n : Nat) := Int.mul_le_mul_of_nonneg_left (by exact_mod_cast t2) (by exact_mod_cast Nat.zero_le _)
 have t4 : ((2 ^ v2.toNat : Nat) : Int) * ((2 * n : Nat) : Int) = 2 * ((n : Int) * (2 ^ v2.toNat : Nat)) := by
  rw [Int.natCast_mul, Int.mul_comm ((2 ^ v2.toNat : Nat) : Int), Int.mul_assoc]; rfl
 omega
theorem ylo (x : IK .u64) (h0 : 0 <= x.v) (h1 : x.v < 8589934592) : Tot (zq36 x) fun r => 0 <= r /\ r <= 64 /\ (1 <= x.v -> ((2 ^ r.toNat : Nat) : Int) <= 2 * x.v) := by
 unfold zq36
 exact Tot.call (yny x h0 h1) fun r hr => .ok hr
theorem ybd {n : Int} (h0 : 0 <= n) (h1 : n < 18446744073709551616) : IntKind.u64.wrap n = n := by
 show n % 18446744073709551616 = n
 exact Int.emod_eq_of_lt h0 h1
theorem hlp : Pdq.Hlp ybc ya9 := by
 refine ⟨fun n h1 h2 => ?_, fun x => ?_⟩
 ·unfold ybc
  rw [ybd (by omega) (by omega)]
  refine Tot.call (ylo ⟨n⟩ (by dsimp only; omega) (by dsimp only; omega)) fun r ⟨r1, r2, r3⟩ => Tot.chk r1 (.ok ?_)
  have r3 := r3 (by dsimp only; omega)
  dsimp only at r3 ⊢
  have e : min r.toNat (IntKind.u64).bits = r.toNat := Nat.min_eq_left (by show r.toNat <= 64; omega)
  have e2 : (1 : Int) * 2 ^ r.toNat = ((2 ^ r.toNat : Nat) : Int) := by rw [Int.one_mul]; norm_cast
  rw [e, e2]
  have := Nat.two_pow_pos r.toNat
  rw [ybd (by omega) (by omega)]
  omega
 ·unfold ya9
  exact Tot.chk (by decide) (Tot.chk (by decide) (Tot.chk (by decide) (.ok trivial)))
def Inc (l : List Trip) : Prop := l.Pairwise fun x y => x.Id < y.Id
def IncC (l : List Change) : Prop := l.Pairwise fun x y => x.Trip.Id < y.Trip.Id
theorem yi8 (l : List Trip) (h : l.length <= 100000) (v : Trip) : yd8 l v = some (fixI (fun e => (v.Id == e.Id) && ((v.Line == e.Line) && ((v.Start == e.Start) && true))) l) := by
 unfold yd8
 rw [jcq l (fun e => (v.Id == e.Id) && ((v.Line == e.Line) && ((v.Start == e.Start) && true))) (fun i x hx => ?_) (by unfold ybo; simp)]
 have := jbw hx
 unfold ybo
 dsimp only
 rw [if_pos (by simp only [decide_eq_true_eq]; omega), ixs hx, qb, jak (by omega)]
 split <;> rfl
theorem ydu {t : Timetable} (h : yae t) : Inc t.Trips := List.pairwise_iff_getElem.2 fun i j hi hj hij => yr9 h hij (List.getElem?_eq_getElem hi) (List.getElem?_eq_getElem hj)
theorem yrk {P Q : List Trip} (h : Inc (P ++ Q)) : Inc P /\ Inc Q /\ ∀ x ∈ P, ∀ y ∈ Q, x.Id < y.Id := List.pairwise_append.1 h
theorem kcmp (x y : Change) : zq16 x y = some (if x.Trip.Id < y.Trip.Id then -1 else if y.Trip.Id < x.Trip.Id then 1 else 0) := by
 unfold zq16; rw [ya1]; rfl
theorem ltK : Pdq.Lt zq16 (fun a b => a.Trip.Id <= b.Trip.Id) := by
 refine ⟨fun x y => by omega, fun a b => by omega, fun x y => ⟨_, kcmp x y, ?_⟩⟩
 by_cases h : x.Trip.Id < y.Trip.Id
 ·simp [h]
 ·by_cases h2 : y.Trip.Id < x.Trip.Id <;> simp [h, h2] <;> omega
theorem pqK : ∀ n, yb3 n = Pdq.pdq_k ybc ya9 zq16 n
 | 0 => rfl
 | n + 1 => by
  show ybb (yb3 n) = Pdq.pdq_F ybc ya9 zq16 (Pdq.pdq_k ybc ya9 zq16 n)
  rw [pqK n]
  rfl
theorem srtK (l : List Change) (h : l.length < 4294967296) : Tot (yf0 l) fun l' => l'.Perm l /\ l'.Pairwise fun a b => a.Trip.Id <= b.Trip.Id := by
 unfold yf0
 refine Tot.call (ylo _ (by dsimp only; rw [ybd (by omega) (by omega)]; omega) (by dsimp only; rw [ybd (by omega) (by omega)]; omega)) fun r _ => ?_
 unfold yms
 rw [pqK]
 exact Tot.call (Pdq.pdq_ok ltK hlp (limit := r) h) fun l' hl' => .ok hl'
theorem yro {α : Type} {l : List α} {i : Nat} {x : α} (h : l[i]? = some x) : l.drop i = x :: l.drop (i + 1) := by
 obtain ⟨hi, hx⟩ := List.getElem?_eq_some_iff.1 h
 rw [List.drop_eq_getElem_cons hi, hx]
theorem ysc (l : List Change) (hl : l.length <= 100000) : yfc l l = some true := by
 unfold yfc
 rw [if_neg (by simp)]
 refine Tot.val (Tot.flb (Tot.iter (fun n (v : Int) => ∃ i : Nat, n + i = l.length /\ v = (i : Int)) (n := l.length) ⟨0, by omega, rfl⟩ ?_))
 rintro n _ ⟨i, hn, rfl⟩
 unfold ydf
 dsimp only
 refine .iteP (fun hlt => ?_) (fun hge => .dn ⟨fun r hr => (by cases hr), fun u _ => .ok rfl⟩)
 obtain ⟨x, hx⟩ := ja8 (l := l) (i := i) (by omega)
 rw [ixs hx, qb, qb, if_neg (by simp)]
 exact .nx ⟨n - 1, by omega, i + 1, by omega, jak (by omega)⟩
theorem yr8 {t : Timetable} (hT : TB t) {i : Nat} (hi : i < t.Trips.length) : zq90 t (i : Int) = some ⟨t.Network, t.Trips.take i ++ t.Trips.drop (i + 1)⟩ := by
 have h2 := hT.2
 unfold zq90
 rw [yds hT, qb, jak (by omega), jaq ⟨by omega, by omega, by omega⟩, qb, jaq (by simp; omega), qb, jaq ⟨by omega, by omega⟩, qb, jaq (by simp; omega), qb]
 have e3 : ((i + 1 : Nat) : Int).toNat = i + 1 := by omega
 simp [e3]
theorem yi4 {n : Network} (hn : Bd n) {T : List Trip} {i : Nat} (hl : T.length <= 900) (hi : i < T.length) : zq35 ⟨n, T⟩ (i : Int) = some ⟨n, T.take i ++ T.drop (i + 1)⟩ := by
 have hT : TB ⟨n, T⟩ := ⟨hn, by show T.length <= 1000; omega⟩
 unfold zq35
 rw [ydv hT]
 simp only [qb, jak (n := i) (by omega)]
 unfold zq99 delM
 rw [if_pos ⟨by omega, by omega, by omega⟩]
 have e3 : ((i + 1 : Nat) : Int).toNat = i + 1 := by omega
 simp only [qb, Int.toNat_natCast, e3]
def teq (v e : Trip) : Bool := (v.Id == e.Id) && ((v.Line == e.Line) && ((v.Start == e.Start) && true))
theorem yf8 {v e : Trip} : teq v e = true ↔ v = e := by
 cases v; cases e; unfold teq; simp [Trip.mk.injEq, and_assoc]
theorem yix {T : List Trip} (h : Inc T) {i j : Nat} {a b : Trip} (ha : T[i]? = some a) (hb : T[j]? = some b) (e : a.Id = b.Id) : i = j := by
 obtain ⟨hi, rfl⟩ := List.getElem?_eq_some_iff.1 ha
 obtain ⟨hj, rfl⟩ := List.getElem?_eq_some_iff.1 hb
 have key := List.pairwise_iff_getElem.1 h
 rcases Nat.lt_trichotomy i j with h | h | h
 ·have := key i j hi hj h; omega
 ·exact h
 ·have := key j i hj hi h; omega
theorem yrj {T : List Trip} (h : Inc T) {a b : Trip} (ha : a ∈ T) (hb : b ∈ T) (e : a.Id = b.Id) : a = b := by
 obtain ⟨i, hi⟩ := List.mem_iff_getElem?.1 ha
 obtain ⟨j, hj⟩ := List.mem_iff_getElem?.1 hb
 have := yix h hi hj e
 subst this
 rw [hi] at hj; exact Option.some.inj hj
theorem ycc {α : Type} {p : α -> Bool} {l : List α} (h : fixI p l < 0) : ∀ x ∈ l, p x = false := by
 unfold fixI at h
 cases e : l.findIdx? p with
 | none => rw [List.findIdx?_eq_none_iff] at e; exact e
 | some i => rw [e] at h; simp at h; omega
theorem ycb {T : List Trip} {id : Int} : (fixI (fun y => y.Id == id) T < 0 /\ ∀ y ∈ T, y.Id ≠ id) \/ ∃ (i : Nat) (y : Trip), fixI (fun y => y.Id == id) T = (i : Int) /\ T[i]? = some y /\ y.Id = id := by
 by_cases h : fixI (fun y => y.Id == id) T < 0
 ·exact .inl ⟨h, fun y hy e => by have := ycc h y hy; simp [e] at this⟩
 ·obtain ⟨i, y, h1, h2, h3, _⟩ := je9 h
  exact .inr ⟨i, y, h1, h2, by simpa using h3⟩
theorem ylz {T : List Trip} {v : Trip} : (fixI (fun e => teq v e) T < 0 /\ v ∉ T) \/ ∃ i : Nat, fixI (fun e => teq v e) T = (i : Int) /\ T[i]? = some v := by
 by_cases h : fixI (fun e => teq v e) T < 0
 ·exact .inl ⟨h, fun hv => by have := ycc h v hv; rw [yf8.2 rfl] at this; cases this⟩
 ·obtain ⟨i, y, h1, h2, h3, _⟩ := je9 h
  exact .inr ⟨i, h1, by rw [h2, yf8.1 h3]⟩
structure Ap (t : Timetable) (L : List Change) (i : Nat) (c : Int) (T : List Trip) : Prop where
 inc : Inc T
 len : T.length <= 12 + i
 up : ∀ x ∈ T, c < x.Id -> x ∈ t.Trips
 dn : ∀ x ∈ t.Trips, c < x.Id -> x ∈ T
 last : ∀ e, 0 < i -> L[i - 1]? = some e -> e.Trip.Id = c
 fst : ∀ e, i = 0 -> L[0]? = some e -> c < e.Trip.Id
 ids : IncC (L.take i)
theorem ynu {n : Network} (hn : Bd n) {T : List Trip} (hl : T.length <= 900) (hi : Inc T) {x : Trip} (hx : ∀ y ∈ T, y.Id ≠ x.Id) : ∃ T' : List Trip, zq33 ⟨n, T⟩ x = some ⟨n, T'⟩ /\ zq88 ⟨n, T⟩ x = some ⟨n, T'⟩ /\ Inc T' /\ T'.length = T.length + 1 /\ ∀ y, y ∈ T' ↔ y = x \/ y ∈ T := by
 have hT : TB ⟨n, T⟩ := ⟨hn, by show T.length <= 1000; omega⟩
 obtain ⟨p, h1, h2⟩ := ynw hT.2 x
 have hp : p <= T.length := h2.1
 have hmem : ∀ y, y ∈ T ↔ y ∈ T.take p \/ y ∈ T.drop p := fun y => by rw [<- List.mem_append, List.take_append_drop]
 have hinc := yrk (P := T.take p) (Q := T.drop p) (by rw [List.take_append_drop]; exact hi)
 have hlo : ∀ y ∈ T.take p, y.Id < x.Id := fun y hy => by
  obtain ⟨j, hj⟩ := List.mem_iff_getElem?.1 hy
  have hjp : j < p := by have := jbw hj; rw [List.length_take] at this; omega
  rw [List.getElem?_take_of_lt hjp] at hj
  exact h2.2.1 j y hjp hj
 have hhi : ∀ y ∈ T.drop p, x.Id < y.Id := fun y hy => by
  obtain ⟨z, hz⟩ : ∃ z, T[p]? = some z := by
   cases e : T[p]? with
   | some z => exact ⟨z, rfl⟩
   | none => rw [List.drop_of_length_le (List.getElem?_eq_none_iff.1 e)] at hy; cases hy
  have hnot := h2.2.2 z hz
  have hne := hx z (List.mem_of_getElem? hz)
  obtain ⟨j, hj⟩ := List.mem_iff_getElem?.1 hy
  rw [List.getElem?_drop] at hj
  rcases Nat.eq_zero_or_pos j with rfl | hj0
  ·rw [Nat.add_zero, hz] at hj; cases hj; omega
  ·obtain ⟨q1, e1⟩ := List.getElem?_eq_some_iff.1 hz
   obtain ⟨q2, e2⟩ := List.getElem?_eq_some_iff.1 hj
   have := List.pairwise_iff_getElem.1 hi p (p + j) q1 q2 (by omega)
   rw [e1, e2] at this; omega
 refine ⟨(putT ⟨n, T⟩ x p).Trips, yf7 hT h1 hp, ynz hT h1 hp, ?_, ynv hp, ?_⟩
 ·unfold putT
  simp only [List.append_assoc, List.nil_append, List.singleton_append]
  refine List.pairwise_append.2 ⟨hinc.1, List.pairwise_cons.2 ⟨hhi, hinc.2.1⟩, fun a ha b hb => ?_⟩
  rcases List.mem_cons.1 hb with rfl | hb
  ·exact hlo a ha
  ·have := hlo a ha; have := hhi b hb; omega
 ·intro y
  unfold putT
  simp only [List.append_assoc, List.nil_append, List.singleton_append, List.mem_append, List.mem_cons, hmem y]
  constructor
  ·rintro (h | h | h)
   ·exact .inr (.inl h)
   ·exact .inl h
   ·exact .inr (.inr h)
  ·rintro (h | h | h)
   ·exact .inr (.inl h)
   ·exact .inl h
   ·exact .inr (.inr h)
theorem ybk {R V : Type} {r : R} {k : V -> Option R} : flb (some (.ret r)) k = some r := rfl
theorem ygb {R V : Type} {u : V} {k : V -> Option R} : flb (some (.go u : Fl R V)) k = k u := rfl
theorem yn2 {L : List Change} {i : Nat} {e : Change} {c : Int} (h : IncC (L.take i)) (he : L[i]? = some e) (hc : ∀ x, 0 < i -> L[i - 1]? = some x -> x.Trip.Id = c) (hlt : c < e.Trip.Id) : IncC (L.take (i + 1)) := by
 rw [jbe he]
 refine List.pairwise_append.2 ⟨h, List.pairwise_singleton .., fun x hx y hy => ?_⟩
 rw [List.mem_singleton] at hy; subst hy
 obtain ⟨j, hj⟩ := List.mem_iff_getElem?.1 hx
 have hji : j < i := by have := jbw hj; rw [List.length_take] at this; omega
 have hil := jbw he
 obtain ⟨z, hz⟩ := ja8 (l := L) (i := i - 1) (by omega)
 have hzc := hc z (by omega) hz
 have hz' : (L.take i)[i - 1]? = some z := by rw [List.getElem?_take_of_lt (by omega)]; exact hz
 rcases Nat.lt_or_ge j (i - 1) with h1 | h1
 ·obtain ⟨q1, e1⟩ := List.getElem?_eq_some_iff.1 hj
  obtain ⟨q2, e2⟩ := List.getElem?_eq_some_iff.1 hz'
  have := List.pairwise_iff_getElem.1 h j (i - 1) q1 q2 h1
  rw [e1, e2] at this; omega
 ·have : j = i - 1 := by omega
  subst this
  rw [hj] at hz'; cases hz'; omega
theorem yli {t : Timetable} (hb : TB t) (hg : yae t) {L : List Change} (hL : L.length <= 24) {i : Nat} {c : Int} {T : List Trip} (h : Ap t L i c T) {e : Change} (he : L[i]? = some e) :
  (∃ T', yau L (c, (i : Int), t.Network.Stops, t.Network.Lines, T) = some (.nx (e.Trip.Id, ((i + 1 : Nat) : Int), t.Network.Stops, t.Network.Lines, T')) /\ yas t L ((i : Int), t.Network.Stops, t.Network.Lines, T) = some (.nx (((i + 1 : Nat) : Int), t.Network.Stops, t.Network.Lines, T')) /\ Ap t L (i + 1) e.Trip.Id T') \/
  (yau L (c, (i : Int), t.Network.Stops, t.Network.Lines, T) = some (.dn (.ret (⟨⟨[], []⟩, []⟩, false))) /\ yas t L ((i : Int), t.Network.Stops, t.Network.Lines, T) = some (.dn (.ret (⟨⟨[], []⟩, []⟩, false)))) := by
 have hi := jbw he
 have h12 := hg.2.1
 have hlen := h.len
 have hn : Bd t.Network := hb.1
 have hlt : decide ((i : Int) < (L.length : Int)) = true := by simp; omega
 have hw : w64 ((i : Int) + 1) = ((i + 1 : Nat) : Int) := jak (by omega)
 have hv6 : (if decide (0 < (i : Int)) = true then (idx L (w64 ((i : Int) - 1))).bind fun e2 => some (decide (e.Trip.Id <= e2.Trip.Id)) else some false) = some (decide (e.Trip.Id <= c)) := by
  by_cases h0 : i = 0
  ·subst h0
   have := h.fst e rfl he
   simp; omega
  ·obtain ⟨z, hz⟩ := ja8 (l := L) (i := i - 1) (by omega)
   have hzc := h.last z (by omega) hz
   rw [if_pos (by simp; omega), jai (by omega), show (i : Int) - 1 = ((i - 1 : Nat) : Int) by omega, ixs hz, qb, hzc]
 unfold yau yas
 dsimp only
 rw [if_pos hlt, if_pos hlt, ixs he]
 simp only [qb, hv6]
 by_cases hid : e.Trip.Id <= c
 ·right
  simp only [hid, decide_true, if_true, ybk, and_self]
 have hid' : c < e.Trip.Id := by omega
 have hnext : ∀ T', Inc T' -> T'.length <= T.length + 1 -> (∀ x ∈ T', e.Trip.Id < x.Id -> x ∈ T) -> (∀ x ∈ T, e.Trip.Id < x.Id -> x ∈ T') -> Ap t L (i + 1) e.Trip.Id T' := fun T' q1 q2 q3 q4 =>
  ⟨q1, by omega, fun x hx hlt => h.up x (q3 x hx hlt) (by omega), fun x hx hlt => q4 x (h.dn x hx (by omega)) hlt, fun z _ hz => by rw [Nat.add_sub_cancel, he] at hz; cases hz; rfl, fun z hz => by omega, yn2 h.ids he h.last hid'⟩
 have hmm : e.Trip ∈ T ↔ e.Trip ∈ t.Trips := ⟨fun q => h.up _ q hid', fun q => h.dn _ q hid'⟩
 have hat : zq84 t e.Trip.Id = some (fixI (fun x => x.Id == e.Trip.Id) t.Trips) := yeh t hb.2 _
 have hatT : zq84 (⟨⟨t.Network.Stops, t.Network.Lines⟩, T⟩ : Timetable) e.Trip.Id = some (fixI (fun x => x.Id == e.Trip.Id) T) := yeh _ (by show T.length <= 1000; omega) _
 have htiT : zq31 (⟨⟨t.Network.Stops, t.Network.Lines⟩, T⟩ : Timetable) e.Trip.Id = some (fixI (fun x => x.Id == e.Trip.Id) T) := yd9 _ (by show T.length <= 1000; omega) _
 have hr3 : yd8 T e.Trip = some (fixI (fun y => teq e.Trip y) T) := yi8 T (by omega) e.Trip
 have hneg : fixI (fun x => x.Id == e.Trip.Id) T < 0 ↔ fixI (fun x => x.Id == e.Trip.Id) t.Trips < 0 := by
  rcases ycb (T := T) (id := e.Trip.Id) with ⟨a1, a2⟩ | ⟨j, y, a1, a2, a3⟩ <;> rcases ycb (T := t.Trips) (id := e.Trip.Id) with ⟨b1, b2⟩ | ⟨k, z, b1, b2, b3⟩
  ·simp [a1, b1]
  ·exact absurd b3 (a2 z (h.dn z (List.mem_of_getElem? b2) (by omega)))
  ·exact absurd a3 (b2 y (h.up y (List.mem_of_getElem? a2) (by omega)))
  ·constructor <;> intro <;> omega
 have hx : ∃ b : Bool, (if decide (0 <= fixI (fun x => x.Id == e.Trip.Id) t.Trips) = true then (idx t.Trips (fixI (fun x => x.Id == e.Trip.Id) t.Trips)).bind fun e6 => some ((e6.Id == e.Trip.Id) && ((e6.Line == e.Trip.Line) && ((e6.Start == e.Trip.Start) && true))) else some false) = some b /\ (b = true ↔ e.Trip ∈ t.Trips) := by
  rcases ycb (T := t.Trips) (id := e.Trip.Id) with ⟨b1, b2⟩ | ⟨k, z, b1, b2, b3⟩
  ·exact ⟨false, by rw [if_neg (by simp; omega)], by simpa using fun q => b2 _ q rfl⟩
  ·refine ⟨teq z e.Trip, by rw [b1, if_pos (decide_eq_true (by omega)), ixs b2]; rfl, ?_⟩
   rw [yf8]
   exact ⟨fun q => q ▸ List.mem_of_getElem? b2, fun q => yrj (ydu hg) (List.mem_of_getElem? b2) q b3⟩
 obtain ⟨b, hx1, hx2⟩ := hx
 simp only [hid, decide_false, Bool.false_eq_true, if_false, hr3, hat, qb, hx1]
 have hfin : ∀ (q : Bool), (q = true ↔ e.Trip ∈ T) ↔ (q = true ↔ e.Trip ∈ t.Trips) := fun q => by rw [hmm]
 have hda : decide (0 <= fixI (fun y => teq e.Trip y) T) = b := by
  rcases ylz (T := T) (v := e.Trip) with ⟨a1, a2⟩ | ⟨j, a1, a2⟩
  ·rw [hmm, <- hx2] at a2
   simp at a2; rw [a2]; exact decide_eq_false (by omega)
  ·have := hx2.2 (hmm.1 (List.mem_of_getElem? a2))
   rw [this, a1]; simp
 by_cases k1 : e.Kind = 1
 ·have e1 : (e.Kind == 1) = true := by simp [k1]
  have e2 : (e.Kind == 2) = false := by simp [k1]
  have e3 : (e.Kind == 3) = false := by simp [k1]
  simp only [e1, e2, e3, if_true, Bool.false_eq_true, if_false, qb]
  by_cases k2 : e.To = 0
  ·have e4 : (e.To == 0) = true := by simp [k2]
   simp only [e4, if_true, htiT, qb]
   by_cases k3 : fixI (fun x => x.Id == e.Trip.Id) t.Trips < 0
   ·have k4 := hneg.2 k3
    left
    obtain ⟨T', p1, p2, p3, p4, p5⟩ := ynu hn (T := T) (by omega) h.inc (x := e.Trip) (fun y hy => by
     rcases ycb (T := T) (id := e.Trip.Id) with ⟨a1, a2⟩ | ⟨j, y, a1, a2, a3⟩
     ·exact a2 y hy
     ·omega)
    refine ⟨T', ?_, ?_, hnext T' p3 (by omega) (fun x hx hlt => ?_) (fun x hx _ => (p5 x).2 (.inr hx))⟩
    ·simp only [k4, decide_true, if_true]
     rw [show (⟨⟨t.Network.Stops, t.Network.Lines⟩, T⟩ : Timetable) = ⟨t.Network, T⟩ from rfl, p1]
     simp only [qb, ygb, hw]
    ·simp only [k3, decide_true, if_true, qb]
     rw [show (⟨⟨t.Network.Stops, t.Network.Lines⟩, T⟩ : Timetable) = ⟨t.Network, T⟩ from rfl, p2]
     simp only [qb, ygb, hw]
    ·rcases (p5 x).1 hx with rfl | hx
     ·omega
     ·exact hx
   ·have k4 : ¬ fixI (fun x => x.Id == e.Trip.Id) T < 0 := fun q => k3 (hneg.1 q)
    right
    simp only [k3, k4, decide_false, Bool.false_eq_true, if_false, qb, ybk, and_self]
  ·have e4 : (e.To == 0) = false := by simp [k2]
   right
   simp only [e4, Bool.false_eq_true, if_false, qb, ybk, true_and]
   by_cases k3 : fixI (fun x => x.Id == e.Trip.Id) t.Trips < 0
   ·simp only [k3, decide_true, if_true, qb, Bool.false_eq_true, if_false, ybk]
   ·simp only [k3, decide_false, if_true, qb, Bool.false_eq_true, if_false, ybk]
 have e1 : (e.Kind == 1) = false := by simp [k1]
 simp only [e1, Bool.false_eq_true, if_false, qb]
 have hsame : b = true -> ∃ j : Nat, fixI (fun y => teq e.Trip y) T = (j : Int) /\ fixI (fun x => x.Id == e.Trip.Id) T = (j : Int) /\ T[j]? = some e.Trip := fun q => by
  have hm := hmm.2 (hx2.1 q)
  rcases ylz (T := T) (v := e.Trip) with ⟨a1, a2⟩ | ⟨j, a1, a2⟩
  ·exact absurd hm a2
  ·rcases ycb (T := T) (id := e.Trip.Id) with ⟨b1, b2⟩ | ⟨k, z, b1, b2, b3⟩
   ·exact absurd rfl (b2 _ hm)
   ·have := yix h.inc b2 a2 b3
    subst this
    exact ⟨k, a1, b1, a2⟩
 by_cases k2 : e.Kind = 2
 ·have e2 : (e.Kind == 2) = true := by simp [k2]
  have e3 : (e.Kind == 3) = false := by simp [k2]
  simp only [e2, e3, if_true, hda, Bool.false_eq_true, if_false, qb]
  by_cases k3 : e.To = 0
  ·have e4 : (e.To == 0) = true := by simp [k3]
   cases hbb : b with
   | false =>
    right
    simp only [e4, if_true, qb, Bool.false_eq_true, if_false, ybk, and_self]
   | true =>
    left
    obtain ⟨j, j1, j2, j3⟩ := hsame hbb
    have hjl := jbw j3
    have w1 := yi4 hn (T := T) (i := j) (by omega) hjl
    have w2 := yr8 (t := ⟨t.Network, T⟩) ⟨hn, by show T.length <= 1000; omega⟩ (i := j) hjl
    have hsub : (T.take j ++ T.drop (j + 1)).Sublist T := by
     have := (List.drop_sublist_drop_left T (Nat.le_succ j))
     have q := (List.Sublist.refl (T.take j)).append this
     rwa [List.take_append_drop] at q
    refine ⟨T.take j ++ T.drop (j + 1), ?_, ?_, hnext _ (h.inc.sublist hsub) (by have := hsub.length_le; omega) (fun x hx _ => hsub.subset hx) (fun x hx hlt => ?_)⟩
    ·simp only [e4, if_true, qb, j1]
     rw [show (⟨⟨t.Network.Stops, t.Network.Lines⟩, T⟩ : Timetable) = ⟨t.Network, T⟩ from rfl, w1]
     simp only [qb, ygb, hw]
    ·simp only [e4, if_true, qb, hatT, j2]
     rw [show (⟨⟨t.Network.Stops, t.Network.Lines⟩, T⟩ : Timetable) = ⟨t.Network, T⟩ from rfl, w2]
     simp only [qb, ygb, hw]
    ·obtain ⟨k, hk⟩ := List.mem_iff_getElem?.1 hx
     rw [List.mem_append]
     rcases Nat.lt_trichotomy k j with q | q | q
     ·exact .inl (List.mem_of_getElem? (show (T.take j)[k]? = some x by rw [List.getElem?_take_of_lt q]; exact hk))
     ·subst q; rw [hk] at j3; cases j3; omega
     ·exact .inr (List.mem_of_getElem? (show (T.drop (j + 1))[k - (j + 1)]? = some x by rw [List.getElem?_drop, show j + 1 + (k - (j + 1)) = k by omega]; exact hk))
  ·have e4 : (e.To == 0) = false := by simp [k3]
   right
   simp only [e4, Bool.false_eq_true, if_false, qb, ybk, true_and]
   cases b <;> simp only [if_true, qb, Bool.false_eq_true, if_false, ybk]
 have e2 : (e.Kind == 2) = false := by simp [k2]
 simp only [e2, Bool.false_eq_true, if_false, qb]
 by_cases k3 : e.Kind = 3
 ·have e3 : (e.Kind == 3) = true := by simp [k3]
  simp only [e3, if_true, hda]
  by_cases k4 : e.To = e.Trip.Start
  ·have e4 : (e.To != e.Trip.Start) = false := by simp [k4]
   right
   simp only [e4, Bool.false_eq_true, if_false, qb, ybk, true_and]
   cases b <;> simp only [if_true, qb, Bool.false_eq_true, if_false, ybk]
  ·have e4 : (e.To != e.Trip.Start) = true := by simp [k4]
   cases hbb : b with
   | false =>
    right
    simp only [e4, if_true, qb, Bool.false_eq_true, if_false, ybk, and_self]
   | true =>
    left
    obtain ⟨j, j1, j2, j3⟩ := hsame hbb
    have hjl := jbw j3
    refine ⟨T.set j ⟨e.Trip.Id, e.Trip.Line, e.To⟩, ?_, ?_, hnext _ ?_ (by rw [List.length_set]; omega) (fun x hx hlt => ?_) (fun x hx hlt => ?_)⟩
    ·simp only [e4, if_true, qb, j1, ixs j3, ygb, hw, Int.toNat_natCast]
    ·simp only [e4, if_true, qb, hatT, j2, ixs j3, ygb, hw, Int.toNat_natCast]
    ·refine List.pairwise_iff_getElem.2 fun p q hp hq hpq => ?_
     rw [List.length_set] at hp hq
     have key : ∀ k (hk : k < (T.set j ⟨e.Trip.Id, e.Trip.Line, e.To⟩).length), ((T.set j ⟨e.Trip.Id, e.Trip.Line, e.To⟩)[k]).Id = (T[k]'(by rw [List.length_set] at hk; exact hk)).Id := fun k hk => by
      rw [List.getElem_set]
      split
      ·rename_i hjk
       subst hjk
       obtain ⟨_, e5⟩ := List.getElem?_eq_some_iff.1 j3
       rw [e5]
      ·rfl
     rw [key, key]
     exact List.pairwise_iff_getElem.1 h.inc p q hp hq hpq
    ·rcases List.mem_or_eq_of_mem_set hx with q | q
     ·exact q
     ·subst q; exact absurd hlt (by show ¬ e.Trip.Id < e.Trip.Id; omega)
    ·obtain ⟨k, hk⟩ := List.mem_iff_getElem?.1 hx
     have hne : j ≠ k := fun q => by subst q; rw [hk] at j3; cases j3; omega
     exact List.mem_of_getElem? (show (T.set j _)[k]? = some x by rw [List.getElem?_set_ne hne]; exact hk)
 ·have e3 : (e.Kind == 3) = false := by simp [k3]
  right
  simp only [e3, Bool.false_eq_true, if_false, qb, ybk, and_self]
def PosL (t : Timetable) (L : List Change) : Prop := yae t -> ∀ c ∈ L, 0 < c.Trip.Id
theorem ylk (t : Timetable) : PosL t [] := fun _ c hc => (by cases hc)
theorem ydr {t : Timetable} {l : List Change} {c : Change} (h : PosL t l) (hc : yae t -> 0 < c.Trip.Id) : PosL t (l ++ [c]) := fun hg d hd => by
 rcases List.mem_append.1 hd with q | q
 ·exact h hg d q
 ·rw [List.mem_singleton] at q; subst q; exact hc hg
theorem yjb {t : Timetable} (hb : TB t) (hg : yae t) {L : List Change} (hp : PosL t L) : ∃ r, zq10 t L = some r /\ zq66 t L = some r /\ (r.2 = true -> yae r.1 /\ TB r.1 /\ r.1.Network = t.Network /\ IncC L /\ L.length <= 24) := by
 have h12 := hg.2.1
 by_cases h24 : 24 < (L.length : Int)
 ·refine ⟨(⟨⟨[], []⟩, []⟩, false), ?_, ?_, fun h => (by cases h)⟩
  ·unfold zq10; rw [if_pos (by simpa using h24)]
  ·unfold zq66; rw [if_pos (by simpa using h24)]
 have hL : L.length <= 24 := by omega
 have hfst : ∀ e, L[0]? = some e -> 0 < e.Trip.Id := fun e he => hp hg e (List.mem_of_getElem? he)
 let I : Nat -> (Int × Int × List ByteArray × List Line × List Trip) -> (Int × List ByteArray × List Line × List Trip) -> Prop := fun k a a' => ∃ (i : Nat) (c : Int) (T : List Trip), k + i = L.length /\ a = (c, (i : Int), t.Network.Stops, t.Network.Lines, T) /\ a' = ((i : Int), t.Network.Stops, t.Network.Lines, T) /\ Ap t L i c T
 let Q : (Fl (Timetable × Bool) (List ByteArray × List Line × List Trip)) -> (Fl (Timetable × Bool) (List ByteArray × List Line × List Trip)) -> Prop := fun b b' => (b = .ret (⟨⟨[], []⟩, []⟩, false) /\ b' = .ret (⟨⟨[], []⟩, []⟩, false)) \/ ∃ (c : Int) (T : List Trip), Ap t L L.length c T /\ b = .go (t.Network.Stops, t.Network.Lines, T) /\ b' = .go (t.Network.Stops, t.Network.Lines, T)
 have hstep : ∀ k a a', I k a a' -> (∃ b b' k', yau L a = some (.nx b) /\ yas t L a' = some (.nx b') /\ k' < k /\ I k' b b') \/ ∃ x x', yau L a = some (.dn x) /\ yas t L a' = some (.dn x') /\ Q x x' := by
  rintro k a a' ⟨i, c, T, hk, rfl, rfl, hA⟩
  rcases Nat.lt_or_ge i L.length with hlt | hge
  ·obtain ⟨e, he⟩ := ja8 (l := L) (i := i) hlt
   rcases yli hb hg hL hA he with ⟨T', p1, p2, p3⟩ | ⟨p1, p2⟩
   ·exact .inl ⟨_, _, k - 1, p1, p2, by omega, i + 1, _, T', by omega, rfl, rfl, p3⟩
   ·exact .inr ⟨_, _, p1, p2, .inl ⟨rfl, rfl⟩⟩
  ·have : i = L.length := by have := hA.ids; omega
   subst this
   refine .inr ⟨.go (t.Network.Stops, t.Network.Lines, T), .go (t.Network.Stops, t.Network.Lines, T), ?_, ?_, .inr ⟨c, T, hA, rfl, rfl⟩⟩
   ·unfold yau; dsimp only; rw [if_neg (by simp)]
   ·unfold yas; dsimp only; rw [if_neg (by simp)]
 obtain ⟨x, x', e1, e2, e3⟩ := ju0 I Q hstep     (k := L.length) (a := ((0 : Int), (0 : Int), t.Network.Stops, t.Network.Lines, t.Trips)) (a' := ((0 : Int), t.Network.Stops, t.Network.Lines, t.Trips))
  ⟨0, 0, t.Trips, rfl, rfl, rfl, ⟨ydu hg, by omega, fun x hx _ => hx, fun x hx _ => hx, fun e h => by omega, fun e _ he => hfst e he, by simp [IncC]⟩⟩
 unfold zq10 zq66
 rw [if_neg (by simpa using h24), if_neg (by simpa using h24), ydv hb, yds hb, qb, qb, e1, e2]
 rcases e3 with ⟨rfl, rfl⟩ | ⟨c, T, hA, rfl, rfl⟩
 ·exact ⟨(⟨⟨[], []⟩, []⟩, false), rfl, rfl, fun h => (by cases h)⟩
 ·have hl := hA.len
  have hT : TB (⟨⟨t.Network.Stops, t.Network.Lines⟩, T⟩ : Timetable) := ⟨hb.1, by show T.length <= 1000; omega⟩
  simp only [ygb, yja hT, yiy hT, qb]
  by_cases hG : yae (⟨⟨t.Network.Stops, t.Network.Lines⟩, T⟩ : Timetable)
  ·refine ⟨(⟨⟨t.Network.Stops, t.Network.Lines⟩, T⟩, true), by simp [hG], by simp [hG], fun _ => ⟨hG, hT, rfl, ?_, hL⟩⟩
   have := hA.ids
   rwa [List.take_length] at this
  ·exact ⟨(⟨⟨[], []⟩, []⟩, false), by simp [hG], by simp [hG], fun h => (by cases h)⟩
theorem yaj {t : Timetable} (hb : TB t) {L : List Change} (hp : PosL t L) : ∃ b, zq5 t L = some b /\ zq41 t L = some b /\ (b = true -> yae t /\ IncC L /\ L.length <= 24 /\ ∃ u, zq10 t L = some (u, true) /\ zq66 t L = some (u, true) /\ yae u /\ TB u /\ u.Network = t.Network) := by
 unfold zq5 zq41
 rw [yb8 hb, yiy hb]
 by_cases hg : yae t
 ·obtain ⟨⟨u, v⟩, h1, h2, h3⟩ := yjb hb hg hp
  refine ⟨v, by simp [hg, h1], by simp [hg, h2], fun hv => ?_⟩
  subst hv
  obtain ⟨q1, q2, q3, q4, q5⟩ := h3 rfl
  exact ⟨hg, q4, q5, u, h1, h2, q1, q2, q3⟩
 ·exact ⟨false, by simp [hg], by simp [hg], fun h => (by cases h)⟩
def ceq (a b : Change) : Bool := (a.Kind == b.Kind) && (((a.Trip.Id == b.Trip.Id) && ((a.Trip.Line == b.Trip.Line) && ((a.Trip.Start == b.Trip.Start) && true))) && ((a.To == b.To) && true))
theorem ybf {a b : Change} : ceq a b = true ↔ a = b := by
 obtain ⟨k, ⟨i, l, s⟩, o⟩ := a
 obtain ⟨k', ⟨i', l', s'⟩, o'⟩ := b
 unfold ceq
 simp only [Bool.and_eq_true, beq_iff_eq, Change.mk.injEq, Trip.mk.injEq, and_true]
def cfp (c d : Change) : Bool := if c.Trip.Id == d.Trip.Id then !ceq c d else false
def cf (x y : List Change) : List Int := (x.filter fun c => y.any (cfp c)).map (·.Trip.Id)
theorem yl5 (x : List Change) (e : Change) (y : List Change) : cf (x ++ [e]) y = cf x y ++ if y.any (cfp e) = true then [e.Trip.Id] else [] := by
 unfold cf
 rw [List.filter_append, List.map_append]
 by_cases h : y.any (cfp e) = true
 ·simp [h]
 ·simp [h]
theorem yl7 (x y : List Change) : (cf x y).length <= x.length := by unfold cf; rw [List.length_map]; exact List.length_filter_le ..
theorem yel {l : List Change} (h : IncC l) {i j : Nat} {a b : Change} (ha : l[i]? = some a) (hb : l[j]? = some b) (e : a.Trip.Id = b.Trip.Id) : i = j := by
 obtain ⟨hi, rfl⟩ := List.getElem?_eq_some_iff.1 ha
 obtain ⟨hj, rfl⟩ := List.getElem?_eq_some_iff.1 hb
 have key := List.pairwise_iff_getElem.1 h
 rcases Nat.lt_trichotomy i j with h | h | h
 ·have := key i j hi hj h; omega
 ·exact h
 ·have := key j i hj hi h; omega
theorem ydt {l : List Change} (h : IncC l) {a b : Change} (ha : a ∈ l) (hb : b ∈ l) (e : a.Trip.Id = b.Trip.Id) : a = b := by
 obtain ⟨i, hi⟩ := List.mem_iff_getElem?.1 ha
 obtain ⟨j, hj⟩ := List.mem_iff_getElem?.1 hb
 have := yel h hi hj e
 subst this
 rw [hi] at hj; exact Option.some.inj hj
theorem yrm {α : Type} {p : α -> Bool} {l : List α} : decide (0 <= fixI p l) = l.any p := by
 by_cases h : fixI p l < 0
 ·have := ycc h
  rw [decide_eq_false (by omega)]
  exact (List.any_eq_false.2 fun x hx => by simp [this x hx]).symm
 ·obtain ⟨i, y, h1, h2, h3, _⟩ := je9 h
  rw [decide_eq_true (by omega)]
  exact (List.any_eq_true.2 ⟨y, List.mem_of_getElem? h2, h3⟩).symm
theorem yrp (y : List Change) (hl : y.length <= 1000) (e : Change) : zq98 y e = some (y.any (cfp e)) := by
 unfold zq98 zq97 ylc
 have hf : ∀ d, zq18 d e = some (cfp e d) := fun d => by
  unfold zq18 cfp ceq
  cases e.Trip.Id == d.Trip.Id <;> rfl
 rw [jcq y (cfp e) (fun i x hx => ?_) (by unfold ybq; simp), qb, yrm]
 have := jbw hx
 unfold ybq
 dsimp only
 rw [if_pos (by simp only [decide_eq_true_eq]; omega), ixs hx, qb, hf, qb, jak (by omega)]
 split <;> rfl
theorem ycd (y : List Change) (hl : y.length <= 1000) (id : Int) : zq69 y id = some (fixI (fun d => d.Trip.Id == id) y) := by
 unfold zq69
 rw [jcq y (fun d => d.Trip.Id == id) (fun i x hx => ?_) (by unfold yc1; simp)]
 have := jbw hx
 unfold yc1
 dsimp only
 rw [if_pos (by simp only [decide_eq_true_eq]; omega), ixs hx, qb, jak (by omega)]
 split <;> rfl
theorem ylw {x y : List Change} (hx : x.length <= 1000) (hy : y.length <= 1000) : zq17 x y = some (cf x y) := by
 unfold zq17
 refine Tot.val (.call (P := fun r => r = cf x y) (.iter (fun m (s : Int × List Int) => ∃ i : Nat, m + i = x.length /\ s.1 = (i : Int) /\ s.2 = cf (x.take i) y) (n := x.length) ⟨0, by omega, rfl, rfl⟩ ?_) fun r hr => by subst hr; exact .ok rfl)
 rintro m ⟨v, c⟩ ⟨i, hm, h1, h2⟩
 dsimp only at h1 h2
 subst h1
 unfold yfa
 dsimp only
 refine .iteP (fun hlt => ?_) (fun hge => .dn (by rw [h2, List.take_of_length_le (by omega)]))
 obtain ⟨e, he⟩ := ja8 (l := x) (i := i) (by omega)
 have hcl := yl7 (x.take i) y
 rw [List.length_take] at hcl
 have hs := yl5 (x.take i) e y
 rw [<- jbe he] at hs
 rw [ixs he]
 simp only [qb, yrp y hy e]
 cases hb : y.any (cfp e) with
 | true =>
  rw [hb, if_pos rfl] at hs
  simp only [if_true]
  rw [jaq (by rw [h2]; simp; omega)]
  exact .nx ⟨m - 1, by omega, i + 1, by omega, jak (by omega), by show c ++ _ = _; rw [h2, hs]⟩
 | false =>
  rw [hb, if_neg (by simp), List.append_nil] at hs
  simp only [Bool.false_eq_true, if_false]
  exact .nx ⟨m - 1, by omega, i + 1, by omega, jak (by omega), by show c = _; rw [h2, hs]⟩
theorem yod {x y : List Change} (hx : x.length <= 1000) (hy : y.length <= 1000) (hi : IncC y) : zq68 x y = some (cf x y) := by
 unfold zq68
 refine Tot.val (.call (P := fun r => r = cf x y) (.iter (fun m (s : Int × List Int) => ∃ i : Nat, m + i = x.length /\ s.1 = (i : Int) /\ s.2 = cf (x.take i) y) (n := x.length) ⟨0, by omega, rfl, rfl⟩ ?_) fun r hr => by subst hr; exact .ok rfl)
 rintro m ⟨v, c⟩ ⟨i, hm, h1, h2⟩
 dsimp only at h1 h2
 subst h1
 unfold yex
 dsimp only
 refine .iteP (fun hlt => ?_) (fun hge => .dn (by rw [h2, List.take_of_length_le (by omega)]))
 obtain ⟨e, he⟩ := ja8 (l := x) (i := i) (by omega)
 have hcl := yl7 (x.take i) y
 rw [List.length_take] at hcl
 have hs := yl5 (x.take i) e y
 rw [<- jbe he] at hs
 have hv : (if (decide (0 <= fixI (fun d => d.Trip.Id == e.Trip.Id) y)) = true then (idx y (fixI (fun d => d.Trip.Id == e.Trip.Id) y)).bind fun e3 => some (!((e3.Kind == e.Kind) && (((e3.Trip.Id == e.Trip.Id) && ((e3.Trip.Line == e.Trip.Line) && ((e3.Trip.Start == e.Trip.Start) && true))) && ((e3.To == e.To) && true)))) else some false) = some (y.any (cfp e)) := by
  by_cases h : fixI (fun d => d.Trip.Id == e.Trip.Id) y < 0
  ·have hn := ycc h
   rw [if_neg (by simp; omega)]
   refine congrArg some (List.any_eq_false.2 fun d hd => ?_).symm
   have := hn d hd
   unfold cfp
   rw [if_neg (by simp at this ⊢; omega)]; simp
  ·obtain ⟨j, d, j1, j2, j3, _⟩ := je9 h
   rw [j1, if_pos (by simp), ixs j2, qb]
   have j3 : d.Trip.Id = e.Trip.Id := by simpa using j3
   refine congrArg some ?_
   show (!ceq d e) = _
   have hiff : (!ceq d e) = true ↔ y.any (cfp e) = true := by
    rw [List.any_eq_true]
    constructor
    ·intro q
     refine ⟨d, List.mem_of_getElem? j2, ?_⟩
     unfold cfp
     rw [if_pos (by simp [j3])]
     simp only [Bool.not_eq_true', Bool.eq_false_iff, ne_eq, ybf] at q ⊢
     exact fun w => q w.symm
    ·rintro ⟨z, hz, hq⟩
     unfold cfp at hq
     split at hq
     ·rename_i hid
      have hid : e.Trip.Id = z.Trip.Id := by simpa using hid
      have := ydt hi hz (List.mem_of_getElem? j2) (by omega)
      subst this
      simp only [Bool.not_eq_true', Bool.eq_false_iff, ne_eq, ybf] at hq ⊢
      exact fun w => hq w.symm
     ·cases hq
   exact Bool.eq_iff_iff.2 hiff
 rw [ixs he]
 simp only [qb, ycd y hy, hv]
 cases hb : y.any (cfp e) with
 | true =>
  rw [hb, if_pos rfl] at hs
  simp only [if_true]
  rw [jaq (by rw [h2]; simp; omega)]
  exact .nx ⟨m - 1, by omega, i + 1, by omega, jak (by omega), by show c ++ _ = _; rw [h2, hs]⟩
 | false =>
  rw [hb, if_neg (by simp), List.append_nil] at hs
  simp only [Bool.false_eq_true, if_false]
  exact .nx ⟨m - 1, by omega, i + 1, by omega, jak (by omega), by show c = _; rw [h2, hs]⟩
theorem yl6 {x y : List Change} : cf x y = [] ↔ ∀ c ∈ x, ∀ d ∈ y, c.Trip.Id = d.Trip.Id -> c = d := by
 unfold cf
 rw [List.map_eq_nil_iff, List.filter_eq_nil_iff]
 constructor
 ·intro h c hc d hd e
  have := h c hc
  simp only [Bool.not_eq_true, List.any_eq_false] at this
  have := this d hd
  unfold cfp at this
  rw [if_pos (by simp [e])] at this
  exact ybf.1 (by simpa using this)
 ·intro h c hc
  simp only [Bool.not_eq_true, List.any_eq_false]
  intro d hd
  unfold cfp
  split
  ·rename_i e
   have := h c hc d hd (by simpa using e)
   simp [ybf.2 this]
  ·simp
theorem yl2 : ∀ {l : List Change} {x : Change}, (x :: l).Pairwise (fun a b => a.Trip.Id <= b.Trip.Id) -> (∀ a ∈ x :: l, ∀ b ∈ x :: l, a.Trip.Id = b.Trip.Id -> a = b) -> IncC (x :: cmF ceq x l) /\ ∀ c, c ∈ x :: cmF ceq x l ↔ c ∈ x :: l
 | [], x, _, _ => ⟨by simp [IncC, cmF], fun c => by simp [cmF]⟩
 | a :: l, x, hs, hu => by
  obtain ⟨s1, s2⟩ := List.pairwise_cons.1 hs
  by_cases he : ceq a x = true
  ·have hax := ybf.1 he
   subst hax
   obtain ⟨i1, i2⟩ := yl2 (l := l) (x := a) s2 (fun p hp q hq => hu p (List.mem_cons_of_mem _ hp) q (List.mem_cons_of_mem _ hq))
   have e : cmF ceq a (a :: l) = cmF ceq a l := by simp [cmF, he]
   rw [e]
   exact ⟨i1, fun c => by rw [i2]; simp⟩
  ·obtain ⟨i1, i2⟩ := yl2 (l := l) (x := a) s2 (fun p hp q hq => hu p (List.mem_cons_of_mem _ hp) q (List.mem_cons_of_mem _ hq))
   have e : cmF ceq x (a :: l) = a :: cmF ceq a l := by simp [cmF, he]
   rw [e]
   have hlt : x.Trip.Id < a.Trip.Id := by
    have h1 := s1 a (List.mem_cons_self ..)
    have h2 : x.Trip.Id ≠ a.Trip.Id := fun h => he (ybf.2 (hu a (by simp) x (by simp) h.symm))
    omega
   refine ⟨List.pairwise_cons.2 ⟨fun b hb => ?_, i1⟩, fun c => by rw [List.mem_cons, i2, <- List.mem_cons]⟩
   rcases List.mem_cons.1 ((i2 b).1 hb) with rfl | hb
   ·exact hlt
   ·have := (List.pairwise_cons.1 s2).1 b hb; omega
theorem ybs : ∀ {l m : List Change}, IncC l -> IncC m -> (∀ c, c ∈ l ↔ c ∈ m) -> l = m
 | [], [], _, _, _ => rfl
 | [], b :: m, _, _, h => by have := (h b).2 (List.mem_cons_self ..); cases this
 | a :: l, [], _, _, h => by have := (h a).1 (List.mem_cons_self ..); cases this
 | a :: l, b :: m, hl, hm, h => by
  obtain ⟨l1, l2⟩ := List.pairwise_cons.1 hl
  obtain ⟨m1, m2⟩ := List.pairwise_cons.1 hm
  have hab : a = b := by
   rcases List.mem_cons.1 ((h a).1 (List.mem_cons_self ..)) with e | e
   ·exact e
   ·rcases List.mem_cons.1 ((h b).2 (List.mem_cons_self ..)) with e2 | e2
    ·exact e2.symm
    ·have := m1 a e; have := l1 b e2; omega
  subst hab
  rw [ybs l2 m2 fun c => ?_]
  constructor
  ·intro hc
   rcases List.mem_cons.1 ((h c).1 (List.mem_cons_of_mem _ hc)) with e | e
   ·subst e; have := l1 c hc; omega
   ·exact e
  ·intro hc
   rcases List.mem_cons.1 ((h c).2 (List.mem_cons_of_mem _ hc)) with e | e
   ·subst e; have := m1 c hc; omega
   ·exact e
theorem yeo {x y : List Change} (hx : x.length <= 1000) (hy : y.length <= 1000) : zq96 [x, y] = some (x ++ y) := by
 have a0 : yaq [x, y] ((0 : Int), (0 : Int)) = some (.nx ((x.length : Int), (1 : Int))) := by
  unfold yaq
  dsimp only
  rw [if_pos (by simp), show idx [x, y] 0 = some x from rfl, qb, Int.zero_add, jai (by omega), if_neg (by simp), jai (by omega)]
  rfl
 have a1 : yaq [x, y] ((x.length : Int), (1 : Int)) = some (.nx (((x.length + y.length : Nat) : Int), (2 : Int))) := by
  unfold yaq
  dsimp only
  rw [if_pos (by simp), show idx [x, y] 1 = some y from rfl, qb, jai (by omega), if_neg (by simp; omega), jai (by omega)]
  rfl
 have a2 : yaq [x, y] (((x.length + y.length : Nat) : Int), (2 : Int)) = some (.dn ((x.length + y.length : Nat) : Int)) := by
  unfold yaq
  dsimp only
  rw [if_neg (by simp)]
 have b0 : yap [x, y] ((0 : Int), ([] : List Change)) = some (.nx ((1 : Int), x)) := by
  unfold yap
  dsimp only
  rw [if_pos (by simp), show idx [x, y] 0 = some x from rfl, qb, jaq (by simp; omega), qb, jai (by omega)]
  rfl
 have b1 : yap [x, y] ((1 : Int), x) = some (.nx ((2 : Int), x ++ y)) := by
  unfold yap
  dsimp only
  rw [if_pos (by simp), show idx [x, y] 1 = some y from rfl, qb, jaq (by omega), qb, jai (by omega)]
  rfl
 have b2 : yap [x, y] ((2 : Int), x ++ y) = some (.dn (x ++ y)) := by
  unfold yap
  dsimp only
  rw [if_neg (by simp)]
 unfold zq96 yrf jp7
 rw [jd4 a0, jd4 a1, jdj a2, qb, if_pos (by omega), qb, jd4 b0, jd4 b1, jdj b2]
 rfl
def Mg (x y m : List Change) : Prop := IncC m /\ (∀ c, c ∈ m ↔ c ∈ x \/ c ∈ y) /\ m.length <= x.length + y.length
theorem yog {x y : List Change} (hx : IncC x) (hy : IncC y) (lx : x.length <= 24) (ly : y.length <= 24) (hc : ∀ c ∈ x, ∀ d ∈ y, c.Trip.Id = d.Trip.Id -> c = d) : ∃ l m, yf0 (x ++ y) = some l /\ zq94 l = some m /\ Mg x y m := by
 obtain ⟨l, h1, h2, h3⟩ := srtK (x ++ y) (by rw [List.length_append]; omega)
 have hm : ∀ c, c ∈ l ↔ c ∈ x \/ c ∈ y := fun c => by rw [h2.mem_iff, List.mem_append]
 refine ⟨l, cmL ceq l, h1, rfl, ?_⟩
 have hu : ∀ a ∈ l, ∀ b ∈ l, a.Trip.Id = b.Trip.Id -> a = b := fun a ha b hb e => by
  rcases (hm a).1 ha with p | p <;> rcases (hm b).1 hb with q | q
  ·exact ydt hx p q e
  ·exact hc a p b q e
  ·exact (hc b q a p e.symm).symm
  ·exact ydt hy p q e
 have hlen := h2.length_eq
 rw [List.length_append] at hlen
 cases l with
 | nil => exact ⟨by simp [cmL, IncC], hm, by simp [cmL]⟩
 | cons a l =>
  obtain ⟨i1, i2⟩ := yl2 h3 hu
  exact ⟨i1, fun c => (i2 c).trans (hm c), by have := jqr (q := ceq) (l := a :: l); omega⟩
theorem yr7 {y : List Change} {i : Nat} {e : Change} (he : y[i]? = some e) {v : List Change} (hv : IncC v) (hl : v.length <= 1000) (hne : ∀ c ∈ v, c.Trip.Id ≠ e.Trip.Id) : ∃ p : Nat, iter (yb0 y (i : Int) v) (v.length : Int) = some (p : Int) /\ p <= v.length /\ (∀ c ∈ v.take p, c.Trip.Id < e.Trip.Id) /\ ∀ c ∈ v.drop p, e.Trip.Id < c.Trip.Id := by
 have : Tot (iter (yb0 y (i : Int) v) (v.length : Int)) fun r => ∃ p : Nat, r = (p : Int) /\ p <= v.length /\ (∀ c ∈ v.take p, c.Trip.Id < e.Trip.Id) /\ ∀ c ∈ v.drop p, e.Trip.Id < c.Trip.Id := by
  refine .iter (fun m (s : Int) => s = (m : Int) /\ m <= v.length /\ ∀ c ∈ v.drop m, e.Trip.Id < c.Trip.Id) (n := v.length) ⟨rfl, Nat.le_refl _, by simp⟩ ?_
  rintro m s ⟨rfl, hm, hd⟩
  unfold yb0
  dsimp only
  rcases Nat.eq_zero_or_pos m with rfl | hm0
  ·rw [if_neg (by simp)]
   simp only [qb, Bool.false_eq_true, if_false]
   exact .dn ⟨0, rfl, Nat.zero_le _, by simp, hd⟩
  ·obtain ⟨z, hz⟩ := ja8 (l := v) (i := m - 1) (by omega)
   rw [if_pos (by simp; omega), jai (by omega), show (m : Int) - 1 = ((m - 1 : Nat) : Int) by omega, ixs hz, qb, ixs he, qb, qb]
   have hzn := hne z (List.mem_of_getElem? hz)
   have hdm : v.drop (m - 1) = z :: v.drop m := by
    have := yro hz
    rwa [show m - 1 + 1 = m by omega] at this
   refine .iteP (fun hlt => .nx ⟨m - 1, by omega, rfl, by omega, fun c hc => ?_⟩) (fun hge => .dn ⟨m, rfl, hm, fun c hc => ?_, hd⟩)
   ·rw [hdm] at hc
    rcases List.mem_cons.1 hc with rfl | hc
    ·exact hlt
    ·exact hd c hc
   ·obtain ⟨j, hj⟩ := List.mem_iff_getElem?.1 hc
    have hjm : j < m := by have := jbw hj; rw [List.length_take] at this; omega
    rw [List.getElem?_take_of_lt hjm] at hj
    rcases Nat.lt_or_ge j (m - 1) with q | q
    ·obtain ⟨q1, e1⟩ := List.getElem?_eq_some_iff.1 hj
     obtain ⟨q2, e2⟩ := List.getElem?_eq_some_iff.1 hz
     have := List.pairwise_iff_getElem.1 hv j (m - 1) q1 q2 q
     rw [e1, e2] at this; omega
    ·have : j = m - 1 := by omega
     subst this
     rw [hz] at hj; cases hj; omega
 obtain ⟨r, h, p, rfl, hp⟩ := this
 exact ⟨p, h, hp⟩
theorem yr6 {x y : List Change} (hx : IncC x) (hy : IncC y) (lx : x.length <= 24) (ly : y.length <= 24) (hc : ∀ c ∈ x, ∀ d ∈ y, c.Trip.Id = d.Trip.Id -> c = d) : ∃ m, iter (ybz x y) ((0 : Int), ([] ++ x : List Change)) = some m /\ Mg x y m /\ x.length <= m.length := by
 have : Tot (iter (ybz x y) ((0 : Int), ([] ++ x : List Change))) fun m => Mg x y m /\ x.length <= m.length := by
  refine .iter (fun k (s : Int × List Change) => ∃ i : Nat, k + i = y.length /\ s.1 = (i : Int) /\ IncC s.2 /\ (∀ c, c ∈ s.2 ↔ c ∈ x \/ c ∈ y.take i) /\ s.2.length <= x.length + i /\ x.length <= s.2.length) (n := y.length) ⟨0, by omega, rfl, by simpa using hx, fun c => by simp, by simp, by simp⟩ ?_
  rintro k ⟨v1, v⟩ ⟨i, hk, h1, h2, h3, h4, h5⟩
  dsimp only at h1 h2 h3 h4 h5
  subst h1
  unfold ybz
  dsimp only
  refine .iteP (fun hlt => ?_) (fun hge => .dn ⟨⟨h2, fun c => by rw [h3, List.take_of_length_le (by omega)], by omega⟩, h5⟩)
  obtain ⟨e, he⟩ := ja8 (l := y) (i := i) (by omega)
  have hey := List.mem_of_getElem? he
  have ht : ∀ c, c ∈ y.take (i + 1) ↔ c ∈ y.take i \/ c = e := fun c => by rw [jbe he]; simp
  rw [ixs he]
  simp only [qb, ycd x (by omega)]
  by_cases hf : fixI (fun d => d.Trip.Id == e.Trip.Id) x < 0
  ·have hn := ycc hf
   have hne : ∀ c ∈ v, c.Trip.Id ≠ e.Trip.Id := fun c hcv q => by
    rcases (h3 c).1 hcv with w | w
    ·have := hn c w; simp [q] at this
    ·obtain ⟨j, hj⟩ := List.mem_iff_getElem?.1 w
     have hji : j < i := by have := jbw hj; rw [List.length_take] at this; omega
     rw [List.getElem?_take_of_lt hji] at hj
     have := yel hy hj he q
     omega
   obtain ⟨p, p1, p2, p3, p4⟩ := yr7 he h2 (by omega) hne
   have e1 : ((p : Nat) : Int).toNat = p := Int.toNat_natCast p
   have e2 : (0 : Int).toNat = 0 := rfl
   rw [if_neg (by simp; omega), p1]
   simp only [qb, e1, e2, List.drop_zero, List.nil_append]
   rw [jaq ⟨by omega, by omega, by omega⟩, qb, jaq (by simp; omega), qb, jaq (by simp; omega), qb, jaq ⟨by omega, by omega⟩, qb, jaq (by simp; omega), qb, qb]
   have hmem : ∀ c, c ∈ v ↔ c ∈ v.take p \/ c ∈ v.drop p := fun c => by rw [<- List.mem_append, List.take_append_drop]
   have hsp := List.pairwise_append.1 (show IncC (v.take p ++ v.drop p) by rw [List.take_append_drop]; exact h2)
   refine .nx ⟨k - 1, by omega, i + 1, by omega, jak (by omega), ?_, fun c => ?_, by simp; omega, by simp; omega⟩
   ·show IncC (v.take p ++ [e] ++ v.drop p)
    rw [List.append_assoc, List.singleton_append]
    refine List.pairwise_append.2 ⟨hsp.1, List.pairwise_cons.2 ⟨p4, hsp.2.1⟩, fun a ha b hb => ?_⟩
    rcases List.mem_cons.1 hb with rfl | hb
    ·exact p3 a ha
    ·have := p3 a ha; have := p4 b hb; omega
   ·rw [ht, <- or_assoc, <- h3, hmem]
    simp only [List.mem_append, List.mem_singleton]
    constructor
    ·rintro ((h | h) | h)
     ·exact .inl (.inl h)
     ·exact .inr h
     ·exact .inl (.inr h)
    ·rintro ((h | h) | h)
     ·exact .inl (.inl h)
     ·exact .inr h
     ·exact .inl (.inr h)
  ·obtain ⟨j, d, j1, j2, j3, _⟩ := je9 hf
   have hd := List.mem_of_getElem? j2
   have hde : d = e := hc d hd e hey (by simpa using j3)
   rw [if_pos (by simp; omega), qb]
   refine .nx ⟨k - 1, by omega, i + 1, by omega, jak (by omega), h2, fun c => ?_, by show v.length <= _; omega, h5⟩
   rw [ht, <- or_assoc, <- h3]
   refine ⟨.inl, fun h => ?_⟩
   rcases h with h | h
   ·exact h
   ·exact (h3 c).2 (.inl (by rw [h, <- hde]; exact hd))
 obtain ⟨m, h1, h2, h3⟩ := this
 exact ⟨m, h1, h2, h3⟩
theorem yoe {t : Timetable} {x y m : List Change} (hx : PosL t x) (hy : PosL t y) (h : Mg x y m) : PosL t m := fun hg c hc => by
 rcases (h.2.1 c).1 hc with q | q
 ·exact hx hg c q
 ·exact hy hg c q
theorem ya4 {t : Timetable} (hb : TB t) {x y : List Change} (px : PosL t x) (py : PosL t y) : ∃ m b, zq9 t x y = some (m, b) /\ zq42 t x y = some (m, b) /\ (b = false -> m = []) /\ (b = true -> yae t /\ IncC x /\ IncC y /\ x.length <= 24 /\ y.length <= 24 /\ cf x y = [] /\ Mg x y m /\ x.length <= m.length /\ zq5 t x = some true /\ zq5 t y = some true /\ zq5 t m = some true) := by
 obtain ⟨b1, p1, p2, p3⟩ := yaj hb px
 obtain ⟨b2, q1, q2, q3⟩ := yaj hb py
 unfold zq9 zq42
 rw [p1, p2, q1, q2]
 cases b1 with
 | false => exact ⟨[], false, rfl, rfl, fun _ => rfl, fun h => (by cases h)⟩
 | true =>
 cases b2 with
 | false => exact ⟨[], false, rfl, rfl, fun _ => rfl, fun h => (by cases h)⟩
 | true =>
 obtain ⟨hg, hx, lx, _⟩ := p3 rfl
 obtain ⟨_, hy, ly, _⟩ := q3 rfl
 simp only [qb, Bool.not_true, Bool.false_eq_true, if_false, ylw (x := x) (y := y) (by omega) (by omega), yod (x := x) (y := y) (by omega) (by omega) hy]
 by_cases hcf : cf x y = []
 ·have hc := yl6.1 hcf
  obtain ⟨l, m, m1, m2, m3⟩ := yog hx hy lx ly hc
  obtain ⟨m', n1, n2, n3⟩ := yr6 hx hy lx ly hc
  have hmm : m = m' := ybs m3.1 n2.1 fun c => (m3.2.1 c).trans (n2.2.1 c).symm
  subst hmm
  obtain ⟨b3, r1, r2, r3⟩ := yaj hb (yoe px py m3)
  rw [hcf, if_neg (by simp), if_neg (by simp), yeo (by omega) (by omega), qb, m1, qb, m2, qb, r1, qb, jaq (by simp; omega), qb, n1, qb, r2, qb]
  cases b3 with
  | false => exact ⟨[], false, rfl, rfl, fun _ => rfl, fun h => (by cases h)⟩
  | true => exact ⟨m, true, rfl, rfl, fun h => (by cases h), fun _ => ⟨hg, hx, hy, lx, ly, rfl, m3, n3, trivial, trivial, r1⟩⟩
 ·have hpos : 0 < (cf x y).length := List.length_pos_iff.2 hcf
  rw [if_pos (by simp; omega), if_pos (by simp; omega)]
  exact ⟨[], false, rfl, rfl, fun _ => rfl, fun h => (by cases h)⟩
noncomputable def clT (t : Timetable) (stop : Int) (x : Trip) : Option A2_Int := match idx t.Network.Lines x.Line with
 | some l => if 0 <= fixI (fun e => stop == e) l.Stops then some ⟨x.Start + (l.Runs.take (fixI (fun e => stop == e) l.Stops).toNat).sum, x.Id⟩ else none
 | none => none
noncomputable def BT (t : Timetable) (stop : Int) : List A2_Int := t.Trips.filterMap (clT t stop)
theorem yoi {t : Timetable} {stop : Int} {x : Trip} {a : A2_Int} (h : clT t stop x = some a) : a.X1 = x.Id := by
 unfold clT at h
 split at h
 ·split at h
  ·cases h; rfl
  ·cases h
 ·cases h
theorem yok {t : Timetable} (hg : yae t) (stop : Int) : (BT t stop).Pairwise fun a b => a.X1 < b.X1 := by
 unfold BT
 refine List.Pairwise.filterMap _ ?_ (ydu hg)
 intro a a' h b hb b' hb'
 rw [yoi hb, yoi hb']; exact h
theorem ylg {t : Timetable} {stop : Int} {i : Nat} {x : Trip} (h : t.Trips[i]? = some x) : (t.Trips.take (i + 1)).filterMap (clT t stop) = (t.Trips.take i).filterMap (clT t stop) ++ (clT t stop x).toList := by
 rw [jbe h, List.filterMap_append]
 congr 1
theorem yoh {t : Timetable} {stop : Int} (i : Nat) : ((t.Trips.take i).filterMap (clT t stop)).length <= i := by
 have := List.length_filterMap_le (clT t stop) (t.Trips.take i)
 rw [List.length_take] at this
 omega
theorem yf9 {t : Timetable} (hb : TB t) (hg : yae t) (stop : Int) : iter (ydj t stop) ((0 : Int), ([] : List A2_Int)) = some (BT t stop) := by
 have h12 := hg.2.1
 refine Tot.val (.iter (fun m (s : Int × List A2_Int) => ∃ i : Nat, m + i = t.Trips.length /\ s.1 = (i : Int) /\ s.2 = (t.Trips.take i).filterMap (clT t stop)) (n := t.Trips.length) ⟨0, by omega, rfl, rfl⟩ ?_)
 rintro m ⟨v, c⟩ ⟨i, hm, h1, h2⟩
 dsimp only at h1 h2
 subst h1
 unfold ydj
 dsimp only
 refine .iteP (fun hlt => ?_) (fun hge => .dn (by rw [h2, List.take_of_length_le (by omega)]; rfl))
 obtain ⟨x, hx⟩ := ja8 (l := t.Trips) (i := i) (by omega)
 obtain ⟨l, hl, hp, _, hs, _⟩ := yb9 hg hx
 have hlr := yal hp
 have hfl := yoh (t := t) (stop := stop) i
 have htk := ylg (stop := stop) hx
 rw [ixs hx]
 simp only [qb, yef hl, ybi l.Stops (by omega) stop]
 by_cases hf : 0 <= fixI (fun e => stop == e) l.Stops
 ·obtain ⟨j, z, j1, j2, _⟩ := je9 (p := fun e => stop == e) (l := l.Stops) (by omega)
  have hj := jbw j2
  have hc : clT t stop x = some ⟨x.Start + (l.Runs.take j).sum, x.Id⟩ := by
   unfold clT
   rw [hl]
   dsimp only
   rw [if_pos hf, j1]; rfl
  rw [hc] at htk
  rw [j1, if_pos (by simp), yec hl hp hs, qb, ixs (yn4 (l := l) (s := x.Start) (k := j) (by omega)), qb, jaq (by rw [h2]; simp; omega)]
  exact .nx ⟨m - 1, by omega, i + 1, by omega, jak (by omega), by show c ++ _ = _; rw [h2, htk]; rfl⟩
 ·have hc : clT t stop x = none := by
   unfold clT
   rw [hl]
   dsimp only
   rw [if_neg hf]
  rw [hc] at htk
  rw [if_neg (by simp; omega)]
  exact .nx ⟨m - 1, by omega, i + 1, by omega, jak (by omega), by show c = _; rw [h2, htk]; simp⟩
def fl2 (l : List A2_Int) : List Int := l.flatMap fun a => [a.X1, a.X0]
theorem ylx (l : List A2_Int) : (fl2 l).length = 2 * l.length := by
 induction l with
 | nil => rfl
 | cons a l ih => unfold fl2 at ih ⊢; rw [List.flatMap_cons, List.length_append, ih]; simp; omega
theorem yly : ∀ {l m : List A2_Int}, fl2 l = fl2 m -> l = m
 | [], [], _ => rfl
 | [], b :: m, h => by simp [fl2] at h
 | a :: l, [], h => by simp [fl2] at h
 | a :: l, b :: m, h => by
  unfold fl2 at h
  simp only [List.flatMap_cons, List.cons_append, List.nil_append, List.cons.injEq] at h
  obtain ⟨h1, h2, h3⟩ := h
  rw [yly (l := l) (m := m) h3]
  have : a = b := by cases a; cases b; simp only at h1 h2; rw [h1, h2]
  rw [this]
theorem yee {t : Timetable} (hb : TB t) (hg : yae t) (stop : Int) : zq67 t stop = some (fl2 (BT t stop)) := by
 have h12 := hg.2.1
 unfold zq67
 refine Tot.val (.call (P := fun r => r = fl2 (BT t stop)) (.iter (fun m (s : Int × List Int) => ∃ i : Nat, m + i = t.Trips.length /\ s.1 = (i : Int) /\ s.2 = fl2 ((t.Trips.take i).filterMap (clT t stop))) (n := t.Trips.length) ⟨0, by omega, rfl, rfl⟩ ?_) fun r hr => by subst hr; exact .ok rfl)
 rintro m ⟨v, c⟩ ⟨i, hm, h1, h2⟩
 dsimp only at h1 h2
 subst h1
 unfold yey
 dsimp only
 refine .iteP (fun hlt => ?_) (fun hge => .dn (by rw [h2, List.take_of_length_le (by omega)]; rfl))
 obtain ⟨x, hx⟩ := ja8 (l := t.Trips) (i := i) (by omega)
 obtain ⟨l, hl, hp, _, hs, _⟩ := yb9 hg hx
 have hlr := yal hp
 have hfl := yoh (t := t) (stop := stop) i
 have hlen := ylx ((t.Trips.take i).filterMap (clT t stop))
 have htk := ylg (stop := stop) hx
 simp only [yca hx hl, qb, ybe l (by omega) stop]
 by_cases hf : 0 <= fixI (fun e => stop == e) l.Stops
 ·obtain ⟨j, z, j1, j2, _⟩ := je9 (p := fun e => stop == e) (l := l.Stops) (by omega)
  have hj := jbw j2
  have hc : clT t stop x = some ⟨x.Start + (l.Runs.take j).sum, x.Id⟩ := by
   unfold clT
   rw [hl]
   dsimp only
   rw [if_pos hf, j1]; rfl
  rw [hc] at htk
  rw [j1, if_pos (by simp), ixs hx, qb, ylp hg.1 hx hl hs (by omega), qb, jaq (by rw [h2]; simp; omega)]
  exact .nx ⟨m - 1, by omega, i + 1, by omega, jak (by omega), by show c ++ _ = _; rw [h2, htk]; simp [fl2]⟩
 ·have hc : clT t stop x = none := by
   unfold clT
   rw [hl]
   dsimp only
   rw [if_neg hf]
  rw [hc] at htk
  rw [if_neg (by simp; omega)]
  exact .nx ⟨m - 1, by omega, i + 1, by omega, jak (by omega), by show c = _; rw [h2, htk]; simp⟩
theorem cmp2 (a b : A2_Int) : zq14 a b = some (if a.X0 < b.X0 then -1 else if b.X0 < a.X0 then 1 else if a.X1 < b.X1 then -1 else if b.X1 < a.X1 then 1 else 0) := by
 unfold zq14 zq95
 have s0 : yar [a.X0, a.X1] [b.X0, b.X1] 0 = some (if a.X0 < b.X0 then .dn (.ret (-1)) else if b.X0 < a.X0 then .dn (.ret 1) else .nx 1) := by
  unfold yar
  dsimp only
  rw [if_pos (by simp), show idx [a.X0, a.X1] 0 = some a.X0 from rfl, qb, if_neg (by simp), show idx [b.X0, b.X1] 0 = some b.X0 from rfl, qb, ya1, qb]
  split
  ·rfl
  ·split
   ·rfl
   ·rfl
 have s1 : yar [a.X0, a.X1] [b.X0, b.X1] 1 = some (if a.X1 < b.X1 then .dn (.ret (-1)) else if b.X1 < a.X1 then .dn (.ret 1) else .nx 2) := by
  unfold yar
  dsimp only
  rw [if_pos (by simp), show idx [a.X0, a.X1] 1 = some a.X1 from rfl, qb, if_neg (by simp), show idx [b.X0, b.X1] 1 = some b.X1 from rfl, qb, ya1, qb]
  split
  ·rfl
  ·split
   ·rfl
   ·rfl
 have s2 : yar [a.X0, a.X1] [b.X0, b.X1] 2 = some (.dn (.go ())) := by
  unfold yar
  dsimp only
  rw [if_neg (by simp)]
 by_cases h1 : a.X0 < b.X0
 ·rw [if_pos h1] at s0
  rw [jdj s0, if_pos h1]; rfl
 ·rw [if_neg h1] at s0
  rw [if_neg h1]
  by_cases h2 : b.X0 < a.X0
  ·rw [if_pos h2] at s0
   rw [jdj s0, if_pos h2]; rfl
  ·rw [if_neg h2] at s0
   rw [jd4 s0, if_neg h2]
   by_cases h3 : a.X1 < b.X1
   ·rw [if_pos h3] at s1
    rw [jdj s1, if_pos h3]; rfl
   ·rw [if_neg h3] at s1
    rw [if_neg h3]
    by_cases h4 : b.X1 < a.X1
    ·rw [if_pos h4] at s1
     rw [jdj s1, if_pos h4]; rfl
    ·rw [if_neg h4] at s1
     rw [jd4 s1, jdj s2, if_neg h4]; rfl
def le2 (a b : A2_Int) : Prop := a.X0 < b.X0 \/ (a.X0 = b.X0 /\ a.X1 <= b.X1)
theorem lt2 : Pdq.Lt zq14 le2 := by
 refine ⟨fun x y => by unfold le2; omega, fun {x y z} h1 h2 => by unfold le2 at *; omega, fun x y => ⟨_, cmp2 x y, ?_⟩⟩
 unfold le2
 by_cases h1 : x.X0 < y.X0
 ·have : ¬ (y.X0 < x.X0 \/ y.X0 = x.X0 /\ y.X1 <= x.X1) := by omega
  simp only [h1, if_true, this, not_false_iff, iff_true]; decide
 ·by_cases h2 : y.X0 < x.X0
  ·simp [h1, h2]
  ·by_cases h3 : x.X1 < y.X1
   ·simp [h1, h2, h3] <;> omega
   ·by_cases h4 : y.X1 < x.X1 <;> simp [h1, h2, h3, h4] <;> omega
theorem pq2 : ∀ n, yb2 n = Pdq.pdq_k ybc ya9 zq14 n
 | 0 => rfl
 | n + 1 => by
  show yba (yb2 n) = Pdq.pdq_F ybc ya9 zq14 (Pdq.pdq_k ybc ya9 zq14 n)
  rw [pq2 n]
  rfl
theorem srt2 (l : List A2_Int) (h : l.length < 4294967296) : Tot (yfy l) fun l' => l'.Perm l := by
 unfold yfy
 refine Tot.call (ylo _ (by dsimp only; rw [ybd (by omega) (by omega)]; omega) (by dsimp only; rw [ybd (by omega) (by omega)]; omega)) fun r _ => ?_
 unfold ymq
 rw [pq2]
 exact Tot.call (Pdq.pdq_ok lt2 hlp (limit := r) h) fun l' hl' => .ok hl'.1
theorem yoj {a b : A2_Int} : ((a.X0 == b.X0) && ((a.X1 == b.X1) && true)) = true ↔ a = b := by
 cases a; cases b; simp [A2_Int.mk.injEq]
theorem ysa (l m : List A2_Int) (hl : l.length <= 1000) : ∃ q : Bool, yf6 l m = some q /\ (q = true ↔ l = m) := by
 unfold yf6
 by_cases hn : l.length = m.length
 ·rw [if_neg (by simp; omega)]
  have : Tot (flb (iter (ybr l m) (0 : Int)) fun (_ : Unit) => some true) fun q => q = true ↔ l = m := by
   refine .flb (.iter (fun k (v : Int) => ∃ i : Nat, k + i = l.length /\ v = (i : Int) /\ l.take i = m.take i) (n := l.length) ⟨0, by omega, rfl, rfl⟩ ?_)
   rintro k _ ⟨i, hk, rfl, he⟩
   unfold ybr
   dsimp only
   refine .iteP (fun hlt => ?_) (fun hge => .dn ⟨fun r hr => (by cases hr), fun u _ => .ok ⟨fun _ => by rwa [List.take_of_length_le (by omega), List.take_of_length_le (by omega)] at he, fun _ => rfl⟩⟩)
   obtain ⟨x, hx⟩ := ja8 (l := l) (i := i) (by omega)
   obtain ⟨y, hy⟩ := ja8 (l := m) (i := i) (by omega)
   rw [ixs hx, qb, ixs hy, qb]
   by_cases hxy : x = y
   ·rw [yoj.2 hxy, if_neg (by simp)]
    exact .nx ⟨k - 1, by omega, i + 1, by omega, jak (by omega), by rw [jbe hx, jbe hy, he, hxy]⟩
   ·have : ((x.X0 == y.X0) && ((x.X1 == y.X1) && true)) = false := by
     cases h : ((x.X0 == y.X0) && ((x.X1 == y.X1) && true)) with
     | false => rfl
     | true => exact absurd (yoj.1 h) hxy
    rw [this]
    simp only [Bool.not_false, if_true]
    refine .dn ⟨fun r hr => (by cases hr; simp; rintro rfl; rw [hx] at hy; cases hy; exact hxy rfl), fun u hu => (by cases hu)⟩
  obtain ⟨q, h1, h2⟩ := this
  exact ⟨q, h1, h2⟩
 ·rw [if_pos (by simp; omega)]
  exact ⟨false, rfl, by simp; rintro rfl; exact hn rfl⟩
theorem ynt (l m : List Int) (hl : l.length <= 1000) : ∃ q : Bool, zq65 l m = some q /\ (q = true ↔ l = m) := by
 unfold zq65
 by_cases hn : l.length = m.length
 ·rw [if_neg (by simp; omega)]
  have : Tot (flb (iter (yc2 l m) (0 : Int)) fun (_ : Unit) => some true) fun q => q = true ↔ l = m := by
   refine .flb (.iter (fun k (v : Int) => ∃ i : Nat, k + i = l.length /\ v = (i : Int) /\ l.take i = m.take i) (n := l.length) ⟨0, by omega, rfl, rfl⟩ ?_)
   rintro k _ ⟨i, hk, rfl, he⟩
   unfold yc2
   dsimp only
   refine .iteP (fun hlt => ?_) (fun hge => .dn ⟨fun r hr => (by cases hr), fun u _ => .ok ⟨fun _ => by rwa [List.take_of_length_le (by omega), List.take_of_length_le (by omega)] at he, fun _ => rfl⟩⟩)
   obtain ⟨x, hx⟩ := ja8 (l := l) (i := i) (by omega)
   obtain ⟨y, hy⟩ := ja8 (l := m) (i := i) (by omega)
   rw [ixs hx, qb, ixs hy, qb]
   by_cases hxy : x = y
   ·rw [if_neg (by simp [hxy])]
    exact .nx ⟨k - 1, by omega, i + 1, by omega, jak (by omega), by rw [jbe hx, jbe hy, he, hxy]⟩
   ·rw [if_pos (by simp [hxy])]
    refine .dn ⟨fun r hr => (by cases hr; simp; rintro rfl; rw [hx] at hy; cases hy; exact hxy rfl), fun u hu => (by cases hu)⟩
  obtain ⟨q, h1, h2⟩ := this
  exact ⟨q, h1, h2⟩
 ·rw [if_pos (by simp; omega)]
  exact ⟨false, rfl, by simp; rintro rfl; exact hn rfl⟩
theorem yl8 {t : Timetable} (hg : yae t) (stop : Int) : (BT t stop).length <= 12 := by
 have := List.length_filterMap_le (clT t stop) t.Trips
 have := hg.2.1
 unfold BT; omega
theorem yem {t : Timetable} (hb : TB t) (hg : yae t) (stop : Int) : ∃ A, zq13 t stop = some A /\ A.Perm (BT t stop) /\ yfy (BT t stop) = some A := by
 have hl := yl8 hg stop
 obtain ⟨A, h1, h2⟩ := srt2 (BT t stop) (by omega)
 exact ⟨A, by unfold zq13; rw [yf9 hb hg, qb, h1]; rfl, h2, h1⟩
theorem yeb {t u : Timetable} (hb : TB t) (hg : yae t) (hb2 : TB u) (hg2 : yae u) (v : Int) : ∃ (A B : List A2_Int) (C D : List Int) (q : Bool), zq13 t v = some A /\ zq13 u v = some B /\ yf6 A B = some q /\ zq67 t v = some C /\ zq67 u v = some D /\ zq65 C D = some q := by
 obtain ⟨A, a1, a2, a3⟩ := yem hb hg v
 obtain ⟨B, b1, b2, b3⟩ := yem hb2 hg2 v
 have la := yl8 hg v
 have lb := yl8 hg2 v
 have lA := a2.length_eq
 have lC := ylx (BT t v)
 obtain ⟨q, q1, q2⟩ := ysa A B (by omega)
 obtain ⟨r, r1, r2⟩ := ynt (fl2 (BT t v)) (fl2 (BT u v)) (by omega)
 have hqr : q = r := by
  refine Bool.eq_iff_iff.2 ?_
  rw [q2, r2]
  constructor
  ·intro e
   subst e
   have hp : (BT t v).Perm (BT u v) := a2.symm.trans b2
   have := List.Perm.eq_of_pairwise (le := fun a b : A2_Int => a.X1 < b.X1) (fun a b _ _ h3 h4 => by omega) (yok hg v) (yok hg2 v) hp
   rw [this]
  ·intro e
   have := yly e
   rw [this, b3] at a3
   exact (Option.some.inj a3).symm
 subst hqr
 exact ⟨A, B, _, _, q, a1, b1, q1, yee hb hg v, yee hb2 hg2 v, r1⟩
theorem yeq {t : Timetable} (hb : TB t) {m : List Change} (pm : PosL t m) (hv : zq5 t m = some true) : ∃ l, zq3 t m = some (l, true) /\ zq38 t m = some (l, true) /\ l.length <= 1000 := by
 obtain ⟨b, p1, p2, p3⟩ := yaj hb pm
 rw [hv] at p1
 cases p1
 obtain ⟨hg, hm, lm, u, u1, u2, u3, u4, u5⟩ := p3 rfl
 have hn : t.Network.Stops.length <= 1000 := hb.1.1
 have hstep : yc8 t (u, true) = ycm t (u, true) := by
  funext ⟨v, v1⟩
  obtain ⟨A, B, C, D, q, e1, e2, e3, e4, e5, e6⟩ := yeb hb hg u4 u3 v
  unfold yc8 ycm
  dsimp only
  rw [show (⟨⟨u.Network.Stops, u.Network.Lines⟩, u.Trips⟩ : Timetable) = u from rfl, e1, e2, e4, e5]
  simp only [qb, e3, e6]
 obtain ⟨l, h1, h2⟩ : Tot (iter (ycm t (u, true)) ((0 : Int), ([] : List Int))) fun l => l.length <= 1000 := by
  refine .iter (fun k (s : Int × List Int) => ∃ i : Nat, k + i = t.Network.Stops.length /\ s.1 = (i : Int) /\ s.2.length <= i) (n := t.Network.Stops.length) ⟨0, by omega, rfl, by simp⟩ ?_
  rintro k ⟨v, v1⟩ ⟨i, hk, h1, h2⟩
  dsimp only at h1 h2
  subst h1
  obtain ⟨A, B, C, D, q, e1, e2, e3, e4, e5, e6⟩ := yeb hb hg u4 u3 (i : Int)
  unfold ycm
  dsimp only
  refine .iteP (fun hlt => ?_) (fun hge => .dn (by omega))
  rw [e1, e2]
  simp only [qb, e3]
  refine .call (P := fun l => l.length <= i + 1) (.ite (fun _ => .chk (by simp; omega) (.ok (by simp; omega))) fun _ => .ok (by omega)) fun l hl => .nx ⟨k - 1, by omega, i + 1, by omega, jak (by omega), hl⟩
 refine ⟨l, ?_, ?_, h2⟩
 ·unfold zq3 zq2
  rw [yb8 hb]
  simp only [hg, decide_true, qb, Bool.not_true, Bool.false_eq_true, if_false, u1, h1]
 ·unfold zq38
  rw [p2]
  simp only [qb, Bool.not_true, Bool.false_eq_true, if_false, u2, hstep, h1]
theorem yce {k : Nat} {c : l1Cur} (h : Cur k c) (hk : k <= 10000000) {t : Timetable} (hd : DT t) : Tot (zq47 c t) fun r => Cur (k + 200) r.2 /\ r.1.length <= 31 /\ PosL t r.1 := by
 have h30 := hd.2
 unfold zq47
 refine .call (P := fun o => Cur (k + 120) ⟨o.1, o.2.1, ⟨o.2.2.1⟩⟩ /\ o.2.2.2.length <= 30 /\ PosL t o.2.2.2) (.iter (fun m (s : Int × List UInt8 × Int × Int × List Change) => ∃ i : Nat, m + i = t.Trips.length /\ s.1 = (i : Int) /\ Cur (k + 4 * i) ⟨s.2.1, s.2.2.1, ⟨s.2.2.2.1⟩⟩ /\ s.2.2.2.2.length <= i /\ PosL t s.2.2.2.2) (n := t.Trips.length) ⟨0, by omega, rfl, h, by simp, ylk t⟩ ?_) fun ⟨v7, v8, v9, x2⟩ ⟨hc, hx2, px2⟩ => ?_
 ·rintro m ⟨i0, v, v1, v2, x⟩ ⟨i, hm, hi, hc, hx, px⟩
  dsimp only at hi hc hx px
  subst hi
  unfold ye3
  dsimp only
  refine .iteP (fun hlt => ?_) (fun hge => .dn ⟨hc.mono (by omega), by show x.length <= 30; omega, px⟩)
  obtain ⟨e, he⟩ := ja8 (l := t.Trips) (i := i) (by omega)
  have pe : yae t -> 0 < e.Id := fun hg => by obtain ⟨_, _, _, hh, _⟩ := yb9 hg he; omega
  refine .call (P := fun o => Cur (k + 4 * i + 4) ⟨o.1, o.2.1, ⟨o.2.2.1⟩⟩ /\ o.2.2.2.length <= i + 1 /\ PosL t o.2.2.2) (.eq (ixs he) (.call (ybh 6 hc (by omega)) fun r ⟨hr, _⟩ => .ite (fun _ => .chk (by simp; omega) (.ok ⟨hr.mono (by omega), by simp; omega, ydr px pe⟩)) (fun _ => ?_))) fun ⟨v3, v4, v5, x1⟩ ⟨p1, p2, p3⟩ => .nx ⟨m - 1, by omega, i + 1, by omega, jak (by omega), p1.mono (by omega), p2, p3⟩
  have hb : ∃ b : Bool, (if (r.1 == 1) = true then some (r.1 == 1) else some (r.1 == 2)) = some b := by split <;> exact ⟨_, rfl⟩
  obtain ⟨b, hb⟩ := hb
  refine .eq hb (.ite (fun _ => .call (yns _ (by simp) hr (by omega)) fun r2 ⟨hr2, _⟩ => .chk (by simp; omega) (.ok ⟨hr2.mono (by omega), by simp; omega, ydr px pe⟩)) (fun _ => .ok ⟨hr.mono (by omega), by show x.length <= i + 1; omega, px⟩))
 ·dsimp only at hc hx2 px2 ⊢
  refine .call (P := fun o => Cur (k + 130) ⟨o.1, o.2.1, ⟨o.2.2.1⟩⟩ /\ o.2.2.2.length <= 31 /\ PosL t o.2.2.2) (.call (ylh 2 hc (by omega)) fun r3 hr3 => .ite (fun _ => .call (ybh 9 hr3 (by omega)) fun r4 ⟨hr4, w1, w2⟩ => .call (ybh 9 hr4 (by omega)) fun r5 ⟨hr5, _⟩ => .chk (by simp; omega) (.ok ⟨hr5.mono (by omega), by simp; omega, ydr px2 fun _ => by show 0 < w64 (40 + r4.1); rw [jai (by omega)]; omega⟩)) (fun _ => .ok ⟨hr3.mono (by omega), by show x2.length <= 31; omega, px2⟩)) fun ⟨v10, v11, v12, x3⟩ ⟨hc2, hx3, px3⟩ => ?_
  dsimp only at hc2 hx3 px3 ⊢
  refine .call (P := fun o => Cur (k + 180) ⟨o.1, o.2.1, ⟨o.2.2.1⟩⟩ /\ o.2.2.2.length <= 31 /\ PosL t o.2.2.2) (.call (P := fun o => Cur (k + 140) ⟨o.2.1, o.2.2.1, ⟨o.2.2.2⟩⟩ /\ (o.1 = true -> 0 < x3.length)) (.iteP (fun h0 => .call (ylh 8 hc2 (by omega)) fun r6 hr6 => .ok ⟨hr6.mono (by omega), fun _ => by omega⟩) (fun _ => .ok ⟨hc2.mono (by omega), fun h => (by cases h)⟩)) fun ⟨v16, v17, v18, v19⟩ ⟨hc3, hpos⟩ => ?_) fun ⟨v13, v14, v15, x4⟩ ⟨hc4, hx4, px4⟩ => .ok ⟨hc4.mono (by omega), hx4, px4⟩
  dsimp only at hc3 hpos ⊢
  refine .ite (fun hv => ?_) (fun _ => .ok ⟨hc3.mono (by omega), hx3, px3⟩)
  have h0 := hpos hv
  refine .call (ybh _ hc3 (by omega)) fun r7 ⟨hr7, q0, q1⟩ => ?_
  have hlt : r7.1 < (x3.length : Int) := by omega
  refine .idx q0 hlt fun e1 he1 => .call (P := fun o => Cur (k + 160) ⟨o.1, o.2.1, ⟨o.2.2.1⟩⟩) (.call (ybh 4 hr7 (by omega)) fun r8 ⟨hr8, _⟩ => .ite (fun _ => .call (ybh 5 hr8 (by omega)) fun r9 ⟨hr9, _⟩ => .ok (hr9.mono (by omega))) (fun _ => .ite (fun _ => .ok (hr8.mono (by omega))) (fun _ => .ite (fun _ => .call (yr5 hr8 (by omega)) fun r10 hr10 => .ok (hr10.mono (by omega))) (fun _ => .call (ybh 4 hr8 (by omega)) fun r11 ⟨hr11, _⟩ => .ok (hr11.mono (by omega)))))) fun ⟨v20, v21, v22, v23, v24, v25, v26⟩ hc5 => .idx q0 hlt fun e2 _ => .ok ⟨hc5.mono (by omega), by show (x3.set _ _).length <= 31; rw [List.length_set]; exact hx3, fun hg c hc => by
   rcases List.mem_or_eq_of_mem_set hc with q | q
   ·exact px3 hg c q
   ·subst q; exact px3 hg e1 (List.mem_of_getElem? he1)⟩
theorem yl0 (code : List UInt8) : Tot (zq40 code) fun r => TB r.1 /\ PosL r.1 r.2.1 /\ PosL r.1 r.2.2 := by
 have h0 := (cur0 code).mono (k' := 10) (by omega)
 unfold zq40
 refine .call (ynq h0 (by omega)) fun r ⟨hc, hd⟩ => .call (yce hc (by omega) hd) fun r1 ⟨hc1, hl1, hp1⟩ => .call (yce hc1 (by omega) hd) fun r2 ⟨hc2, hl2, hp2⟩ => .call (P := fun l => PosL r.1 l) (.call (ylh 2 hc2 (by omega)) fun r3 hr3 => .ite (fun _ => .call (P := fun l => PosL r.1 l) ?_ fun all3 h3 => .ok h3) fun _ => .ok hp2) fun all ha => .ok ⟨hd.tb, hp1, ha⟩
 refine .iter (fun m (s : Int × List UInt8 × Int × Int × List Change) => ∃ i : Nat, m + i = r2.1.length /\ s.1 = (i : Int) /\ Cur (10000 + 4 * i) ⟨s.2.1, s.2.2.1, ⟨s.2.2.2.1⟩⟩ /\ s.2.2.2.2.length <= i /\ PosL r.1 s.2.2.2.2) (n := r2.1.length) ⟨0, by omega, rfl, hr3.mono (by omega), by simp, ylk _⟩ ?_
 rintro m ⟨i0, v, v1, v2, x⟩ ⟨i, hm, hi, hc, hx, px⟩
 dsimp only at hi hc hx px
 subst hi
 obtain hge | ⟨e, he⟩ : r2.1.length <= i \/ ∃ e, r2.1[i]? = some e := by
  rcases Nat.lt_or_ge i r2.1.length with q | q
  ·exact .inr (ja8 q)
  ·exact .inl q
 ·unfold yc7
  dsimp only
  exact .iteP (fun hlt => by omega) fun _ => .dn px
 unfold yc7
 dsimp only
 refine .iteP (fun hlt => ?_) (fun hge => .dn px)
 refine .call (P := fun o => Cur (10000 + 4 * i + 4) ⟨o.1, o.2.1, ⟨o.2.2.1⟩⟩ /\ o.2.2.2.length <= i + 1 /\ PosL r.1 o.2.2.2) (.eq (ixs he) (.eq (ycd r1.1 (by omega) e.Trip.Id) (.call (P := fun o => Cur (10000 + 4 * i + 2) ⟨o.2.1, o.2.2.1, ⟨o.2.2.2⟩⟩) (.iteP (fun _ => .ok (hc.mono (by omega))) fun _ => .call (ylh 5 hc (by omega)) fun r5 hr5 => .ok (hr5.mono (by omega))) fun ⟨v7, v8, v9, v10⟩ hc7 => ?_))) fun ⟨v3, v4, v5, x1⟩ ⟨p1, p2, p3⟩ => .nx ⟨m - 1, by omega, i + 1, by omega, jak (by omega), p1.mono (by omega), p2, p3⟩
 dsimp only at hc7 ⊢
 exact .ite (fun _ => .eq (ixs he) (.chk (by simp; omega) (.ok ⟨hc7.mono (by omega), by simp; omega, ydr px fun hg => hp2 hg e (List.mem_of_getElem? he)⟩))) fun _ => .ok ⟨hc7.mono (by omega), by show x.length <= i + 1; omega, px⟩
theorem yl1 {t : Timetable} (hb : TB t) {x y : List Change} (px : PosL t x) (py : PosL t y) : ∃ l b, zq4 t x y = some (l, b) /\ zq39 t x y = some (l, b) /\ l.length <= 100 /\ (zq5 t x = some true -> zq5 t y = some true -> b = true /\ l = cf x y) := by
 obtain ⟨b1, p1, p2, p3⟩ := yaj hb px
 obtain ⟨b2, q1, q2, q3⟩ := yaj hb py
 unfold zq4 zq39
 rw [p1, p2, q1, q2]
 cases b1 with
 | false => exact ⟨[], false, rfl, rfl, by simp, fun h => (by cases h)⟩
 | true =>
 cases b2 with
 | false => exact ⟨[], false, rfl, rfl, by simp, fun _ h => (by cases h)⟩
 | true =>
 obtain ⟨hg, hx, lx, _⟩ := p3 rfl
 obtain ⟨_, hy, ly, _⟩ := q3 rfl
 have := yl7 x y
 refine ⟨cf x y, true, ?_, ?_, by omega, fun _ _ => ⟨rfl, rfl⟩⟩
 ·simp only [qb, Bool.not_true, Bool.false_eq_true, if_false, ylw (x := x) (y := y) (by omega) (by omega)]
 ·simp only [qb, Bool.not_true, Bool.false_eq_true, if_false, yod (x := x) (y := y) (by omega) (by omega) hy]
theorem yi5 {t : Timetable} (hb : TB t) {x y m n : List Change} {b b' : Bool} (px : PosL t x) (py : PosL t y) (h1 : zq9 t x y = some (m, b)) (h2 : zq9 t y x = some (n, b')) : m = n /\ b = b' := by
 obtain ⟨m1, c1, e1, _, f1, g1⟩ := ya4 hb px py
 obtain ⟨m2, c2, e2, _, f2, g2⟩ := ya4 hb py px
 rw [h1] at e1; cases e1
 rw [h2] at e2; cases e2
 have key : ∀ {x y m n : List Change} {c : Bool}, PosL t x -> PosL t y -> zq9 t x y = some (m, true) -> zq9 t y x = some (n, c) -> c = true := by
  intro x y m n c px py k1 k2
  obtain ⟨m3, c3, e3, _, _, g3⟩ := ya4 hb px py
  rw [k1] at e3; cases e3
  obtain ⟨hg, hx, hy, lx, ly, hcf, hM, _, vx, vy, vm⟩ := g3 rfl
  have hc : ∀ c ∈ y, ∀ d ∈ x, c.Trip.Id = d.Trip.Id -> c = d := fun c hc d hd e => (yl6.1 hcf d hd c hc e.symm).symm
  obtain ⟨l, m', m1, m2, m3⟩ := yog hy hx ly lx hc
  have hmm : m' = m := ybs m3.1 hM.1 fun c => (m3.2.1 c).trans ((or_comm).trans (hM.2.1 c).symm)
  subst hmm
  unfold zq9 at k2
  rw [vy, vx, qb] at k2
  simp only [qb, Bool.not_true, Bool.false_eq_true, if_false, ylw (x := y) (y := x) (by omega) (by omega), yl6.2 hc] at k2
  rw [if_neg (by simp), yeo (by omega) (by omega), qb, m1, qb, m2, qb, vm, qb, if_neg (by simp)] at k2
  simp only [Option.some.injEq, Prod.mk.injEq] at k2
  exact k2.2.symm
 cases b with
 | true =>
  have hb' := key px py h1 h2
  subst hb'
  obtain ⟨_, _, _, _, _, _, hM, _⟩ := g1 rfl
  obtain ⟨_, _, _, _, _, _, hN, _⟩ := g2 rfl
  exact ⟨ybs hM.1 hN.1 fun c => (hM.2.1 c).trans ((or_comm).trans (hN.2.1 c).symm), rfl⟩
 | false =>
  cases b' with
  | true => have := key py px h2 h1; cases this
  | false => exact ⟨by rw [f1 rfl, f2 rfl], rfl⟩
theorem merging_true (code : List UInt8) : yak code = some true := by
 unfold yak
 refine Tot.val (.eq (yrg code) (.iteP (fun _ => .ok rfl) (fun _ => ?_)))
 refine .call (yl0 code) fun ⟨t, x, y⟩ ⟨hb, px, py⟩ => ?_
 dsimp only at hb px py ⊢
 obtain ⟨m, b, m1, m2, m3, m4⟩ := ya4 hb px py
 obtain ⟨n, b', n1, n2, n3, n4⟩ := ya4 hb py px
 obtain ⟨rfl, rfl⟩ := yi5 hb px py m1 n1
 obtain ⟨l, d, l1, l2, l3, l4⟩ := yl1 hb px py
 have hml : m.length <= 1000 := by
  cases b with
  | false => rw [m3 rfl]; simp
  | true => obtain ⟨_, _, _, _, _, _, hM, _⟩ := m4 rfl; have := hM.2.2; omega
 rw [m1, n1, m2]
 simp only [qb, beq_self_eq_true, Bool.not_true, Bool.false_eq_true, if_false, ysc m (by omega), l1, l2, ycn l (by omega)]
 cases b with
 | false => rw [m3 rfl]; exact .ok rfl
 | true =>
  obtain ⟨hg, hx, hy, lx, ly, hcf, hM, hlx, vx, vy, vm⟩ := m4 rfl
  obtain ⟨_, _, _, _, _, _, _, hly, _⟩ := n4 rfl
  obtain ⟨rfl, rfl⟩ := l4 vx vy
  obtain ⟨s, s1, s2, s3⟩ := yeq hb (yoe px py hM) vm
  have hM2 := hM.2.2
  rw [hcf, s1, s2]
  simp only [Bool.not_true, Bool.false_eq_true, if_false, qb, if_true, List.length_nil]
  rw [if_pos (by simp), if_pos (by simp; omega), if_pos (by simp; omega), if_pos (by rw [jai (by omega)]; simp; omega), if_pos (by simp), ycn s (by omega)]
  exact .ok rfl
end Go.Proofs.YtmmffjenpfeapaaGreat
